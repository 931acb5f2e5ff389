/- What functions of the program come to, row by row (made by a program of the workplace). -/
import Derived.Test.YtepaifhehlpbaaaDoorTXh
import Derived.Test.YtepaifhehlpbaaaDoorProg
import Derived.Test.YtepaifhehlpbaaaDoorNl
namespace Go.SX
open Go.Proofs
set_option maxRecDepth 100000

def laws_big_0 (x0 : List Int) : Bool :=
  ltI (4096 : Int) (↑(List.length x0) : Int)

def F_laws_big : List SV → List Entry → Option Out
  | [.one ⟨false, [.ref 0]⟩], [.row false 5 (.int .u8) x0] => some ⟨(.one ⟨false, [(.val (.bool (laws_big_0 x0)))]⟩), [(.row false 5 (CTy.int IntKind.u8) x0)], [], []⟩
  | _, _ => none

def p_laws_big : PF Tryd.prog := PF.ofG Tryd.prog [] [] hmix 20 Tryd.f20 Tryd.func20 (fun c _ => LOk.nil c) F_laws_big (by
  intro vs es r h; unfold F_laws_big at h; split at h
  · cases h; kernel_rfl
  · cases h)

abbrev X_laws_FnPairs_l0 := Int × Int × ByteArray × Int × Int × Int × Int

def laws_FnPairs_l0_a0 (y1 : Int) (y2 : ByteArray) (y3 : Int) (y4 : Int) (y5 : Int) (y6 : Int) : Int × Int :=
  Prod.snd (sbS y1 y2 y3 y4 y5 y6 [(1 : Int), (0 : Int)])

def laws_FnPairs_l0_0 (y0 : Int) (y3 : Int) : Bool :=
  leI y0 y3

def laws_FnPairs_l0_1 (y2 : ByteArray) : Bool :=
  leN (ByteArray.size y2) (9223372036854775807 : Nat) && leN (List.length [(1 : Int), (0 : Int)]) (9223372036854775807 : Nat)

def laws_FnPairs_l0_2 (y1 : Int) (y2 : ByteArray) (y3 : Int) (y4 : Int) (y5 : Int) (y6 : Int) : Bool :=
  bif sbCode y1 y2 y3 y4 y5 y6 [(1 : Int), (0 : Int)] != (0 : Int) then true else sbV y1 y2 y3 y4 y5 y6 [(1 : Int), (0 : Int)] != (0 : Int)

def laws_FnPairs_l0_3 (y0 : Int) : Int :=
  IntKind.wrap IntKind.i64 (y0 + (1 : Int))

def laws_FnPairs_l0_4 (y1 : Int) (y2 : ByteArray) (y3 : Int) (y4 : Int) (y5 : Int) (y6 : Int) : Int :=
  Prod.fst (sbS y1 y2 y3 y4 y5 y6 [(1 : Int), (0 : Int)])

def laws_FnPairs_l0_5 (y1 : Int) (y2 : ByteArray) (y3 : Int) (y4 : Int) (y5 : Int) (y6 : Int) : Int :=
  Prod.fst (laws_FnPairs_l0_a0 y1 y2 y3 y4 y5 y6)

def laws_FnPairs_l0_6 (y1 : Int) (y2 : ByteArray) (y3 : Int) (y4 : Int) (y5 : Int) (y6 : Int) : Int :=
  Prod.snd (laws_FnPairs_l0_a0 y1 y2 y3 y4 y5 y6)

def JL_laws_FnPairs_l0 : X_laws_FnPairs_l0 → List (Nat × SV)
  | (y0, _, _, _, _, _, _) => [(17, (.one ⟨false, [(.val (.int IntKind.i64 y0))]⟩)), (3, (.one ⟨false, [(.ptr 0 0)]⟩)), (16, (.one ⟨false, [(.ptr 1 0)]⟩))]

def JE_laws_FnPairs_l0 : X_laws_FnPairs_l0 → List (Nat × Entry)
  | (_, y1, y2, y3, y4, y5, y6) => [(0, (.box 31 [(.val (.int IntKind.i64 y1)), (.val (.string y2)), (.val (.int IntKind.i64 y3))])), (1, (.box 28 [(.val (.int IntKind.i64 y4)), (.val (.int IntKind.i64 y5)), (.val (.int IntKind.i64 y6))]))]

def XL_laws_FnPairs_l0 : Nat → X_laws_FnPairs_l0 → List (Nat × SV)
  | 0, (_, _, _, _, _, _, _) => [(2, (.one ⟨false, [(.val (.bool false))]⟩))]
  | _, (_, _, _, _, _, _, _) => []

def XE_laws_FnPairs_l0 : Nat → X_laws_FnPairs_l0 → List (Nat × Entry)
  | 0, (_, y1, y2, y3, y4, y5, y6) => [(0, (.box 31 [(.val (.int IntKind.i64 y1)), (.val (.string y2)), (.val (.int IntKind.i64 y3))])), (1, (.box 28 [(.val (.int IntKind.i64 y4)), (.val (.int IntKind.i64 y5)), (.val (.int IntKind.i64 y6))]))]
  | _, (_, y1, y2, y3, y4, y5, y6) => [(0, (.box 31 [(.val (.int IntKind.i64 y1)), (.val (.string y2)), (.val (.int IntKind.i64 y3))])), (1, (.box 28 [(.val (.int IntKind.i64 y4)), (.val (.int IntKind.i64 y5)), (.val (.int IntKind.i64 y6))]))]

def lt_laws_FnPairs_l0 : X_laws_FnPairs_l0 → LT X_laws_FnPairs_l0
  | (y0, y1, y2, y3, y4, y5, y6) => .ite (laws_FnPairs_l0_0 y0 y3) (.need [(laws_FnPairs_l0_1 y2)] (.ite (laws_FnPairs_l0_2 y1 y2 y3 y4 y5 y6) (.ext 0 [(0, 0), (1, 1)]) (.nrm ((laws_FnPairs_l0_3 y0), y1, y2, y3, (laws_FnPairs_l0_4 y1 y2 y3 y4 y5 y6), (laws_FnPairs_l0_5 y1 y2 y3 y4 y5 y6), (laws_FnPairs_l0_6 y1 y2 y3 y4 y5 y6)) [(0, 0), (1, 1)]))) (.ext 1 [(0, 0), (1, 1)])

def rd_laws_FnPairs_l0 (s : St) : Option X_laws_FnPairs_l0 :=
  (match s.look 17 with
  | some ⟨none, (.one ⟨false, [(.val (.int IntKind.i64 y0))]⟩)⟩ =>
  (match s.look 3 with
  | some ⟨none, (.one ⟨false, [(.ptr 704 0)]⟩)⟩ =>
  (match s.look 16 with
  | some ⟨none, (.one ⟨false, [(.ptr 5888 0)]⟩)⟩ =>
  (match s.ent 704 with
  | some (.box 31 [(.val (.int IntKind.i64 y1)), (.val (.string y2)), (.val (.int IntKind.i64 y3))]) =>
  (match s.ent 5888 with
  | some (.box 28 [(.val (.int IntKind.i64 y4)), (.val (.int IntKind.i64 y5)), (.val (.int IntKind.i64 y6))]) =>
  some (y0, y1, y2, y3, y4, y5, y6)
  | _ => none)
  | _ => none)
  | _ => none)
  | _ => none)
  | _ => none)

def lp_laws_FnPairs_l0 : Lp X_laws_FnPairs_l0 where
  h := ⟨[98, 99, 100, 101, 105, 106, 107, 108, 104, 109, 110, 111, 19, 18, 20, 112, 113, 114, 115, 116, 117, 2, 118, 102, 103, 17], [0, 1], [], []⟩
  JL := JL_laws_FnPairs_l0
  JE := JE_laws_FnPairs_l0
  XL := XL_laws_FnPairs_l0
  XE := XE_laws_FnPairs_l0
  q := fun j => match j with | 0 => .ret | _ => .exit 0
  tags := [0, 1]
  lt := lt_laws_FnPairs_l0
  fuel := fun (y0, y1, y2, y3, y4, y5, y6) => y0.natAbs + y1.natAbs + y2.size + y3.natAbs + y4.natAbs + y5.natAbs + y6.natAbs
  fix := fun (_, y1, y2, y3, _, _, _) (y0, _, _, _, y4, y5, y6) => (y0, y1, y2, y3, y4, y5, y6)
  σ := [(0, 704), (1, 5888)]
  rd := rd_laws_FnPairs_l0

theorem lpok_laws_FnPairs_l0 : LoopOk Tryd.prog (fun k => Nat.blt k Tryd.f6.ntmps) lp_laws_FnPairs_l0.F (loopAt Tryd.f6 0) := by
  refine Lp.ok (tbl := [n_spec_StepBlock, PF.lend n_spec_StepBlock, PF.fz n_spec_StepBlock, n_impl_StepBlock, PF.lend n_impl_StepBlock, PF.fz n_impl_StepBlock, p_laws_big, PF.lend p_laws_big, PF.fz p_laws_big, n_spec_DrawStepBlock, PF.lend n_spec_DrawStepBlock, PF.fz n_spec_DrawStepBlock, n_impl_IsFaulty, n_spec_IsFaulty]) (lf := []) hmix lp_laws_FnPairs_l0 (by kernel_rfl) (LOk.nil _) (fun _ => rfl) (fun j _ => by unfold lp_laws_FnPairs_l0; match j with | 0 => rfl | _ + 1 => rfl) ?_ ?_ ?_ ?_ (fun _ => rfl) ?_
  · intro x; obtain ⟨y0, y1, y2, y3, y4, y5, y6⟩ := x; kernel_rfl
  · intro x; obtain ⟨y0, y1, y2, y3, y4, y5, y6⟩ := x; kernel_rfl
  · intro s x h
    have h : rd_laws_FnPairs_l0 s = some x := h
    unfold rd_laws_FnPairs_l0 at h
    repeat' split at h
    all_goals cases h
    exact ⟨absS_cons (by assumption) rfl (absS_cons (by assumption) rfl (absS_cons (by assumption) rfl (rfl))), absE_cons rfl (by assumption) rfl (absE_cons rfl (by assumption) rfl (rfl))⟩
  · intro x; obtain ⟨y0, y1, y2, y3, y4, y5, y6⟩ := x; kernel_rfl
  · intro x z; obtain ⟨y0, y1, y2, y3, y4, y5, y6⟩ := x; exact (And.intro (And.intro trivial rfl) trivial)

def laws_FnPairs_a0 (x0 : List Int) : Int :=
  sbCode (spec_DrawStepBlock_0 x0) (spec_DrawStepBlock_1 x0) (spec_DrawStepBlock_2 x0) (spec_DrawStepBlock_3 x0) (spec_DrawStepBlock_4 x0)
  (spec_DrawStepBlock_5 x0) (spec_DrawStepBlock_6 x0)

def laws_FnPairs_a1 (x0 : List Int) : Int :=
  sbV (spec_DrawStepBlock_0 x0) (spec_DrawStepBlock_1 x0) (spec_DrawStepBlock_2 x0) (spec_DrawStepBlock_3 x0) (spec_DrawStepBlock_4 x0)
  (spec_DrawStepBlock_5 x0) (spec_DrawStepBlock_6 x0)

def laws_FnPairs_a2 (x0 : List Int) : Int :=
  Prod.fst
  (sbS (spec_DrawStepBlock_0 x0) (spec_DrawStepBlock_1 x0) (spec_DrawStepBlock_2 x0) (spec_DrawStepBlock_3 x0) (spec_DrawStepBlock_4 x0)
    (spec_DrawStepBlock_5 x0) (spec_DrawStepBlock_6 x0))

def laws_FnPairs_a3 (x0 : List Int) : Int × Int :=
  Prod.snd
  (sbS (spec_DrawStepBlock_0 x0) (spec_DrawStepBlock_1 x0) (spec_DrawStepBlock_2 x0) (spec_DrawStepBlock_3 x0) (spec_DrawStepBlock_4 x0)
    (spec_DrawStepBlock_5 x0) (spec_DrawStepBlock_6 x0))

def laws_FnPairs_a4 (x0 : List Int) : Int :=
  fbCode (spec_DrawStepBlock_0 x0) (spec_DrawStepBlock_1 x0) (spec_DrawStepBlock_2 x0) (spec_DrawStepBlock_3 x0) (spec_DrawStepBlock_4 x0)
  (spec_DrawStepBlock_5 x0)

def laws_FnPairs_a5 (x0 : List Int) : Bool :=
  fbV (spec_DrawStepBlock_0 x0) (spec_DrawStepBlock_1 x0) (spec_DrawStepBlock_2 x0) (spec_DrawStepBlock_3 x0) (spec_DrawStepBlock_4 x0)
  (spec_DrawStepBlock_5 x0)

def laws_FnPairs_a6 (x0 : List Int) : Bool :=
  bif
    bif
        bif bif laws_FnPairs_a0 x0 != laws_FnPairs_a0 x0 then true else laws_FnPairs_a1 x0 != laws_FnPairs_a1 x0 then true
        else
          !bif laws_FnPairs_a2 x0 == laws_FnPairs_a2 x0 then
              bif Prod.fst (laws_FnPairs_a3 x0) == Prod.fst (laws_FnPairs_a3 x0) then
                bif Prod.snd (laws_FnPairs_a3 x0) == Prod.snd (laws_FnPairs_a3 x0) then true else false
              else false
            else false then
      true
    else laws_FnPairs_a4 x0 != laws_FnPairs_a4 x0 then
  true
  else !laws_FnPairs_a5 x0 == laws_FnPairs_a5 x0

def laws_FnPairs_a7 (x0 : List Int) : Bool :=
  bif bif laws_FnPairs_a0 x0 != (0 : Int) then true else spec_DrawStepBlock_0 x0 != (12 : Int) then true else ltI (50 : Int) (spec_DrawStepBlock_2 x0)

def laws_FnPairs_a8 (x0 : List Int) : Int × Int × ByteArray × Int × Int × Int × Int :=
  ((0 : Int), spec_DrawStepBlock_0 x0, spec_DrawStepBlock_1 x0, spec_DrawStepBlock_2 x0, spec_DrawStepBlock_3 x0, spec_DrawStepBlock_4 x0,
  spec_DrawStepBlock_5 x0)

def laws_FnPairs_a9 (x0 : List Int) : Bool :=
  Nat.beq (Prod.fst (Lp.res lp_laws_FnPairs_l0 (laws_FnPairs_a8 x0))) (0 : Nat)

def laws_FnPairs_a10 (x0 : List Int) : Int × Int × Int :=
  Prod.snd (Prod.snd (Prod.snd (Prod.snd (Prod.snd (Lp.res lp_laws_FnPairs_l0 (laws_FnPairs_a8 x0))))))

def laws_FnPairs_a11 (x0 : List Int) : Bool :=
  laws_big_0 x0 ||
  leN (ByteArray.size (spec_DrawStepBlock_1 x0)) (9223372036854775807 : Nat) &&
    leN (List.length (spec_DrawStepBlock_6 x0)) (9223372036854775807 : Nat)

def laws_FnPairs_0 (x0 : List Int) : Bool :=
  bif laws_big_0 x0 then true
  else
  bif laws_FnPairs_a6 x0 then false
  else
    bif laws_FnPairs_a7 x0 then true
    else
      bif laws_FnPairs_a9 x0 then false
      else
        bif
            bif
                bif
                    fbCode (spec_DrawStepBlock_0 x0) (spec_DrawStepBlock_1 x0) (spec_DrawStepBlock_2 x0) (Prod.fst (laws_FnPairs_a10 x0))
                        (Prod.fst (Prod.snd (laws_FnPairs_a10 x0))) (Prod.snd (Prod.snd (laws_FnPairs_a10 x0))) ==
                      (0 : Int) then
                  fbV (spec_DrawStepBlock_0 x0) (spec_DrawStepBlock_1 x0) (spec_DrawStepBlock_2 x0) (Prod.fst (laws_FnPairs_a10 x0))
                    (Prod.fst (Prod.snd (laws_FnPairs_a10 x0))) (Prod.snd (Prod.snd (laws_FnPairs_a10 x0)))
                else false then
              sbCode (spec_DrawStepBlock_0 x0) (spec_DrawStepBlock_1 x0) (spec_DrawStepBlock_2 x0) (Prod.fst (laws_FnPairs_a10 x0))
                  (Prod.fst (Prod.snd (laws_FnPairs_a10 x0))) (Prod.snd (Prod.snd (laws_FnPairs_a10 x0))) [(1 : Int), (1 : Int)] ==
                (0 : Int)
            else false then
          sbV (spec_DrawStepBlock_0 x0) (spec_DrawStepBlock_1 x0) (spec_DrawStepBlock_2 x0) (Prod.fst (laws_FnPairs_a10 x0))
              (Prod.fst (Prod.snd (laws_FnPairs_a10 x0))) (Prod.snd (Prod.snd (laws_FnPairs_a10 x0))) [(1 : Int), (1 : Int)] ==
            (0 : Int)
        else false

def laws_FnPairs_1 (x0 : List Int) : Bool :=
  allT
  [laws_big_0 x0 || srcOk (0 : Int) (0 : Int) x0, laws_FnPairs_a11 x0, laws_FnPairs_a11 x0,
    laws_big_0 x0 || leN (ByteArray.size (spec_DrawStepBlock_1 x0)) (9223372036854775807 : Nat),
    laws_big_0 x0 || (laws_FnPairs_a6 x0 || (laws_FnPairs_a7 x0 || Lp.fin lp_laws_FnPairs_l0 (laws_FnPairs_a8 x0))),
    laws_big_0 x0 ||
      (laws_FnPairs_a6 x0 ||
        (laws_FnPairs_a7 x0 ||
          (laws_FnPairs_a9 x0 ||
            leN (ByteArray.size (spec_DrawStepBlock_1 x0)) (9223372036854775807 : Nat) &&
              leN (List.length [(1 : Int), (1 : Int)]) (9223372036854775807 : Nat))))]

def F_laws_FnPairs : List SV → List Entry → Option Out
  | [.one ⟨false, [.ref 0]⟩], [.row false 5 (.int .u8) x0] => some ⟨(.one ⟨false, [(.val (.bool (laws_FnPairs_0 x0)))]⟩), [(.row false 5 (CTy.int IntKind.u8) x0)], [], [(laws_FnPairs_1 x0)]⟩
  | _, _ => none

def p_laws_FnPairs : PF Tryd.prog := PF.ofG Tryd.prog [n_spec_StepBlock, PF.lend n_spec_StepBlock, PF.fz n_spec_StepBlock, n_impl_StepBlock, PF.lend n_impl_StepBlock, PF.fz n_impl_StepBlock, p_laws_big, PF.lend p_laws_big, PF.fz p_laws_big, n_spec_DrawStepBlock, PF.lend n_spec_DrawStepBlock, PF.fz n_spec_DrawStepBlock, n_impl_IsFaulty, n_spec_IsFaulty] [lp_laws_FnPairs_l0.F] hmix 6 Tryd.f6 Tryd.func6 (LOk.fnT (l := [loopAt Tryd.f6 0]) (by kernel_rfl) (.cons lpok_laws_FnPairs_l0 (.nil _))) F_laws_FnPairs (by
  intro vs es r h; unfold F_laws_FnPairs at h; split at h
  · cases h; kernel_rfl
  · cases h)

end Go.SX

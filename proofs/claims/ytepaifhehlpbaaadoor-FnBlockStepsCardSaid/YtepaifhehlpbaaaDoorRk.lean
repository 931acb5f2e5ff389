/- What functions of the program come to, row by row (made by a program of the workplace). -/
import Derived.Test.YtepaifhehlpbaaaDoorTXh
import Derived.Test.YtepaifhehlpbaaaDoorProg
import Derived.Test.YtepaifhehlpbaaaDoorNl
namespace Go.SX
open Go.Proofs
set_option maxRecDepth 100000

def laws_big_0 (x0 : List Int) : Bool :=
  ltI (4096 : Int) (↑(List.length x0) : Int)

def F_laws_big : List SV → List Entry → Option Out
  | [.one ⟨false, [.ref 0]⟩], [.row false 5 (.int .u8) x0] => some ⟨(.one ⟨false, [(.val (.bool (laws_big_0 x0)))]⟩), [(.row false 5 (CTy.int IntKind.u8) x0)], [], []⟩
  | _, _ => none

def p_laws_big : PF Tryd.prog := PF.ofG Tryd.prog [] [] hmix 20 Tryd.f20 Tryd.func20 (fun c _ => LOk.nil c) F_laws_big (by
  intro vs es r h; unfold F_laws_big at h; split at h
  · cases h; kernel_rfl
  · cases h)

abbrev X_laws_FnBlockSteps_l0 := Int × List (List Int) × Int × ByteArray × Int × Int × Int × Int × List Int

def laws_FnBlockSteps_l0_a0 (y0 : Int) (y1 : List (List Int)) : List Int :=
  Option.getD y1[Int.toNat y0]? (dflt (CTy.sl (2 : Nat) (CTy.int IntKind.i64)))

def laws_FnBlockSteps_l0_a1 (y0 : Int) (y1 : List (List Int)) (y2 : Int) (y3 : ByteArray) (y4 : Int) (y5 : Int) (y6 : Int) (y7 : Int) : Bool :=
  sbCode y2 y3 y4 y5 y6 y7 (laws_FnBlockSteps_l0_a0 y0 y1) != (0 : Int)

def laws_FnBlockSteps_l0_a2 (y0 : Int) (y1 : List (List Int)) (y2 : Int) (y3 : ByteArray) (y4 : Int) (y5 : Int) (y6 : Int) (y7 : Int) : Bool :=
  !(!laws_FnBlockSteps_l0_a1 y0 y1 y2 y3 y4 y5 y6 y7 && true)

def laws_FnBlockSteps_l0_a3 (y0 : Int) (y1 : List (List Int)) (y2 : Int) (y3 : ByteArray) (y4 : Int) (y5 : Int) (y6 : Int) (y7 : Int) : Int :=
  Prod.fst (sbS y2 y3 y4 y5 y6 y7 (laws_FnBlockSteps_l0_a0 y0 y1))

def laws_FnBlockSteps_l0_a4 (y0 : Int) (y1 : List (List Int)) (y2 : Int) (y3 : ByteArray) (y4 : Int) (y5 : Int) (y6 : Int) (y7 : Int) : Int × Int :=
  Prod.snd (sbS y2 y3 y4 y5 y6 y7 (laws_FnBlockSteps_l0_a0 y0 y1))

def laws_FnBlockSteps_l0_0 (y0 : Int) (y1 : List (List Int)) : Bool :=
  ltI y0 (↑(List.length y1) : Int)

def laws_FnBlockSteps_l0_1 (y0 : Int) : Bool :=
  leI (0 : Int) y0

def laws_FnBlockSteps_l0_2 (y0 : Int) (y1 : List (List Int)) : Bool :=
  ltN (Int.toNat y0) (List.length y1)

def laws_FnBlockSteps_l0_3 (y0 : Int) (y1 : List (List Int)) (y3 : ByteArray) : Bool :=
  leN (ByteArray.size y3) (9223372036854775807 : Nat) && leN (List.length (laws_FnBlockSteps_l0_a0 y0 y1)) (9223372036854775807 : Nat)

def laws_FnBlockSteps_l0_4 (y0 : Int) (y1 : List (List Int)) (y2 : Int) (y3 : ByteArray) (y4 : Int) (y5 : Int) (y6 : Int) (y7 : Int) : Bool :=
  laws_FnBlockSteps_l0_a2 y0 y1 y2 y3 y4 y5 y6 y7 || leI (0 : Int) y0

def laws_FnBlockSteps_l0_5 (y0 : Int) (y1 : List (List Int)) (y2 : Int) (y3 : ByteArray) (y4 : Int) (y5 : Int) (y6 : Int) (y7 : Int) (y8 : List Int) : Bool :=
  laws_FnBlockSteps_l0_a2 y0 y1 y2 y3 y4 y5 y6 y7 || ltI y0 (↑(List.length y8) : Int)

def laws_FnBlockSteps_l0_6 (y0 : Int) (y1 : List (List Int)) (y2 : Int) (y3 : ByteArray) (y4 : Int) (y5 : Int) (y6 : Int) (y7 : Int) (y8 : List Int) : Bool :=
  laws_FnBlockSteps_l0_a2 y0 y1 y2 y3 y4 y5 y6 y7 || ltN (Int.toNat y0) (List.length y8)

def laws_FnBlockSteps_l0_7 (y0 : Int) (y1 : List (List Int)) (y2 : Int) (y3 : ByteArray) (y4 : Int) (y5 : Int) (y6 : Int) (y7 : Int) (y8 : List Int) : Bool :=
  bif
    bif laws_FnBlockSteps_l0_a1 y0 y1 y2 y3 y4 y5 y6 y7 then true
    else sbV y2 y3 y4 y5 y6 y7 (laws_FnBlockSteps_l0_a0 y0 y1) != Option.getD y8[Int.toNat y0]? (0 : Int) then
  true
  else
  !isPos y2 y3 y4 (laws_FnBlockSteps_l0_a3 y0 y1 y2 y3 y4 y5 y6 y7) (Prod.fst (laws_FnBlockSteps_l0_a4 y0 y1 y2 y3 y4 y5 y6 y7))
      (Prod.snd (laws_FnBlockSteps_l0_a4 y0 y1 y2 y3 y4 y5 y6 y7))

def laws_FnBlockSteps_l0_8 (y0 : Int) : Int :=
  IntKind.wrap IntKind.i64 (y0 + (1 : Int))

def laws_FnBlockSteps_l0_9 (y0 : Int) (y1 : List (List Int)) (y2 : Int) (y3 : ByteArray) (y4 : Int) (y5 : Int) (y6 : Int) (y7 : Int) : Int :=
  laws_FnBlockSteps_l0_a3 y0 y1 y2 y3 y4 y5 y6 y7

def laws_FnBlockSteps_l0_10 (y0 : Int) (y1 : List (List Int)) (y2 : Int) (y3 : ByteArray) (y4 : Int) (y5 : Int) (y6 : Int) (y7 : Int) : Int :=
  Prod.fst (laws_FnBlockSteps_l0_a4 y0 y1 y2 y3 y4 y5 y6 y7)

def laws_FnBlockSteps_l0_11 (y0 : Int) (y1 : List (List Int)) (y2 : Int) (y3 : ByteArray) (y4 : Int) (y5 : Int) (y6 : Int) (y7 : Int) : Int :=
  Prod.snd (laws_FnBlockSteps_l0_a4 y0 y1 y2 y3 y4 y5 y6 y7)

def JL_laws_FnBlockSteps_l0 : X_laws_FnBlockSteps_l0 → List (Nat × SV)
  | (y0, _, _, _, _, _, _, _, _) => [(12, (.one ⟨false, [(.val (.int IntKind.i64 y0))]⟩)), (4, (.one ⟨false, [(.ref 0)]⟩)), (3, (.one ⟨false, [(.ptr 1 0)]⟩)), (11, (.one ⟨false, [(.ptr 2 0)]⟩)), (8, (.one ⟨false, [(.ref 3)]⟩))]

def JE_laws_FnBlockSteps_l0 : X_laws_FnBlockSteps_l0 → List (Nat × Entry)
  | (_, y1, y2, y3, y4, y5, y6, y7, y8) => [(0, (.row true 26 (CTy.sl (2 : Nat) (CTy.int IntKind.i64)) y1)), (1, (.box 31 [(.val (.int IntKind.i64 y2)), (.val (.string y3)), (.val (.int IntKind.i64 y4))])), (2, (.box 28 [(.val (.int IntKind.i64 y5)), (.val (.int IntKind.i64 y6)), (.val (.int IntKind.i64 y7))])), (3, (.row true 2 (CTy.int IntKind.i64) y8))]

def XL_laws_FnBlockSteps_l0 : Nat → X_laws_FnBlockSteps_l0 → List (Nat × SV)
  | 0, (_, _, _, _, _, _, _, _, _) => [(2, (.one ⟨false, [(.val (.bool false))]⟩))]
  | _, (_, _, _, _, _, _, _, _, _) => []

def XE_laws_FnBlockSteps_l0 : Nat → X_laws_FnBlockSteps_l0 → List (Nat × Entry)
  | 0, (_, y1, y2, y3, y4, y5, y6, y7, y8) => [(0, (.row true 26 (CTy.sl (2 : Nat) (CTy.int IntKind.i64)) y1)), (1, (.box 31 [(.val (.int IntKind.i64 y2)), (.val (.string y3)), (.val (.int IntKind.i64 y4))])), (2, (.box 28 [(.val (.int IntKind.i64 y5)), (.val (.int IntKind.i64 y6)), (.val (.int IntKind.i64 y7))])), (3, (.row true 2 (CTy.int IntKind.i64) y8))]
  | _, (_, y1, y2, y3, y4, y5, y6, y7, y8) => [(0, (.row true 26 (CTy.sl (2 : Nat) (CTy.int IntKind.i64)) y1)), (1, (.box 31 [(.val (.int IntKind.i64 y2)), (.val (.string y3)), (.val (.int IntKind.i64 y4))])), (2, (.box 28 [(.val (.int IntKind.i64 y5)), (.val (.int IntKind.i64 y6)), (.val (.int IntKind.i64 y7))])), (3, (.row true 2 (CTy.int IntKind.i64) y8))]

def lt_laws_FnBlockSteps_l0 : X_laws_FnBlockSteps_l0 → LT X_laws_FnBlockSteps_l0
  | (y0, y1, y2, y3, y4, y5, y6, y7, y8) => .ite (laws_FnBlockSteps_l0_0 y0 y1) (.need [(laws_FnBlockSteps_l0_1 y0), (laws_FnBlockSteps_l0_0 y0 y1), (laws_FnBlockSteps_l0_2 y0 y1), (laws_FnBlockSteps_l0_3 y0 y1 y3)] (.need [(laws_FnBlockSteps_l0_4 y0 y1 y2 y3 y4 y5 y6 y7), (laws_FnBlockSteps_l0_5 y0 y1 y2 y3 y4 y5 y6 y7 y8), (laws_FnBlockSteps_l0_6 y0 y1 y2 y3 y4 y5 y6 y7 y8)] (.ite (laws_FnBlockSteps_l0_7 y0 y1 y2 y3 y4 y5 y6 y7 y8) (.ext 0 [(0, 0), (1, 1), (2, 2), (3, 3)]) (.nrm ((laws_FnBlockSteps_l0_8 y0), y1, y2, y3, y4, (laws_FnBlockSteps_l0_9 y0 y1 y2 y3 y4 y5 y6 y7), (laws_FnBlockSteps_l0_10 y0 y1 y2 y3 y4 y5 y6 y7), (laws_FnBlockSteps_l0_11 y0 y1 y2 y3 y4 y5 y6 y7), y8) [(0, 0), (1, 1), (2, 2), (3, 3)])))) (.ext 1 [(0, 0), (1, 1), (2, 2), (3, 3)])

def rd_laws_FnBlockSteps_l0 (s : St) : Option X_laws_FnBlockSteps_l0 :=
  (match s.look 12 with
  | some ⟨none, (.one ⟨false, [(.val (.int IntKind.i64 y0))]⟩)⟩ =>
  (match s.look 4 with
  | some ⟨none, (.one ⟨false, [(.ref 384)]⟩)⟩ =>
  (match s.look 3 with
  | some ⟨none, (.one ⟨false, [(.ptr 640 0)]⟩)⟩ =>
  (match s.look 11 with
  | some ⟨none, (.one ⟨false, [(.ptr 3776 0)]⟩)⟩ =>
  (match s.look 8 with
  | some ⟨none, (.one ⟨false, [(.ref 1664)]⟩)⟩ =>
  (match s.ent 384 with
  | some (.row true 26 (CTy.sl (2 : Nat) (CTy.int IntKind.i64)) y1) =>
  (match s.ent 640 with
  | some (.box 31 [(.val (.int IntKind.i64 y2)), (.val (.string y3)), (.val (.int IntKind.i64 y4))]) =>
  (match s.ent 3776 with
  | some (.box 28 [(.val (.int IntKind.i64 y5)), (.val (.int IntKind.i64 y6)), (.val (.int IntKind.i64 y7))]) =>
  (match s.ent 1664 with
  | some (.row true 2 (CTy.int IntKind.i64) y8) =>
  some (y0, y1, y2, y3, y4, y5, y6, y7, y8)
  | _ => none)
  | _ => none)
  | _ => none)
  | _ => none)
  | _ => none)
  | _ => none)
  | _ => none)
  | _ => none)
  | _ => none)

def lp_laws_FnBlockSteps_l0 : Lp X_laws_FnBlockSteps_l0 where
  h := ⟨[61, 62, 63, 64, 68, 69, 70, 71, 72, 73, 74, 67, 75, 76, 77, 14, 13, 15, 78, 79, 80, 81, 82, 83, 84, 85, 86, 87, 88, 89, 90, 91, 92, 93, 2, 94, 65, 66, 12], [0, 1, 2, 3], [], []⟩
  JL := JL_laws_FnBlockSteps_l0
  JE := JE_laws_FnBlockSteps_l0
  XL := XL_laws_FnBlockSteps_l0
  XE := XE_laws_FnBlockSteps_l0
  q := fun j => match j with | 0 => .ret | _ => .exit 0
  tags := [0, 1]
  lt := lt_laws_FnBlockSteps_l0
  fuel := fun (y0, y1, y2, y3, y4, y5, y6, y7, y8) => y0.natAbs + y1.length + y2.natAbs + y3.size + y4.natAbs + y5.natAbs + y6.natAbs + y7.natAbs + y8.length
  fix := fun (_, y1, y2, y3, y4, _, _, _, y8) (y0, _, _, _, _, y5, y6, y7, _) => (y0, y1, y2, y3, y4, y5, y6, y7, y8)
  σ := [(0, 384), (1, 640), (2, 3776), (3, 1664)]
  rd := rd_laws_FnBlockSteps_l0

theorem lpok_laws_FnBlockSteps_l0 : LoopOk Tryd.prog (fun k => Nat.blt k Tryd.f5.ntmps) lp_laws_FnBlockSteps_l0.F (loopAt Tryd.f5 0) := by
  refine Lp.ok (tbl := [n_impl_StepBlock, PF.lend n_impl_StepBlock, PF.fz n_impl_StepBlock, p_laws_big, PF.lend p_laws_big, PF.fz p_laws_big, n_spec_DrawRunBlock, PF.lend n_spec_DrawRunBlock, PF.fz n_spec_DrawRunBlock, n_impl_RunBlock, PF.lend n_impl_RunBlock, PF.fz n_impl_RunBlock, n_spec_RunBlock, PF.lend n_spec_RunBlock, PF.fz n_spec_RunBlock, n_laws_likeInts, PF.lend n_laws_likeInts, PF.fz n_laws_likeInts, n_impl_IsBlock, n_spec_IsBlock, n_impl_IsPossible]) (lf := []) hmix lp_laws_FnBlockSteps_l0 (by kernel_rfl) (LOk.nil _) (fun _ => rfl) (fun j _ => by unfold lp_laws_FnBlockSteps_l0; match j with | 0 => rfl | _ + 1 => rfl) ?_ ?_ ?_ ?_ (fun _ => rfl) ?_
  · intro x; obtain ⟨y0, y1, y2, y3, y4, y5, y6, y7, y8⟩ := x; kernel_rfl
  · intro x; obtain ⟨y0, y1, y2, y3, y4, y5, y6, y7, y8⟩ := x; kernel_rfl
  · intro s x h
    have h : rd_laws_FnBlockSteps_l0 s = some x := h
    unfold rd_laws_FnBlockSteps_l0 at h
    repeat' split at h
    all_goals cases h
    exact ⟨absS_cons (by assumption) rfl (absS_cons (by assumption) rfl (absS_cons (by assumption) rfl (absS_cons (by assumption) rfl (absS_cons (by assumption) rfl (rfl))))), absE_cons rfl (by assumption) rfl (absE_cons rfl (by assumption) rfl (absE_cons rfl (by assumption) rfl (absE_cons rfl (by assumption) rfl (rfl))))⟩
  · intro x; obtain ⟨y0, y1, y2, y3, y4, y5, y6, y7, y8⟩ := x; kernel_rfl
  · intro x z; obtain ⟨y0, y1, y2, y3, y4, y5, y6, y7, y8⟩ := x; exact (And.intro (And.intro trivial rfl) trivial)

def laws_FnBlockSteps_a0 (x0 : List Int) : Bool :=
  rbCode (spec_DrawRunBlock_0 x0) (spec_DrawRunBlock_1 x0) (spec_DrawRunBlock_2 x0) (spec_DrawRunBlock_3 x0) !=
  rbCode (spec_DrawRunBlock_0 x0) (spec_DrawRunBlock_1 x0) (spec_DrawRunBlock_2 x0) (spec_DrawRunBlock_3 x0)

def laws_FnBlockSteps_a1 (x0 : List Int) : Int :=
  Prod.fst (rbS (spec_DrawRunBlock_0 x0) (spec_DrawRunBlock_1 x0) (spec_DrawRunBlock_2 x0) (spec_DrawRunBlock_3 x0))

def laws_FnBlockSteps_a2 (x0 : List Int) : Int × Int :=
  Prod.snd (rbS (spec_DrawRunBlock_0 x0) (spec_DrawRunBlock_1 x0) (spec_DrawRunBlock_2 x0) (spec_DrawRunBlock_3 x0))

def laws_FnBlockSteps_a3 (x0 : List Int) : Bool :=
  bif
    bif laws_FnBlockSteps_a0 x0 then true
    else
      !eqL (rbV (spec_DrawRunBlock_0 x0) (spec_DrawRunBlock_1 x0) (spec_DrawRunBlock_2 x0) (spec_DrawRunBlock_3 x0))
          (rbV (spec_DrawRunBlock_0 x0) (spec_DrawRunBlock_1 x0) (spec_DrawRunBlock_2 x0) (spec_DrawRunBlock_3 x0)) then
  true
  else
  !bif laws_FnBlockSteps_a1 x0 == laws_FnBlockSteps_a1 x0 then
      bif Prod.fst (laws_FnBlockSteps_a2 x0) == Prod.fst (laws_FnBlockSteps_a2 x0) then
        bif Prod.snd (laws_FnBlockSteps_a2 x0) == Prod.snd (laws_FnBlockSteps_a2 x0) then true else false
      else false
    else false

def laws_FnBlockSteps_a4 (x0 : List Int) : Bool :=
  bif laws_FnBlockSteps_a3 x0 then true
  else
  !blockB (spec_DrawRunBlock_0 x0) (spec_DrawRunBlock_1 x0) (spec_DrawRunBlock_2 x0) ==
      blockB (spec_DrawRunBlock_0 x0) (spec_DrawRunBlock_1 x0) (spec_DrawRunBlock_2 x0)

def laws_FnBlockSteps_a5 (x0 : List Int) : Bool :=
  rbCode (spec_DrawRunBlock_0 x0) (spec_DrawRunBlock_1 x0) (spec_DrawRunBlock_2 x0) (spec_DrawRunBlock_3 x0) != (0 : Int)

def laws_FnBlockSteps_a6 (x0 : List Int) : Int × List (List Int) × Int × ByteArray × Int × Int × Int × Int × List Int :=
  ((0 : Int), spec_DrawRunBlock_3 x0, spec_DrawRunBlock_0 x0, spec_DrawRunBlock_1 x0, spec_DrawRunBlock_2 x0, (0 : Int), (0 : Int), (0 : Int),
  bif !laws_FnBlockSteps_a0 x0 && true then rbV (spec_DrawRunBlock_0 x0) (spec_DrawRunBlock_1 x0) (spec_DrawRunBlock_2 x0) (spec_DrawRunBlock_3 x0)
  else rbV (spec_DrawRunBlock_0 x0) (spec_DrawRunBlock_1 x0) (spec_DrawRunBlock_2 x0) (spec_DrawRunBlock_3 x0))

def laws_FnBlockSteps_a7 (x0 : List Int) : Int × Int × Int × List Int :=
  Prod.snd (Prod.snd (Prod.snd (Prod.snd (Prod.snd (Prod.snd (Lp.res lp_laws_FnBlockSteps_l0 (laws_FnBlockSteps_a6 x0)))))))

def laws_FnBlockSteps_0 (x0 : List Int) : Bool :=
  bif laws_big_0 x0 then true
  else
  bif laws_FnBlockSteps_a4 x0 then false
  else
    bif laws_FnBlockSteps_a5 x0 then true
    else
      bif Nat.beq (Prod.fst (Lp.res lp_laws_FnBlockSteps_l0 (laws_FnBlockSteps_a6 x0))) (0 : Nat) then false
      else
        bif Prod.fst (laws_FnBlockSteps_a7 x0) == laws_FnBlockSteps_a1 x0 then
          bif Prod.fst (Prod.snd (laws_FnBlockSteps_a7 x0)) == Prod.fst (laws_FnBlockSteps_a2 x0) then
            bif Prod.fst (Prod.snd (Prod.snd (laws_FnBlockSteps_a7 x0))) == Prod.snd (laws_FnBlockSteps_a2 x0) then true else false
          else false
        else false

def laws_FnBlockSteps_1 (x0 : List Int) : Bool :=
  allT
  [laws_big_0 x0 || srcOk (0 : Int) (0 : Int) x0, laws_big_0 x0 || ssOk (9223372036854775807 : Nat) (spec_DrawRunBlock_3 x0),
    laws_big_0 x0 ||
      leN (ByteArray.size (spec_DrawRunBlock_1 x0)) (9223372036854775807 : Nat) && ssOk (9223372036854775807 : Nat) (spec_DrawRunBlock_3 x0),
    laws_big_0 x0 ||
      (!(!laws_FnBlockSteps_a0 x0 && true) ||
        leN (List.length (rbV (spec_DrawRunBlock_0 x0) (spec_DrawRunBlock_1 x0) (spec_DrawRunBlock_2 x0) (spec_DrawRunBlock_3 x0)))
          (9223372036854775807 : Nat)),
    laws_big_0 x0 || (!(!laws_FnBlockSteps_a3 x0 && true) || leN (ByteArray.size (spec_DrawRunBlock_1 x0)) (9223372036854775807 : Nat)),
    laws_big_0 x0 || (laws_FnBlockSteps_a4 x0 || (laws_FnBlockSteps_a5 x0 || Lp.fin lp_laws_FnBlockSteps_l0 (laws_FnBlockSteps_a6 x0)))]

def F_laws_FnBlockSteps : List SV → List Entry → Option Out
  | [.one ⟨false, [.ref 0]⟩], [.row false 5 (.int .u8) x0] => some ⟨(.one ⟨false, [(.val (.bool (laws_FnBlockSteps_0 x0)))]⟩), [(.row false 5 (CTy.int IntKind.u8) x0)], [], [(laws_FnBlockSteps_1 x0)]⟩
  | _, _ => none

def p_laws_FnBlockSteps : PF Tryd.prog := PF.ofG Tryd.prog [n_impl_StepBlock, PF.lend n_impl_StepBlock, PF.fz n_impl_StepBlock, p_laws_big, PF.lend p_laws_big, PF.fz p_laws_big, n_spec_DrawRunBlock, PF.lend n_spec_DrawRunBlock, PF.fz n_spec_DrawRunBlock, n_impl_RunBlock, PF.lend n_impl_RunBlock, PF.fz n_impl_RunBlock, n_spec_RunBlock, PF.lend n_spec_RunBlock, PF.fz n_spec_RunBlock, n_laws_likeInts, PF.lend n_laws_likeInts, PF.fz n_laws_likeInts, n_impl_IsBlock, n_spec_IsBlock, n_impl_IsPossible] [lp_laws_FnBlockSteps_l0.F] hmix 5 Tryd.f5 Tryd.func5 (LOk.fnT (l := [loopAt Tryd.f5 0]) (by kernel_rfl) (.cons lpok_laws_FnBlockSteps_l0 (.nil _))) F_laws_FnBlockSteps (by
  intro vs es r h; unfold F_laws_FnBlockSteps at h; split at h
  · cases h; kernel_rfl
  · cases h)

end Go.SX

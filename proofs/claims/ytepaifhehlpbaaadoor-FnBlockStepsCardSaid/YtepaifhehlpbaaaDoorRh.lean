/- What functions of the program come to, row by row (made by a program of the workplace). -/
import Derived.Test.YtepaifhehlpbaaaDoorTXh
import Derived.Test.YtepaifhehlpbaaaDoorProg
import Derived.Test.YtepaifhehlpbaaaDoorRf
import Derived.Test.YtepaifhehlpbaaaDoorNt
namespace Go.SX
open Go.Proofs
set_option maxRecDepth 100000

abbrev X_impl_RunBlock_l0 := Int × Int × List (List Int) × Int × ByteArray × Int × Int × Int × Int × List Int

def impl_RunBlock_l0_a0 (y0 : Int) (y2 : List (List Int)) : List Int :=
  Option.getD y2[Int.toNat y0]? (dflt (CTy.sl (2 : TypeId) (CTy.int IntKind.i64)))

def impl_RunBlock_l0_a1 (y0 : Int) (y2 : List (List Int)) (y3 : Int) (y5 : Int) (y6 : Int) (y7 : Int) (y8 : Int) : List Int :=
  [impl_step_0 y3 y5 y6 y7 y8 (impl_RunBlock_l0_a0 y0 y2)]

def impl_RunBlock_l0_0 (y0 : Int) (y1 : Int) : Bool :=
  ltI y0 y1

def impl_RunBlock_l0_1 (y0 : Int) : Bool :=
  leI (0 : Int) y0

def impl_RunBlock_l0_2 (y0 : Int) (y2 : List (List Int)) : Bool :=
  ltI y0 (↑(List.length y2) : Int)

def impl_RunBlock_l0_3 (y0 : Int) (y2 : List (List Int)) : Bool :=
  ltN (Int.toNat y0) (List.length y2)

def impl_RunBlock_l0_4 (y0 : Int) (y2 : List (List Int)) : Bool :=
  impl_step_4 (impl_RunBlock_l0_a0 y0 y2)

def impl_RunBlock_l0_5 (y0 : Int) (y2 : List (List Int)) (y3 : Int) (y5 : Int) (y6 : Int) (y7 : Int) (y8 : Int) (y9 : List Int) : Bool :=
  leN (List.length y9 + List.length (impl_RunBlock_l0_a1 y0 y2 y3 y5 y6 y7 y8)) (9223372036854775807 : Nat)

def impl_RunBlock_l0_6 (y0 : Int) (y2 : List (List Int)) (y3 : Int) (y5 : Int) (y6 : Int) (y7 : Int) (y8 : Int) (y9 : List Int) : Bool :=
  leN ((List.length y9 + List.length (impl_RunBlock_l0_a1 y0 y2 y3 y5 y6 y7 y8)) * (8 : Nat)) (140737488355328 : Nat)

def impl_RunBlock_l0_7 (y0 : Int) : Int :=
  IntKind.wrap IntKind.i64 (y0 + (1 : Int))

def impl_RunBlock_l0_8 (y0 : Int) (y2 : List (List Int)) (y3 : Int) (y5 : Int) (y6 : Int) (y7 : Int) (y8 : Int) : Int :=
  impl_step_1 y3 y5 y6 y7 y8 (impl_RunBlock_l0_a0 y0 y2)

def impl_RunBlock_l0_9 (y0 : Int) (y2 : List (List Int)) (y3 : Int) (y7 : Int) (y8 : Int) : Int :=
  impl_step_2 y3 y7 y8 (impl_RunBlock_l0_a0 y0 y2)

def impl_RunBlock_l0_10 (y0 : Int) (y2 : List (List Int)) (y3 : Int) (y5 : Int) (y6 : Int) (y7 : Int) (y8 : Int) : Int :=
  impl_step_3 y3 y5 y6 y7 y8 (impl_RunBlock_l0_a0 y0 y2)

def impl_RunBlock_l0_11 (y0 : Int) (y2 : List (List Int)) (y3 : Int) (y5 : Int) (y6 : Int) (y7 : Int) (y8 : Int) (y9 : List Int) : List Int :=
  y9 ++ impl_RunBlock_l0_a1 y0 y2 y3 y5 y6 y7 y8

def JL_impl_RunBlock_l0 : X_impl_RunBlock_l0 → List (Nat × SV)
  | (y0, y1, _, _, _, _, _, _, _, _) => [(32, (.one ⟨false, [(.val (.int IntKind.i64 y0))]⟩)), (31, (.one ⟨false, [(.val (.int IntKind.i64 y1))]⟩)), (30, (.one ⟨false, [(.ref 0)]⟩)), (2, (.one ⟨false, [(.ptr 1 0)]⟩)), (8, (.one ⟨false, [(.ptr 2 0)]⟩)), (9, (.one ⟨false, [(.ref 3)]⟩))]

def JE_impl_RunBlock_l0 : X_impl_RunBlock_l0 → List (Nat × Entry)
  | (_, _, y2, y3, y4, y5, y6, y7, y8, y9) => [(0, (.row false 26 (CTy.sl (2 : TypeId) (CTy.int IntKind.i64)) y2)), (1, (.box 31 [(.val (.int IntKind.i64 y3)), (.val (.string y4)), (.val (.int IntKind.i64 y5))])), (2, (.box 28 [(.val (.int IntKind.i64 y6)), (.val (.int IntKind.i64 y7)), (.val (.int IntKind.i64 y8))])), (3, (.row true 2 (CTy.int IntKind.i64) y9))]

def XL_impl_RunBlock_l0 : Nat → X_impl_RunBlock_l0 → List (Nat × SV)
  | _, (_, _, _, _, _, _, _, _, _, _) => [(9, (.one ⟨false, [(.ref 3)]⟩))]

def XE_impl_RunBlock_l0 : Nat → X_impl_RunBlock_l0 → List (Nat × Entry)
  | _, (_, _, y2, y3, y4, y5, y6, y7, y8, y9) => [(0, (.row false 26 (CTy.sl (2 : TypeId) (CTy.int IntKind.i64)) y2)), (1, (.box 31 [(.val (.int IntKind.i64 y3)), (.val (.string y4)), (.val (.int IntKind.i64 y5))])), (2, (.box 28 [(.val (.int IntKind.i64 y6)), (.val (.int IntKind.i64 y7)), (.val (.int IntKind.i64 y8))])), (3, (.row true 2 (CTy.int IntKind.i64) y9))]

def lt_impl_RunBlock_l0 : X_impl_RunBlock_l0 → LT X_impl_RunBlock_l0
  | (y0, y1, y2, y3, y4, y5, y6, y7, y8, y9) => .ite (impl_RunBlock_l0_0 y0 y1) (.need [(impl_RunBlock_l0_1 y0), (impl_RunBlock_l0_2 y0 y2), (impl_RunBlock_l0_3 y0 y2)] (.need [(impl_RunBlock_l0_4 y0 y2)] (.need [(impl_RunBlock_l0_5 y0 y2 y3 y5 y6 y7 y8 y9), (impl_RunBlock_l0_6 y0 y2 y3 y5 y6 y7 y8 y9)] (.nrm ((impl_RunBlock_l0_7 y0), y1, y2, y3, y4, y5, (impl_RunBlock_l0_8 y0 y2 y3 y5 y6 y7 y8), (impl_RunBlock_l0_9 y0 y2 y3 y7 y8), (impl_RunBlock_l0_10 y0 y2 y3 y5 y6 y7 y8), (impl_RunBlock_l0_11 y0 y2 y3 y5 y6 y7 y8 y9)) [(0, 0), (1, 1), (2, 2), (3, 1152)])))) (.ext 0 [(0, 0), (1, 1), (2, 2), (3, 3)])

def rd_impl_RunBlock_l0 (s : St) : Option X_impl_RunBlock_l0 :=
  (match s.look 32 with
  | some ⟨none, (.one ⟨false, [(.val (.int IntKind.i64 y0))]⟩)⟩ =>
  (match s.look 31 with
  | some ⟨none, (.one ⟨false, [(.val (.int IntKind.i64 y1))]⟩)⟩ =>
  (match s.look 30 with
  | some ⟨none, (.one ⟨false, [(.ref 0)]⟩)⟩ =>
  (match s.look 2 with
  | some ⟨none, (.one ⟨false, [(.ptr 128 0)]⟩)⟩ =>
  (match s.look 8 with
  | some ⟨none, (.one ⟨false, [(.ptr 1280 0)]⟩)⟩ =>
  (match s.look 9 with
  | some ⟨none, (.one ⟨false, [(.ref 1344)]⟩)⟩ =>
  (match s.ent 0 with
  | some (.row false 26 (CTy.sl (2 : TypeId) (CTy.int IntKind.i64)) y2) =>
  (match s.ent 128 with
  | some (.box 31 [(.val (.int IntKind.i64 y3)), (.val (.string y4)), (.val (.int IntKind.i64 y5))]) =>
  (match s.ent 1280 with
  | some (.box 28 [(.val (.int IntKind.i64 y6)), (.val (.int IntKind.i64 y7)), (.val (.int IntKind.i64 y8))]) =>
  (match s.ent 1344 with
  | some (.row true 2 (CTy.int IntKind.i64) y9) =>
  some (y0, y1, y2, y3, y4, y5, y6, y7, y8, y9)
  | _ => none)
  | _ => none)
  | _ => none)
  | _ => none)
  | _ => none)
  | _ => none)
  | _ => none)
  | _ => none)
  | _ => none)
  | _ => none)

def lp_impl_RunBlock_l0 : Lp X_impl_RunBlock_l0 where
  h := ⟨[33, 34, 35, 11, 37, 38, 39, 40, 36, 41, 42, 13, 12, 43, 44, 45, 46, 9, 47, 48, 32], [0, 1, 2], [3], []⟩
  JL := JL_impl_RunBlock_l0
  JE := JE_impl_RunBlock_l0
  XL := XL_impl_RunBlock_l0
  XE := XE_impl_RunBlock_l0
  q := fun j => match j with | _ => .exit 0
  tags := [0]
  lt := lt_impl_RunBlock_l0
  fuel := fun (y0, y1, y2, y3, y4, y5, y6, y7, y8, y9) => y0.natAbs + y1.natAbs + y2.length + y3.natAbs + y4.size + y5.natAbs + y6.natAbs + y7.natAbs + y8.natAbs + y9.length
  fix := fun (_, y1, y2, y3, y4, y5, _, _, _, _) (y0, _, _, _, _, _, y6, y7, y8, y9) => (y0, y1, y2, y3, y4, y5, y6, y7, y8, y9)
  σ := [(0, 0), (1, 128), (2, 1280), (3, 1344)]
  rd := rd_impl_RunBlock_l0

theorem lpok_impl_RunBlock_l0 : LoopOk Tryd.prog (fun k => Nat.blt k Tryd.f22.ntmps) lp_impl_RunBlock_l0.F (loopAt Tryd.f22 0) := by
  refine Lp.ok (tbl := [n_impl_IsBlock, n_impl_stepCode, PF.lend n_impl_stepCode, PF.fz n_impl_stepCode, p_impl_step, PF.lend p_impl_step, PF.fz p_impl_step]) (lf := []) hmix lp_impl_RunBlock_l0 (by kernel_rfl) (LOk.nil _) (fun _ => rfl) (fun _ _ => rfl) ?_ ?_ ?_ ?_ (fun _ => rfl) ?_
  · intro x; obtain ⟨y0, y1, y2, y3, y4, y5, y6, y7, y8, y9⟩ := x; kernel_rfl
  · intro x; obtain ⟨y0, y1, y2, y3, y4, y5, y6, y7, y8, y9⟩ := x; kernel_rfl
  · intro s x h
    have h : rd_impl_RunBlock_l0 s = some x := h
    unfold rd_impl_RunBlock_l0 at h
    repeat' split at h
    all_goals cases h
    exact ⟨absS_cons (by assumption) rfl (absS_cons (by assumption) rfl (absS_cons (by assumption) rfl (absS_cons (by assumption) rfl (absS_cons (by assumption) rfl (absS_cons (by assumption) rfl (rfl)))))), absE_cons rfl (by assumption) rfl (absE_cons rfl (by assumption) rfl (absE_cons rfl (by assumption) rfl (absE_cons rfl (by assumption) rfl (rfl))))⟩
  · intro x; obtain ⟨y0, y1, y2, y3, y4, y5, y6, y7, y8, y9⟩ := x; kernel_rfl
  · intro x z; obtain ⟨y0, y1, y2, y3, y4, y5, y6, y7, y8, y9⟩ := x; exact (And.intro rfl trivial)

def impl_RunBlock_a0 (x0 : Int) (x1 : ByteArray) (x2 : Int) (x3 : List (List Int)) : Bool :=
  bif blockB x0 x1 x2 then ltI (200 : Int) (↑(List.length x3) : Int) else false

def impl_RunBlock_a1 (x0 : Int) (x1 : ByteArray) (x2 : Int) (x3 : List (List Int)) : Int :=
  codeV x0 x1 x2 (0 : Int) (0 : Int) (0 : Int) x3

def impl_RunBlock_a2 (x0 : Int) (x1 : ByteArray) (x2 : Int) (x3 : List (List Int)) : Bool :=
  impl_RunBlock_a1 x0 x1 x2 x3 != (0 : Int)

def impl_RunBlock_a3 (x0 : Int) (x1 : ByteArray) (x2 : Int) (x3 : List (List Int)) : Int × Int × List (List Int) × Int × ByteArray × Int × Int × Int × Int × List Int :=
  ((0 : Int), (↑(List.length x3) : Int), x3, x0, x1, x2, (0 : Int), (0 : Int), (0 : Int), [])

def impl_RunBlock_a4 (x0 : Int) (x1 : ByteArray) (x2 : Int) (x3 : List (List Int)) : Int × Int × Int × List Int :=
  Prod.snd (Prod.snd (Prod.snd (Prod.snd (Prod.snd (Prod.snd (Prod.snd (Lp.res lp_impl_RunBlock_l0 (impl_RunBlock_a3 x0 x1 x2 x3))))))))

def impl_RunBlock_a5 (x0 : Int) (x1 : ByteArray) (x2 : Int) (x3 : List (List Int)) : Int × Int × List Int :=
  Prod.snd (impl_RunBlock_a4 x0 x1 x2 x3)

def impl_RunBlock_0 (x0 : Int) (x1 : ByteArray) (x2 : Int) (x3 : List (List Int)) : Int :=
  bif impl_RunBlock_a0 x0 x1 x2 x3 then (0 : Int) else bif impl_RunBlock_a2 x0 x1 x2 x3 then (0 : Int) else Prod.fst (impl_RunBlock_a4 x0 x1 x2 x3)

def impl_RunBlock_1 (x0 : Int) (x1 : ByteArray) (x2 : Int) (x3 : List (List Int)) : Int :=
  bif impl_RunBlock_a0 x0 x1 x2 x3 then (0 : Int) else bif impl_RunBlock_a2 x0 x1 x2 x3 then (0 : Int) else Prod.fst (impl_RunBlock_a5 x0 x1 x2 x3)

def impl_RunBlock_2 (x0 : Int) (x1 : ByteArray) (x2 : Int) (x3 : List (List Int)) : Int :=
  bif impl_RunBlock_a0 x0 x1 x2 x3 then (0 : Int)
  else bif impl_RunBlock_a2 x0 x1 x2 x3 then (0 : Int) else Prod.fst (Prod.snd (impl_RunBlock_a5 x0 x1 x2 x3))

def impl_RunBlock_3 (x0 : Int) (x1 : ByteArray) (x2 : Int) (x3 : List (List Int)) : Int :=
  bif impl_RunBlock_a0 x0 x1 x2 x3 then (3 : Int) else bif impl_RunBlock_a2 x0 x1 x2 x3 then impl_RunBlock_a1 x0 x1 x2 x3 else (0 : Int)

def impl_RunBlock_4 (x0 : Int) (x1 : ByteArray) (x2 : Int) (x3 : List (List Int)) : List Int :=
  bif impl_RunBlock_a0 x0 x1 x2 x3 then [] else bif impl_RunBlock_a2 x0 x1 x2 x3 then [] else Prod.snd (Prod.snd (impl_RunBlock_a5 x0 x1 x2 x3))

def impl_RunBlock_5 (x0 : Int) (x1 : ByteArray) (x2 : Int) (x3 : List (List Int)) : Bool :=
  allT
  [impl_RunBlock_a0 x0 x1 x2 x3 || ssOk (9223372036854775807 : Nat) x3,
    impl_RunBlock_a0 x0 x1 x2 x3 || (impl_RunBlock_a2 x0 x1 x2 x3 || Lp.fin lp_impl_RunBlock_l0 (impl_RunBlock_a3 x0 x1 x2 x3))]

def F_impl_RunBlock : List SV → List Entry → Option Out
  | [.one ⟨true, [.val (.int .i64 x0), .val (.string x1), .val (.int .i64 x2)]⟩, .one ⟨false, [.ref 0]⟩], [.row false 26 (.sl 2 (.int .i64)) x3] => some ⟨(.tup [⟨false, [(.ref 1)]⟩, ⟨true, [(.val (.int IntKind.i64 (impl_RunBlock_0 x0 x1 x2 x3))), (.val (.int IntKind.i64 (impl_RunBlock_1 x0 x1 x2 x3))), (.val (.int IntKind.i64 (impl_RunBlock_2 x0 x1 x2 x3)))]⟩, ⟨false, [(.val (.int IntKind.i64 (impl_RunBlock_3 x0 x1 x2 x3)))]⟩]), [(.row false 26 (CTy.sl (2 : TypeId) (CTy.int IntKind.i64)) x3)], [(.row true 2 (CTy.int IntKind.i64) (impl_RunBlock_4 x0 x1 x2 x3))], [(impl_RunBlock_5 x0 x1 x2 x3)]⟩
  | _, _ => none

def p_impl_RunBlock : PF Tryd.prog := PF.ofG Tryd.prog [n_impl_IsBlock, n_impl_stepCode, PF.lend n_impl_stepCode, PF.fz n_impl_stepCode, p_impl_step, PF.lend p_impl_step, PF.fz p_impl_step] [lp_impl_RunBlock_l0.F] hmix 22 Tryd.f22 Tryd.func22 (LOk.fnT (l := [loopAt Tryd.f22 0]) (by kernel_rfl) (.cons lpok_impl_RunBlock_l0 (.nil _))) F_impl_RunBlock (by
  intro vs es r h; unfold F_impl_RunBlock at h; split at h
  · cases h; kernel_rfl
  · cases h)

abbrev X_spec_RunBlock_l0 := Int × List (List Int) × Int × ByteArray × Int × Int × Int × Int

def spec_RunBlock_l0_a0 (y0 : Int) (y1 : List (List Int)) : List Int :=
  Option.getD y1[Int.toNat y0]? (dflt (CTy.sl (2 : TypeId) (CTy.int IntKind.i64)))

def spec_RunBlock_l0_0 (y0 : Int) (y1 : List (List Int)) : Bool :=
  ltI y0 (↑(List.length y1) : Int)

def spec_RunBlock_l0_1 (y0 : Int) : Bool :=
  leI (0 : Int) y0

def spec_RunBlock_l0_2 (y0 : Int) (y1 : List (List Int)) : Bool :=
  ltN (Int.toNat y0) (List.length y1)

def spec_RunBlock_l0_3 (y0 : Int) (y1 : List (List Int)) : Bool :=
  leN (List.length (spec_RunBlock_l0_a0 y0 y1)) (9223372036854775807 : Nat)

def spec_RunBlock_l0_4 (y0 : Int) (y1 : List (List Int)) (y2 : Int) : Bool :=
  !bitsB (spec_l13Takes_0 y2) (spec_RunBlock_l0_a0 y0 y1)

def spec_RunBlock_l0_5 (y0 : Int) : Int :=
  IntKind.wrap IntKind.i64 (y0 + (1 : Int))

def JL_spec_RunBlock_l0 : X_spec_RunBlock_l0 → List (Nat × SV)
  | (y0, _, _, _, _, _, _, _) => [(7, (.one ⟨false, [(.val (.int IntKind.i64 y0))]⟩)), (1, (.one ⟨false, [(.ref 0)]⟩)), (2, (.one ⟨false, [(.ptr 1 0)]⟩)), (5, (.one ⟨false, [(.ptr 2 0)]⟩))]

def JE_spec_RunBlock_l0 : X_spec_RunBlock_l0 → List (Nat × Entry)
  | (_, y1, y2, y3, y4, y5, y6, y7) => [(0, (.row false 26 (CTy.sl (2 : TypeId) (CTy.int IntKind.i64)) y1)), (1, (.box 31 [(.val (.int IntKind.i64 y2)), (.val (.string y3)), (.val (.int IntKind.i64 y4))])), (2, (.box 28 [(.val (.int IntKind.i64 y5)), (.val (.int IntKind.i64 y6)), (.val (.int IntKind.i64 y7))]))]

def XL_spec_RunBlock_l0 : Nat → X_spec_RunBlock_l0 → List (Nat × SV)
  | 0, (_, _, _, _, _, _, _, _) => [(4, (.one ⟨false, [(.ref 3)]⟩)), (6, (.one ⟨false, [(.val (.int IntKind.i64 (2 : Int)))]⟩))]
  | _, (_, _, _, _, _, _, _, _) => []

def XE_spec_RunBlock_l0 : Nat → X_spec_RunBlock_l0 → List (Nat × Entry)
  | 0, (_, y1, y2, y3, y4, _, _, _) => [(0, (.row false 26 (CTy.sl (2 : TypeId) (CTy.int IntKind.i64)) y1)), (1, (.box 31 [(.val (.int IntKind.i64 y2)), (.val (.string y3)), (.val (.int IntKind.i64 y4))])), (2, (.box 28 [(.val (.int IntKind.i64 (0 : Int))), (.val (.int IntKind.i64 (0 : Int))), (.val (.int IntKind.i64 (0 : Int)))])), (3, (.row true 2 (CTy.int IntKind.i64) []))]
  | _, (_, y1, y2, y3, y4, y5, y6, y7) => [(0, (.row false 26 (CTy.sl (2 : TypeId) (CTy.int IntKind.i64)) y1)), (1, (.box 31 [(.val (.int IntKind.i64 y2)), (.val (.string y3)), (.val (.int IntKind.i64 y4))])), (2, (.box 28 [(.val (.int IntKind.i64 y5)), (.val (.int IntKind.i64 y6)), (.val (.int IntKind.i64 y7))]))]

def lt_spec_RunBlock_l0 : X_spec_RunBlock_l0 → LT X_spec_RunBlock_l0
  | (y0, y1, y2, y3, y4, y5, y6, y7) => .ite (spec_RunBlock_l0_0 y0 y1) (.need [(spec_RunBlock_l0_1 y0), (spec_RunBlock_l0_0 y0 y1), (spec_RunBlock_l0_2 y0 y1), (spec_RunBlock_l0_3 y0 y1)] (.ite (spec_RunBlock_l0_4 y0 y1 y2) (.ext 0 [(0, 0), (1, 1), (2, 2), (3, 960)]) (.nrm ((spec_RunBlock_l0_5 y0), y1, y2, y3, y4, y5, y6, y7) [(0, 0), (1, 1), (2, 2)]))) (.ext 1 [(0, 0), (1, 1), (2, 2)])

def rd_spec_RunBlock_l0 (s : St) : Option X_spec_RunBlock_l0 :=
  (match s.look 7 with
  | some ⟨none, (.one ⟨false, [(.val (.int IntKind.i64 y0))]⟩)⟩ =>
  (match s.look 1 with
  | some ⟨none, (.one ⟨false, [(.ref 0)]⟩)⟩ =>
  (match s.look 2 with
  | some ⟨none, (.one ⟨false, [(.ptr 128 0)]⟩)⟩ =>
  (match s.look 5 with
  | some ⟨none, (.one ⟨false, [(.ptr 256 0)]⟩)⟩ =>
  (match s.ent 0 with
  | some (.row false 26 (CTy.sl (2 : TypeId) (CTy.int IntKind.i64)) y1) =>
  (match s.ent 128 with
  | some (.box 31 [(.val (.int IntKind.i64 y2)), (.val (.string y3)), (.val (.int IntKind.i64 y4))]) =>
  (match s.ent 256 with
  | some (.box 28 [(.val (.int IntKind.i64 y5)), (.val (.int IntKind.i64 y6)), (.val (.int IntKind.i64 y7))]) =>
  some (y0, y1, y2, y3, y4, y5, y6, y7)
  | _ => none)
  | _ => none)
  | _ => none)
  | _ => none)
  | _ => none)
  | _ => none)
  | _ => none)

def lp_spec_RunBlock_l0 : Lp X_spec_RunBlock_l0 where
  h := ⟨[21, 22, 23, 24, 27, 28, 29, 30, 31, 32, 33, 34, 35, 36, 4, 6, 25, 26, 7], [0, 1, 2], [], [3]⟩
  JL := JL_spec_RunBlock_l0
  JE := JE_spec_RunBlock_l0
  XL := XL_spec_RunBlock_l0
  XE := XE_spec_RunBlock_l0
  q := fun j => match j with | 0 => .ret | _ => .exit 0
  tags := [0, 1]
  lt := lt_spec_RunBlock_l0
  fuel := fun (y0, y1, y2, y3, y4, y5, y6, y7) => y0.natAbs + y1.length + y2.natAbs + y3.size + y4.natAbs + y5.natAbs + y6.natAbs + y7.natAbs
  fix := fun (_, y1, y2, y3, y4, y5, y6, y7) (y0, _, _, _, _, _, _, _) => (y0, y1, y2, y3, y4, y5, y6, y7)
  σ := [(0, 0), (1, 128), (2, 256)]
  rd := rd_spec_RunBlock_l0

theorem lpok_spec_RunBlock_l0 : LoopOk Tryd.prog (fun k => Nat.blt k Tryd.f23.ntmps) lp_spec_RunBlock_l0.F (loopAt Tryd.f23 0) := by
  refine Lp.ok (tbl := [n_spec_IsBlock, p_spec_l15Step, PF.lend p_spec_l15Step, PF.fz p_spec_l15Step, n_spec_l22Bits, PF.lend n_spec_l22Bits, PF.fz n_spec_l22Bits, p_spec_l13Takes]) (lf := []) hmix lp_spec_RunBlock_l0 (by kernel_rfl) (LOk.nil _) (fun _ => rfl) (fun j _ => by unfold lp_spec_RunBlock_l0; match j with | 0 => rfl | _ + 1 => rfl) ?_ ?_ ?_ ?_ (fun _ => rfl) ?_
  · intro x; obtain ⟨y0, y1, y2, y3, y4, y5, y6, y7⟩ := x; kernel_rfl
  · intro x; obtain ⟨y0, y1, y2, y3, y4, y5, y6, y7⟩ := x; kernel_rfl
  · intro s x h
    have h : rd_spec_RunBlock_l0 s = some x := h
    unfold rd_spec_RunBlock_l0 at h
    repeat' split at h
    all_goals cases h
    exact ⟨absS_cons (by assumption) rfl (absS_cons (by assumption) rfl (absS_cons (by assumption) rfl (absS_cons (by assumption) rfl (rfl)))), absE_cons rfl (by assumption) rfl (absE_cons rfl (by assumption) rfl (absE_cons rfl (by assumption) rfl (rfl)))⟩
  · intro x; obtain ⟨y0, y1, y2, y3, y4, y5, y6, y7⟩ := x; kernel_rfl
  · intro x z; obtain ⟨y0, y1, y2, y3, y4, y5, y6, y7⟩ := x; exact (And.intro (And.intro trivial rfl) trivial)

abbrev X_spec_RunBlock_l1 := Int × List (List Int) × Int × ByteArray × Int × Int × Int × Int × List Int

def spec_RunBlock_l1_a0 (y0 : Int) (y1 : List (List Int)) : List Int :=
  Option.getD y1[Int.toNat y0]? (dflt (CTy.sl (2 : TypeId) (CTy.int IntKind.i64)))

def spec_RunBlock_l1_a1 (y0 : Int) (y1 : List (List Int)) (y2 : Int) (y4 : Int) (y5 : Int) (y6 : Int) (y7 : Int) : List Int :=
  [spec_l15Step_0 y2 y4 y5 y6 y7 (spec_RunBlock_l1_a0 y0 y1)]

def spec_RunBlock_l1_0 (y0 : Int) (y1 : List (List Int)) : Bool :=
  ltI y0 (↑(List.length y1) : Int)

def spec_RunBlock_l1_1 (y0 : Int) : Bool :=
  leI (0 : Int) y0

def spec_RunBlock_l1_2 (y0 : Int) (y1 : List (List Int)) : Bool :=
  ltN (Int.toNat y0) (List.length y1)

def spec_RunBlock_l1_3 (y0 : Int) (y1 : List (List Int)) : Bool :=
  spec_l15Step_4 (spec_RunBlock_l1_a0 y0 y1)

def spec_RunBlock_l1_4 (y0 : Int) (y1 : List (List Int)) (y2 : Int) (y4 : Int) (y5 : Int) (y6 : Int) (y7 : Int) (y8 : List Int) : Bool :=
  leN (List.length y8 + List.length (spec_RunBlock_l1_a1 y0 y1 y2 y4 y5 y6 y7)) (9223372036854775807 : Nat)

def spec_RunBlock_l1_5 (y0 : Int) (y1 : List (List Int)) (y2 : Int) (y4 : Int) (y5 : Int) (y6 : Int) (y7 : Int) (y8 : List Int) : Bool :=
  leN ((List.length y8 + List.length (spec_RunBlock_l1_a1 y0 y1 y2 y4 y5 y6 y7)) * (8 : Nat)) (140737488355328 : Nat)

def spec_RunBlock_l1_6 (y0 : Int) : Int :=
  IntKind.wrap IntKind.i64 (y0 + (1 : Int))

def spec_RunBlock_l1_7 (y0 : Int) (y1 : List (List Int)) (y2 : Int) (y4 : Int) (y5 : Int) (y6 : Int) (y7 : Int) : Int :=
  spec_l15Step_1 y2 y4 y5 y6 y7 (spec_RunBlock_l1_a0 y0 y1)

def spec_RunBlock_l1_8 (y0 : Int) (y1 : List (List Int)) (y2 : Int) (y6 : Int) (y7 : Int) : Int :=
  spec_l15Step_2 y2 y6 y7 (spec_RunBlock_l1_a0 y0 y1)

def spec_RunBlock_l1_9 (y0 : Int) (y1 : List (List Int)) (y2 : Int) (y4 : Int) (y5 : Int) (y7 : Int) : Int :=
  spec_l15Step_3 y2 y4 y5 y7 (spec_RunBlock_l1_a0 y0 y1)

def spec_RunBlock_l1_10 (y0 : Int) (y1 : List (List Int)) (y2 : Int) (y4 : Int) (y5 : Int) (y6 : Int) (y7 : Int) (y8 : List Int) : List Int :=
  y8 ++ spec_RunBlock_l1_a1 y0 y1 y2 y4 y5 y6 y7

def JL_spec_RunBlock_l1 : X_spec_RunBlock_l1 → List (Nat × SV)
  | (y0, _, _, _, _, _, _, _, _) => [(10, (.one ⟨false, [(.val (.int IntKind.i64 y0))]⟩)), (1, (.one ⟨false, [(.ref 0)]⟩)), (2, (.one ⟨false, [(.ptr 1 0)]⟩)), (9, (.one ⟨false, [(.ptr 2 0)]⟩)), (8, (.one ⟨false, [(.ref 3)]⟩))]

def JE_spec_RunBlock_l1 : X_spec_RunBlock_l1 → List (Nat × Entry)
  | (_, y1, y2, y3, y4, y5, y6, y7, y8) => [(0, (.row false 26 (CTy.sl (2 : TypeId) (CTy.int IntKind.i64)) y1)), (1, (.box 31 [(.val (.int IntKind.i64 y2)), (.val (.string y3)), (.val (.int IntKind.i64 y4))])), (2, (.box 28 [(.val (.int IntKind.i64 y5)), (.val (.int IntKind.i64 y6)), (.val (.int IntKind.i64 y7))])), (3, (.row true 2 (CTy.int IntKind.i64) y8))]

def XL_spec_RunBlock_l1 : Nat → X_spec_RunBlock_l1 → List (Nat × SV)
  | _, (_, _, _, _, _, _, _, _, _) => [(8, (.one ⟨false, [(.ref 3)]⟩))]

def XE_spec_RunBlock_l1 : Nat → X_spec_RunBlock_l1 → List (Nat × Entry)
  | _, (_, y1, y2, y3, y4, y5, y6, y7, y8) => [(0, (.row false 26 (CTy.sl (2 : TypeId) (CTy.int IntKind.i64)) y1)), (1, (.box 31 [(.val (.int IntKind.i64 y2)), (.val (.string y3)), (.val (.int IntKind.i64 y4))])), (2, (.box 28 [(.val (.int IntKind.i64 y5)), (.val (.int IntKind.i64 y6)), (.val (.int IntKind.i64 y7))])), (3, (.row true 2 (CTy.int IntKind.i64) y8))]

def lt_spec_RunBlock_l1 : X_spec_RunBlock_l1 → LT X_spec_RunBlock_l1
  | (y0, y1, y2, y3, y4, y5, y6, y7, y8) => .ite (spec_RunBlock_l1_0 y0 y1) (.need [(spec_RunBlock_l1_1 y0), (spec_RunBlock_l1_0 y0 y1), (spec_RunBlock_l1_2 y0 y1), (spec_RunBlock_l1_3 y0 y1)] (.need [(spec_RunBlock_l1_4 y0 y1 y2 y4 y5 y6 y7 y8), (spec_RunBlock_l1_5 y0 y1 y2 y4 y5 y6 y7 y8)] (.nrm ((spec_RunBlock_l1_6 y0), y1, y2, y3, y4, (spec_RunBlock_l1_7 y0 y1 y2 y4 y5 y6 y7), (spec_RunBlock_l1_8 y0 y1 y2 y6 y7), (spec_RunBlock_l1_9 y0 y1 y2 y4 y5 y7), (spec_RunBlock_l1_10 y0 y1 y2 y4 y5 y6 y7 y8)) [(0, 0), (1, 1), (2, 2), (3, 1472)]))) (.ext 0 [(0, 0), (1, 1), (2, 2), (3, 3)])

def rd_spec_RunBlock_l1 (s : St) : Option X_spec_RunBlock_l1 :=
  (match s.look 10 with
  | some ⟨none, (.one ⟨false, [(.val (.int IntKind.i64 y0))]⟩)⟩ =>
  (match s.look 1 with
  | some ⟨none, (.one ⟨false, [(.ref 0)]⟩)⟩ =>
  (match s.look 2 with
  | some ⟨none, (.one ⟨false, [(.ptr 128 0)]⟩)⟩ =>
  (match s.look 9 with
  | some ⟨none, (.one ⟨false, [(.ptr 1088 0)]⟩)⟩ =>
  (match s.look 8 with
  | some ⟨none, (.one ⟨false, [(.ref 896)]⟩)⟩ =>
  (match s.ent 0 with
  | some (.row false 26 (CTy.sl (2 : TypeId) (CTy.int IntKind.i64)) y1) =>
  (match s.ent 128 with
  | some (.box 31 [(.val (.int IntKind.i64 y2)), (.val (.string y3)), (.val (.int IntKind.i64 y4))]) =>
  (match s.ent 1088 with
  | some (.box 28 [(.val (.int IntKind.i64 y5)), (.val (.int IntKind.i64 y6)), (.val (.int IntKind.i64 y7))]) =>
  (match s.ent 896 with
  | some (.row true 2 (CTy.int IntKind.i64) y8) =>
  some (y0, y1, y2, y3, y4, y5, y6, y7, y8)
  | _ => none)
  | _ => none)
  | _ => none)
  | _ => none)
  | _ => none)
  | _ => none)
  | _ => none)
  | _ => none)
  | _ => none)

def lp_spec_RunBlock_l1 : Lp X_spec_RunBlock_l1 where
  h := ⟨[39, 40, 41, 42, 46, 47, 48, 49, 50, 51, 52, 45, 53, 54, 12, 11, 55, 56, 57, 58, 59, 8, 43, 44, 10], [0, 1, 2], [3], []⟩
  JL := JL_spec_RunBlock_l1
  JE := JE_spec_RunBlock_l1
  XL := XL_spec_RunBlock_l1
  XE := XE_spec_RunBlock_l1
  q := fun j => match j with | _ => .exit 2
  tags := [0]
  lt := lt_spec_RunBlock_l1
  fuel := fun (y0, y1, y2, y3, y4, y5, y6, y7, y8) => y0.natAbs + y1.length + y2.natAbs + y3.size + y4.natAbs + y5.natAbs + y6.natAbs + y7.natAbs + y8.length
  fix := fun (_, y1, y2, y3, y4, _, _, _, _) (y0, _, _, _, _, y5, y6, y7, y8) => (y0, y1, y2, y3, y4, y5, y6, y7, y8)
  σ := [(0, 0), (1, 128), (2, 1088), (3, 896)]
  rd := rd_spec_RunBlock_l1

theorem lpok_spec_RunBlock_l1 : LoopOk Tryd.prog (fun k => Nat.blt k Tryd.f23.ntmps) lp_spec_RunBlock_l1.F (loopAt Tryd.f23 1) := by
  refine Lp.ok (tbl := [n_spec_IsBlock, p_spec_l15Step, PF.lend p_spec_l15Step, PF.fz p_spec_l15Step, n_spec_l22Bits, PF.lend n_spec_l22Bits, PF.fz n_spec_l22Bits, p_spec_l13Takes]) (lf := []) hmix lp_spec_RunBlock_l1 (by kernel_rfl) (LOk.nil _) (fun _ => rfl) (fun _ _ => rfl) ?_ ?_ ?_ ?_ (fun _ => rfl) ?_
  · intro x; obtain ⟨y0, y1, y2, y3, y4, y5, y6, y7, y8⟩ := x; kernel_rfl
  · intro x; obtain ⟨y0, y1, y2, y3, y4, y5, y6, y7, y8⟩ := x; kernel_rfl
  · intro s x h
    have h : rd_spec_RunBlock_l1 s = some x := h
    unfold rd_spec_RunBlock_l1 at h
    repeat' split at h
    all_goals cases h
    exact ⟨absS_cons (by assumption) rfl (absS_cons (by assumption) rfl (absS_cons (by assumption) rfl (absS_cons (by assumption) rfl (absS_cons (by assumption) rfl (rfl))))), absE_cons rfl (by assumption) rfl (absE_cons rfl (by assumption) rfl (absE_cons rfl (by assumption) rfl (absE_cons rfl (by assumption) rfl (rfl))))⟩
  · intro x; obtain ⟨y0, y1, y2, y3, y4, y5, y6, y7, y8⟩ := x; kernel_rfl
  · intro x z; obtain ⟨y0, y1, y2, y3, y4, y5, y6, y7, y8⟩ := x; exact (And.intro rfl trivial)

def spec_RunBlock_a0 (x3 : List (List Int)) : Bool :=
  ltI (200 : Int) (↑(List.length x3) : Int)

def spec_RunBlock_a1 (x0 : Int) (x1 : ByteArray) (x2 : Int) (x3 : List (List Int)) : Int × List (List Int) × Int × ByteArray × Int × Int × Int × Int :=
  ((0 : Int), x3, x0, x1, x2, (0 : Int), (0 : Int), (0 : Int))

def spec_RunBlock_a2 (x0 : Int) (x1 : ByteArray) (x2 : Int) (x3 : List (List Int)) : Bool :=
  Nat.beq (Prod.fst (Lp.res lp_spec_RunBlock_l0 (spec_RunBlock_a1 x0 x1 x2 x3))) (0 : Nat)

def spec_RunBlock_a3 (x0 : Int) (x1 : ByteArray) (x2 : Int) (x3 : List (List Int)) : Int × List (List Int) × Int × ByteArray × Int × Int × Int × Int × List Int :=
  ((0 : Int), x3, x0, x1, x2, (0 : Int), (0 : Int), (0 : Int), [])

def spec_RunBlock_a4 (x0 : Int) (x1 : ByteArray) (x2 : Int) (x3 : List (List Int)) : Int × Int × Int × List Int :=
  Prod.snd (Prod.snd (Prod.snd (Prod.snd (Prod.snd (Prod.snd (Lp.res lp_spec_RunBlock_l1 (spec_RunBlock_a3 x0 x1 x2 x3)))))))

def spec_RunBlock_a5 (x0 : Int) (x1 : ByteArray) (x2 : Int) (x3 : List (List Int)) : Int × Int × List Int :=
  Prod.snd (spec_RunBlock_a4 x0 x1 x2 x3)

def spec_RunBlock_0 (x0 : Int) (x1 : ByteArray) (x2 : Int) (x3 : List (List Int)) : Int :=
  bif !blockB x0 x1 x2 then (0 : Int)
  else bif spec_RunBlock_a0 x3 then (0 : Int) else bif spec_RunBlock_a2 x0 x1 x2 x3 then (0 : Int) else Prod.fst (spec_RunBlock_a4 x0 x1 x2 x3)

def spec_RunBlock_1 (x0 : Int) (x1 : ByteArray) (x2 : Int) (x3 : List (List Int)) : Int :=
  bif !blockB x0 x1 x2 then (0 : Int)
  else bif spec_RunBlock_a0 x3 then (0 : Int) else bif spec_RunBlock_a2 x0 x1 x2 x3 then (0 : Int) else Prod.fst (spec_RunBlock_a5 x0 x1 x2 x3)

def spec_RunBlock_2 (x0 : Int) (x1 : ByteArray) (x2 : Int) (x3 : List (List Int)) : Int :=
  bif !blockB x0 x1 x2 then (0 : Int)
  else
  bif spec_RunBlock_a0 x3 then (0 : Int) else bif spec_RunBlock_a2 x0 x1 x2 x3 then (0 : Int) else Prod.fst (Prod.snd (spec_RunBlock_a5 x0 x1 x2 x3))

def spec_RunBlock_3 (x0 : Int) (x1 : ByteArray) (x2 : Int) (x3 : List (List Int)) : Int :=
  bif !blockB x0 x1 x2 then (1 : Int) else bif spec_RunBlock_a0 x3 then (3 : Int) else bif spec_RunBlock_a2 x0 x1 x2 x3 then (2 : Int) else (0 : Int)

def spec_RunBlock_4 (x0 : Int) (x1 : ByteArray) (x2 : Int) (x3 : List (List Int)) : List Int :=
  bif !blockB x0 x1 x2 then []
  else bif spec_RunBlock_a0 x3 then [] else bif spec_RunBlock_a2 x0 x1 x2 x3 then [] else Prod.snd (Prod.snd (spec_RunBlock_a5 x0 x1 x2 x3))

def spec_RunBlock_5 (x0 : Int) (x1 : ByteArray) (x2 : Int) (x3 : List (List Int)) : Bool :=
  allT
  [leN (ByteArray.size x1) (9223372036854775807 : Nat),
    !blockB x0 x1 x2 || (spec_RunBlock_a0 x3 || Lp.fin lp_spec_RunBlock_l0 (spec_RunBlock_a1 x0 x1 x2 x3)),
    !blockB x0 x1 x2 || (spec_RunBlock_a0 x3 || (spec_RunBlock_a2 x0 x1 x2 x3 || Lp.fin lp_spec_RunBlock_l1 (spec_RunBlock_a3 x0 x1 x2 x3)))]

def F_spec_RunBlock : List SV → List Entry → Option Out
  | [.one ⟨true, [.val (.int .i64 x0), .val (.string x1), .val (.int .i64 x2)]⟩, .one ⟨false, [.ref 0]⟩], [.row false 26 (.sl 2 (.int .i64)) x3] => some ⟨(.tup [⟨false, [(.ref 1)]⟩, ⟨true, [(.val (.int IntKind.i64 (spec_RunBlock_0 x0 x1 x2 x3))), (.val (.int IntKind.i64 (spec_RunBlock_1 x0 x1 x2 x3))), (.val (.int IntKind.i64 (spec_RunBlock_2 x0 x1 x2 x3)))]⟩, ⟨false, [(.val (.int IntKind.i64 (spec_RunBlock_3 x0 x1 x2 x3)))]⟩]), [(.row false 26 (CTy.sl (2 : TypeId) (CTy.int IntKind.i64)) x3)], [(.row true 2 (CTy.int IntKind.i64) (spec_RunBlock_4 x0 x1 x2 x3))], [(spec_RunBlock_5 x0 x1 x2 x3)]⟩
  | _, _ => none

def p_spec_RunBlock : PF Tryd.prog := PF.ofG Tryd.prog [n_spec_IsBlock, p_spec_l15Step, PF.lend p_spec_l15Step, PF.fz p_spec_l15Step, n_spec_l22Bits, PF.lend n_spec_l22Bits, PF.fz n_spec_l22Bits, p_spec_l13Takes] [lp_spec_RunBlock_l0.F, lp_spec_RunBlock_l1.F] hmix 23 Tryd.f23 Tryd.func23 (LOk.fnT (l := [loopAt Tryd.f23 0, loopAt Tryd.f23 1]) (by kernel_rfl) (.cons lpok_spec_RunBlock_l0 (.cons lpok_spec_RunBlock_l1 (.nil _)))) F_spec_RunBlock (by
  intro vs es r h; unfold F_spec_RunBlock at h; split at h
  · cases h; kernel_rfl
  · cases h)

end Go.SX

/- What functions of the program come to, row by row (made by a program of the workplace). -/
import Derived.Test.YtjhgiognlkmehaaGreatTXh
import Derived.Test.YtjhgiognlkmehaaGreatProg
import Derived.Test.YtjhgiognlkmehaaGreatNu
import Derived.Test.YtjhgiognlkmehaaGreatNh
namespace Go.SX
open Go.Proofs
set_option maxRecDepth 100000

def spec_l33Stands_0 (x0 : Int) (x3 : Int) (x4 : List Int) : Bool :=
  Option.getD x4[Int.toNat x3]? (0 : Int) ==
  IntKind.wrap IntKind.i64 (IntKind.wrap IntKind.i64 ((3 : Int) * IntKind.wrap IntKind.i64 (x0 - (1 : Int))) + (1 : Int))

def spec_l33Stands_1 (x3 : Int) (x4 : List Int) : Bool :=
  allT [leI (0 : Int) x3, ltI x3 (↑(List.length x4) : Int), ltN (Int.toNat x3) (List.length x4)]

def F_spec_l33Stands : List SV → List Entry → Option Out
  | [.one ⟨true, [.val (.int .i64 x0), .ref 0, .ref 1, .ref 2, .ref 3, .val (.int .i64 _x1), .ref 4, .ref 5, .val (.int .i64 _x2)]⟩, .one ⟨false, [.val (.int .i64 x3)]⟩], [.row false 2 (.int .i64) x4, .row false 78 (.pair (.int .i64) (.pair (.int .i64) (.int .i64))) x5, .row false 22 (.sl 2 (.int .i64)) x6, .row false 82 (.pair (.int .i64) (.pair (.int .i64) (.int .i64))) x7, .row false 86 (.pair (.int .i64) (.int .i64)) x8, .row false 90 (.pair (.int .i64) (.int .i64)) x9] => some ⟨(.one ⟨false, [(.val (.bool (spec_l33Stands_0 x0 x3 x4)))]⟩), [(.row false 2 (CTy.int IntKind.i64) x4), (.row false 78 (CTy.pair (CTy.int IntKind.i64) (CTy.pair (CTy.int IntKind.i64) (CTy.int IntKind.i64))) x5), (.row false 22 (CTy.sl (2 : TypeId) (CTy.int IntKind.i64)) x6), (.row false 82 (CTy.pair (CTy.int IntKind.i64) (CTy.pair (CTy.int IntKind.i64) (CTy.int IntKind.i64))) x7), (.row false 86 (CTy.pair (CTy.int IntKind.i64) (CTy.int IntKind.i64)) x8), (.row false 90 (CTy.pair (CTy.int IntKind.i64) (CTy.int IntKind.i64)) x9)], [], [(spec_l33Stands_1 x3 x4)]⟩
  | _, _ => none

def p_spec_l33Stands : PF Tryz.prog := PF.ofG Tryz.prog [] [] hmix 17 Tryz.f17 Tryz.func17 (fun c _ => LOk.nil c) F_spec_l33Stands (by
  intro vs es r h; unfold F_spec_l33Stands at h; split at h
  · cases h; kernel_rfl
  · cases h)

abbrev X_spec_l26Least_l0 := Int × Int × List Int

def spec_l26Least_l0_a0 (y0 : Int) (y2 : List Int) : Int :=
  Option.getD y2[Int.toNat y0]? (0 : Int)

def spec_l26Least_l0_0 (y0 : Int) (y2 : List Int) : Bool :=
  ltI y0 (↑(List.length y2) : Int)

def spec_l26Least_l0_1 (y0 : Int) : Bool :=
  leI (0 : Int) y0

def spec_l26Least_l0_2 (y0 : Int) (y2 : List Int) : Bool :=
  ltN (Int.toNat y0) (List.length y2)

def spec_l26Least_l0_3 (y0 : Int) : Int :=
  IntKind.wrap IntKind.i64 (y0 + (1 : Int))

def spec_l26Least_l0_4 (y0 : Int) (y1 : Int) (y2 : List Int) : Int :=
  ifLt (spec_l26Least_l0_a0 y0 y2) y1 (spec_l26Least_l0_a0 y0 y2) y1

def JL_spec_l26Least_l0 : X_spec_l26Least_l0 → List (Nat × SV)
  | (y0, y1, _) => [(4, (.one ⟨false, [(.val (.int IntKind.i64 y0))]⟩)), (0, (.one ⟨false, [(.ref 0)]⟩)), (3, (.one ⟨false, [(.val (.int IntKind.i64 y1))]⟩))]

def JE_spec_l26Least_l0 : X_spec_l26Least_l0 → List (Nat × Entry)
  | (_, _, y2) => [(0, (.row false 2 (CTy.int IntKind.i64) y2))]

def XL_spec_l26Least_l0 : Nat → X_spec_l26Least_l0 → List (Nat × SV)
  | _, (_, y1, _) => [(3, (.one ⟨false, [(.val (.int IntKind.i64 y1))]⟩))]

def XE_spec_l26Least_l0 : Nat → X_spec_l26Least_l0 → List (Nat × Entry)
  | _, (_, _, y2) => [(0, (.row false 2 (CTy.int IntKind.i64) y2))]

def lt_spec_l26Least_l0 : X_spec_l26Least_l0 → LT X_spec_l26Least_l0
  | (y0, y1, y2) => .ite (spec_l26Least_l0_0 y0 y2) (.need [(spec_l26Least_l0_1 y0), (spec_l26Least_l0_0 y0 y2), (spec_l26Least_l0_2 y0 y2)] (.nrm ((spec_l26Least_l0_3 y0), (spec_l26Least_l0_4 y0 y1 y2), y2) [(0, 0)])) (.ext 0 [(0, 0)])

def rd_spec_l26Least_l0 (s : St) : Option X_spec_l26Least_l0 :=
  (match s.look 4 with
  | some ⟨none, (.one ⟨false, [(.val (.int IntKind.i64 y0))]⟩)⟩ =>
  (match s.look 0 with
  | some ⟨none, (.one ⟨false, [(.ref 0)]⟩)⟩ =>
  (match s.look 3 with
  | some ⟨none, (.one ⟨false, [(.val (.int IntKind.i64 y1))]⟩)⟩ =>
  (match s.ent 0 with
  | some (.row false 2 (CTy.int IntKind.i64) y2) =>
  some (y0, y1, y2)
  | _ => none)
  | _ => none)
  | _ => none)
  | _ => none)

def lp_spec_l26Least_l0 : Lp X_spec_l26Least_l0 where
  h := ⟨[8, 9, 10, 11, 14, 15, 16, 17, 18, 19, 3, 12, 13, 4], [0], [], []⟩
  JL := JL_spec_l26Least_l0
  JE := JE_spec_l26Least_l0
  XL := XL_spec_l26Least_l0
  XE := XE_spec_l26Least_l0
  q := fun j => match j with | _ => .exit 0
  tags := [0]
  lt := lt_spec_l26Least_l0
  fuel := fun (y0, y1, y2) => y0.natAbs + y1.natAbs + y2.length
  fix := fun (_, _, y2) (y0, y1, _) => (y0, y1, y2)
  σ := [(0, 0)]
  rd := rd_spec_l26Least_l0

theorem lpok_spec_l26Least_l0 : LoopOk Tryz.prog (fun k => Nat.blt k Tryz.f46.ntmps) lp_spec_l26Least_l0.F (loopAt Tryz.f46 0) := by
  refine Lp.ok (tbl := []) (lf := []) hmix lp_spec_l26Least_l0 (by kernel_rfl) (LOk.nil _) (fun _ => rfl) (fun _ _ => rfl) ?_ ?_ ?_ ?_ (fun _ => rfl) ?_
  · intro x; obtain ⟨y0, y1, y2⟩ := x; kernel_rfl
  · intro x; obtain ⟨y0, y1, y2⟩ := x; kernel_rfl
  · intro s x h
    have h : rd_spec_l26Least_l0 s = some x := h
    unfold rd_spec_l26Least_l0 at h
    repeat' split at h
    all_goals cases h
    exact ⟨absS_cons (by assumption) rfl (absS_cons (by assumption) rfl (absS_cons (by assumption) rfl (rfl))), absE_cons rfl (by assumption) rfl (rfl)⟩
  · intro x; obtain ⟨y0, y1, y2⟩ := x; kernel_rfl
  · intro x z; obtain ⟨y0, y1, y2⟩ := x; exact (And.intro rfl trivial)

def spec_l26Least_a0 (x0 : List Int) : Int × Int × List Int :=
  ((1 : Int), Option.getD x0[Int.toNat (0 : Int)]? (0 : Int), x0)

def spec_l26Least_0 (x0 : List Int) : Int :=
  Prod.fst (Prod.snd (Prod.snd (Lp.res lp_spec_l26Least_l0 (spec_l26Least_a0 x0))))

def spec_l26Least_1 (x0 : List Int) : Bool :=
  allT [ltI (0 : Int) (↑(List.length x0) : Int), ltN (Int.toNat (0 : Int)) (List.length x0), Lp.fin lp_spec_l26Least_l0 (spec_l26Least_a0 x0)]

def F_spec_l26Least : List SV → List Entry → Option Out
  | [.one ⟨false, [.ref 0]⟩], [.row false 2 (.int .i64) x0] => some ⟨(.one ⟨false, [(.val (.int IntKind.i64 (spec_l26Least_0 x0)))]⟩), [(.row false 2 (CTy.int IntKind.i64) x0)], [], [(spec_l26Least_1 x0)]⟩
  | _, _ => none

def p_spec_l26Least : PF Tryz.prog := PF.ofG Tryz.prog [] [lp_spec_l26Least_l0.F] hmix 46 Tryz.f46 Tryz.func46 (LOk.fnT (l := [loopAt Tryz.f46 0]) (by kernel_rfl) (.cons lpok_spec_l26Least_l0 (.nil _))) F_spec_l26Least (by
  intro vs es r h; unfold F_spec_l26Least at h; split at h
  · cases h; kernel_rfl
  · cases h)

def spec_AllLocked_0 (x0 : List Int) : Bool :=
  bif areR x0 then spec_l26Least_0 x0 == (2 : Int) else false

def spec_AllLocked_1 (x0 : List Int) : Bool :=
  allT [leN (List.length x0) (9223372036854775807 : Nat), !(areR x0 && true) || spec_l26Least_1 x0]

def F_spec_AllLocked : List SV → List Entry → Option Out
  | [.one ⟨false, [.ref 0]⟩], [.row false 2 (.int .i64) x0] => some ⟨(.one ⟨false, [(.val (.bool (spec_AllLocked_0 x0)))]⟩), [(.row false 2 (CTy.int IntKind.i64) x0)], [], [(spec_AllLocked_1 x0)]⟩
  | _, _ => none

def p_spec_AllLocked : PF Tryz.prog := PF.ofG Tryz.prog [n_spec_AreRestraints, PF.lend n_spec_AreRestraints, PF.fz n_spec_AreRestraints, p_spec_l26Least, PF.lend p_spec_l26Least, PF.fz p_spec_l26Least] [] hmix 18 Tryz.f18 Tryz.func18 (fun c _ => LOk.nil c) F_spec_AllLocked (by
  intro vs es r h; unfold F_spec_AllLocked at h; split at h
  · cases h; kernel_rfl
  · cases h)

def impl_allLocked_1_0 (x0 : Int) : Bool :=
  x0 != (2 : Int)

def F_impl_allLocked_1 : List SV → List Entry → Option Out
  | [.one ⟨false, [.val (.int .i64 x0)]⟩], [] => some ⟨(.one ⟨false, [(.val (.bool (impl_allLocked_1_0 x0)))]⟩), [], [], []⟩
  | _, _ => none

def p_impl_allLocked_1 : PF Tryz.prog := PF.ofG Tryz.prog [] [] hmix 64 Tryz.f64 Tryz.func64 (fun c _ => LOk.nil c) F_impl_allLocked_1 (by
  intro vs es r h; unfold F_impl_allLocked_1 at h; split at h
  · cases h; kernel_rfl
  · cases h)

def impl_allLocked_1_q2302_0 (x0 : Int) : Bool :=
  x0 != (2 : Int)

def F_impl_allLocked_1_q2302 : List SV → List Entry → Option Out
  | [(.one ⟨false, [(.val (.int IntKind.i64 x0))]⟩)], [] => some ⟨(.one ⟨false, [(.val (.bool (impl_allLocked_1_q2302_0 x0)))]⟩), [], [], []⟩
  | _, _ => none

def p_impl_allLocked_1_q2302 : PF Tryz.prog := PF.ofG Tryz.prog [] [] hmix 64 Tryz.f64 Tryz.func64 (fun c _ => LOk.nil c) F_impl_allLocked_1_q2302 (by
  intro vs es r h; unfold F_impl_allLocked_1_q2302 at h; split at h
  · cases h; kernel_rfl
  · cases h)

abbrev X_slices_IndexFunc_int64_int64_q2301_l0 := Int × Int × List Int

def slices_IndexFunc_int64_int64_q2301_l0_0 (y0 : Int) (y1 : Int) : Bool :=
  ltI y0 y1

def slices_IndexFunc_int64_int64_q2301_l0_1 (y0 : Int) : Bool :=
  leI (0 : Int) y0

def slices_IndexFunc_int64_int64_q2301_l0_2 (y0 : Int) (y2 : List Int) : Bool :=
  ltI y0 (↑(List.length y2) : Int)

def slices_IndexFunc_int64_int64_q2301_l0_3 (y0 : Int) (y2 : List Int) : Bool :=
  ltN (Int.toNat y0) (List.length y2)

def slices_IndexFunc_int64_int64_q2301_l0_4 (y0 : Int) (y2 : List Int) : Bool :=
  impl_allLocked_1_q2302_0 (Option.getD y2[Int.toNat y0]? (0 : Int))

def slices_IndexFunc_int64_int64_q2301_l0_5 (y0 : Int) : Int :=
  IntKind.wrap IntKind.i64 (y0 + (1 : Int))

def JL_slices_IndexFunc_int64_int64_q2301_l0 : X_slices_IndexFunc_int64_int64_q2301_l0 → List (Nat × SV)
  | (y0, y1, _) => [(8, (.one ⟨false, [(.val (.int IntKind.i64 y0))]⟩)), (7, (.one ⟨false, [(.val (.int IntKind.i64 y1))]⟩)), (1, (.one ⟨false, [(.val (.func (.func 64) ⟨[]⟩ ⟨[]⟩))]⟩)), (0, (.one ⟨false, [(.ref 0)]⟩))]

def JE_slices_IndexFunc_int64_int64_q2301_l0 : X_slices_IndexFunc_int64_int64_q2301_l0 → List (Nat × Entry)
  | (_, _, y2) => [(0, (.row false 2 (CTy.int IntKind.i64) y2))]

def XL_slices_IndexFunc_int64_int64_q2301_l0 : Nat → X_slices_IndexFunc_int64_int64_q2301_l0 → List (Nat × SV)
  | 0, (y0, _, _) => [(4, (.one ⟨false, [(.val (.int IntKind.i64 y0))]⟩))]
  | _, (_, _, _) => []

def XE_slices_IndexFunc_int64_int64_q2301_l0 : Nat → X_slices_IndexFunc_int64_int64_q2301_l0 → List (Nat × Entry)
  | 0, (_, _, y2) => [(0, (.row false 2 (CTy.int IntKind.i64) y2))]
  | _, (_, _, y2) => [(0, (.row false 2 (CTy.int IntKind.i64) y2))]

def lt_slices_IndexFunc_int64_int64_q2301_l0 : X_slices_IndexFunc_int64_int64_q2301_l0 → LT X_slices_IndexFunc_int64_int64_q2301_l0
  | (y0, y1, y2) => .ite (slices_IndexFunc_int64_int64_q2301_l0_0 y0 y1) (.need [(slices_IndexFunc_int64_int64_q2301_l0_1 y0), (slices_IndexFunc_int64_int64_q2301_l0_2 y0 y2), (slices_IndexFunc_int64_int64_q2301_l0_3 y0 y2)] (.ite (slices_IndexFunc_int64_int64_q2301_l0_4 y0 y2) (.ext 0 [(0, 0)]) (.nrm ((slices_IndexFunc_int64_int64_q2301_l0_5 y0), y1, y2) [(0, 0)]))) (.ext 1 [(0, 0)])

def rd_slices_IndexFunc_int64_int64_q2301_l0 (s : St) : Option X_slices_IndexFunc_int64_int64_q2301_l0 :=
  (match s.look 8 with
  | some ⟨none, (.one ⟨false, [(.val (.int IntKind.i64 y0))]⟩)⟩ =>
  (match s.look 7 with
  | some ⟨none, (.one ⟨false, [(.val (.int IntKind.i64 y1))]⟩)⟩ =>
  (match s.look 1 with
  | some ⟨none, (.one ⟨false, [(.val (.func (.func 64) ⟨[]⟩ ⟨[]⟩))]⟩)⟩ =>
  (match s.look 0 with
  | some ⟨none, (.one ⟨false, [(.ref 0)]⟩)⟩ =>
  (match s.ent 0 with
  | some (.row false 2 (CTy.int IntKind.i64) y2) =>
  some (y0, y1, y2)
  | _ => none)
  | _ => none)
  | _ => none)
  | _ => none)
  | _ => none)

def lp_slices_IndexFunc_int64_int64_q2301_l0 : Lp X_slices_IndexFunc_int64_int64_q2301_l0 where
  h := ⟨[9, 10, 5, 11, 12, 13, 14, 15, 16, 17, 4, 18, 8], [0], [], []⟩
  JL := JL_slices_IndexFunc_int64_int64_q2301_l0
  JE := JE_slices_IndexFunc_int64_int64_q2301_l0
  XL := XL_slices_IndexFunc_int64_int64_q2301_l0
  XE := XE_slices_IndexFunc_int64_int64_q2301_l0
  q := fun j => match j with | 0 => .ret | _ => .exit 0
  tags := [0, 1]
  lt := lt_slices_IndexFunc_int64_int64_q2301_l0
  fuel := fun (y0, y1, y2) => y0.natAbs + y1.natAbs + y2.length
  fix := fun (_, y1, y2) (y0, _, _) => (y0, y1, y2)
  σ := [(0, 0)]
  rd := rd_slices_IndexFunc_int64_int64_q2301_l0

theorem lpok_slices_IndexFunc_int64_int64_q2301_l0 : LoopOk Tryz.prog (fun k => Nat.blt k Tryz.f89.ntmps) lp_slices_IndexFunc_int64_int64_q2301_l0.F (loopAt Tryz.f89 0) := by
  refine Lp.ok (tbl := [p_impl_allLocked_1_q2302]) (lf := []) hmix lp_slices_IndexFunc_int64_int64_q2301_l0 (by kernel_rfl) (LOk.nil _) (fun _ => rfl) (fun j _ => by unfold lp_slices_IndexFunc_int64_int64_q2301_l0; match j with | 0 => rfl | _ + 1 => rfl) ?_ ?_ ?_ ?_ (fun _ => rfl) ?_
  · intro x; obtain ⟨y0, y1, y2⟩ := x; kernel_rfl
  · intro x; obtain ⟨y0, y1, y2⟩ := x; kernel_rfl
  · intro s x h
    have h : rd_slices_IndexFunc_int64_int64_q2301_l0 s = some x := h
    unfold rd_slices_IndexFunc_int64_int64_q2301_l0 at h
    repeat' split at h
    all_goals cases h
    exact ⟨absS_cons (by assumption) rfl (absS_cons (by assumption) rfl (absS_cons (by assumption) rfl (absS_cons (by assumption) rfl (rfl)))), absE_cons rfl (by assumption) rfl (rfl)⟩
  · intro x; obtain ⟨y0, y1, y2⟩ := x; kernel_rfl
  · intro x z; obtain ⟨y0, y1, y2⟩ := x; exact (And.intro (And.intro trivial rfl) trivial)

def slices_IndexFunc_int64_int64_q2301_a0 (x0 : List Int) : Int × Int × List Int :=
  ((0 : Int), (↑(List.length x0) : Int), x0)

def slices_IndexFunc_int64_int64_q2301_0 (x0 : List Int) : Int :=
  bif Nat.beq (Prod.fst (Lp.res lp_slices_IndexFunc_int64_int64_q2301_l0 (slices_IndexFunc_int64_int64_q2301_a0 x0))) (0 : Nat) then
  Prod.fst (Prod.snd (Lp.res lp_slices_IndexFunc_int64_int64_q2301_l0 (slices_IndexFunc_int64_int64_q2301_a0 x0)))
  else (-1 : Int)

def slices_IndexFunc_int64_int64_q2301_1 (x0 : List Int) : Bool :=
  allT [Lp.fin lp_slices_IndexFunc_int64_int64_q2301_l0 (slices_IndexFunc_int64_int64_q2301_a0 x0)]

def F_slices_IndexFunc_int64_int64_q2301 : List SV → List Entry → Option Out
  | [(.one ⟨false, [(.ref 0)]⟩), (.one ⟨false, [(.val (.func (.func 64) ⟨[]⟩ ⟨[]⟩))]⟩)], [(.row false 2 (CTy.int IntKind.i64) x0)] => some ⟨(.one ⟨false, [(.val (.int IntKind.i64 (slices_IndexFunc_int64_int64_q2301_0 x0)))]⟩), [(.row false 2 (CTy.int IntKind.i64) x0)], [], [(slices_IndexFunc_int64_int64_q2301_1 x0)]⟩
  | _, _ => none

def p_slices_IndexFunc_int64_int64_q2301 : PF Tryz.prog := PF.ofG Tryz.prog [p_impl_allLocked_1_q2302] [lp_slices_IndexFunc_int64_int64_q2301_l0.F] hmix 89 Tryz.f89 Tryz.func89 (LOk.fnT (l := [loopAt Tryz.f89 0]) (by kernel_rfl) (.cons lpok_slices_IndexFunc_int64_int64_q2301_l0 (.nil _))) F_slices_IndexFunc_int64_int64_q2301 (by
  intro vs es r h; unfold F_slices_IndexFunc_int64_int64_q2301 at h; split at h
  · cases h; kernel_rfl
  · cases h)

def slices_ContainsFunc_int64_int64_q2300_0 (x0 : List Int) : Bool :=
  leI (0 : Int) (slices_IndexFunc_int64_int64_q2301_0 x0)

def slices_ContainsFunc_int64_int64_q2300_1 (x0 : List Int) : Bool :=
  allT [slices_IndexFunc_int64_int64_q2301_1 x0]

def F_slices_ContainsFunc_int64_int64_q2300 : List SV → List Entry → Option Out
  | [(.one ⟨false, [(.ref 0)]⟩), (.one ⟨false, [(.val (.func (.func 64) ⟨[]⟩ ⟨[]⟩))]⟩)], [(.row false 2 (CTy.int IntKind.i64) x0)] => some ⟨(.one ⟨false, [(.val (.bool (slices_ContainsFunc_int64_int64_q2300_0 x0)))]⟩), [(.row false 2 (CTy.int IntKind.i64) x0)], [], [(slices_ContainsFunc_int64_int64_q2300_1 x0)]⟩
  | _, _ => none

def p_slices_ContainsFunc_int64_int64_q2300 : PF Tryz.prog := PF.ofG Tryz.prog [p_slices_IndexFunc_int64_int64_q2301, PF.lend p_slices_IndexFunc_int64_int64_q2301, PF.fz p_slices_IndexFunc_int64_int64_q2301] [] hmix 63 Tryz.f63 Tryz.func63 (fun c _ => LOk.nil c) F_slices_ContainsFunc_int64_int64_q2300 (by
  intro vs es r h; unfold F_slices_ContainsFunc_int64_int64_q2300 at h; split at h
  · cases h; kernel_rfl
  · cases h)

def impl_allLocked_0 (x0 : List Int) : Bool :=
  !slices_ContainsFunc_int64_int64_q2300_0 x0

def impl_allLocked_1 (x0 : List Int) : Bool :=
  allT [slices_ContainsFunc_int64_int64_q2300_1 x0]

def F_impl_allLocked : List SV → List Entry → Option Out
  | [.one ⟨false, [.ref 0]⟩], [.row false 2 (.int .i64) x0] => some ⟨(.one ⟨false, [(.val (.bool (impl_allLocked_0 x0)))]⟩), [(.row false 2 (CTy.int IntKind.i64) x0)], [], [(impl_allLocked_1 x0)]⟩
  | _, _ => none

def p_impl_allLocked : PF Tryz.prog := PF.ofG Tryz.prog [p_impl_allLocked_1, p_slices_ContainsFunc_int64_int64_q2300, PF.lend p_slices_ContainsFunc_int64_int64_q2300, PF.fz p_slices_ContainsFunc_int64_int64_q2300] [] hmix 28 Tryz.f28 Tryz.func28 (fun c _ => LOk.nil c) F_impl_allLocked (by
  intro vs es r h; unfold F_impl_allLocked at h; split at h
  · cases h; kernel_rfl
  · cases h)

end Go.SX

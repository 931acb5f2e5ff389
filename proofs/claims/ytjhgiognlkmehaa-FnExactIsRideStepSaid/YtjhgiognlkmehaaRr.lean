/- What functions of the program come to, row by row (made by a program of the workplace). -/
import Derived.Test.YtjhgiognlkmehaaTXh
import Derived.Test.YtjhgiognlkmehaaProg
import Derived.Test.YtjhgiognlkmehaaNk
namespace Go.SX
open Go.Proofs
set_option maxRecDepth 100000

abbrev X_slices_Index_int64_int64_l0 := Int × Int × Int × List Int

def slices_Index_int64_int64_l0_0 (y0 : Int) (y1 : Int) : Bool :=
  ltI y0 y1

def slices_Index_int64_int64_l0_1 (y0 : Int) : Bool :=
  leI (0 : Int) y0

def slices_Index_int64_int64_l0_2 (y0 : Int) (y3 : List Int) : Bool :=
  ltI y0 (↑(List.length y3) : Int)

def slices_Index_int64_int64_l0_3 (y0 : Int) (y3 : List Int) : Bool :=
  ltN (Int.toNat y0) (List.length y3)

def slices_Index_int64_int64_l0_4 (y0 : Int) (y2 : Int) (y3 : List Int) : Bool :=
  y2 == Option.getD y3[Int.toNat y0]? (0 : Int)

def slices_Index_int64_int64_l0_5 (y0 : Int) : Int :=
  IntKind.wrap IntKind.i64 (y0 + (1 : Int))

def JL_slices_Index_int64_int64_l0 : X_slices_Index_int64_int64_l0 → List (Nat × SV)
  | (y0, y1, y2, _) => [(8, (.one ⟨false, [(.val (.int IntKind.i64 y0))]⟩)), (7, (.one ⟨false, [(.val (.int IntKind.i64 y1))]⟩)), (1, (.one ⟨false, [(.val (.int IntKind.i64 y2))]⟩)), (0, (.one ⟨false, [(.ref 0)]⟩))]

def JE_slices_Index_int64_int64_l0 : X_slices_Index_int64_int64_l0 → List (Nat × Entry)
  | (_, _, _, y3) => [(0, (.row false 2 (CTy.int IntKind.i64) y3))]

def XL_slices_Index_int64_int64_l0 : Nat → X_slices_Index_int64_int64_l0 → List (Nat × SV)
  | 0, (y0, _, _, _) => [(4, (.one ⟨false, [(.val (.int IntKind.i64 y0))]⟩))]
  | _, (_, _, _, _) => []

def XE_slices_Index_int64_int64_l0 : Nat → X_slices_Index_int64_int64_l0 → List (Nat × Entry)
  | 0, (_, _, _, y3) => [(0, (.row false 2 (CTy.int IntKind.i64) y3))]
  | _, (_, _, _, y3) => [(0, (.row false 2 (CTy.int IntKind.i64) y3))]

def lt_slices_Index_int64_int64_l0 : X_slices_Index_int64_int64_l0 → LT X_slices_Index_int64_int64_l0
  | (y0, y1, y2, y3) => .ite (slices_Index_int64_int64_l0_0 y0 y1) (.need [(slices_Index_int64_int64_l0_1 y0), (slices_Index_int64_int64_l0_2 y0 y3), (slices_Index_int64_int64_l0_3 y0 y3)] (.ite (slices_Index_int64_int64_l0_4 y0 y2 y3) (.ext 0 [(0, 0)]) (.nrm ((slices_Index_int64_int64_l0_5 y0), y1, y2, y3) [(0, 0)]))) (.ext 1 [(0, 0)])

def rd_slices_Index_int64_int64_l0 (s : St) : Option X_slices_Index_int64_int64_l0 :=
  (match s.look 8 with
  | some ⟨none, (.one ⟨false, [(.val (.int IntKind.i64 y0))]⟩)⟩ =>
  (match s.look 7 with
  | some ⟨none, (.one ⟨false, [(.val (.int IntKind.i64 y1))]⟩)⟩ =>
  (match s.look 1 with
  | some ⟨none, (.one ⟨false, [(.val (.int IntKind.i64 y2))]⟩)⟩ =>
  (match s.look 0 with
  | some ⟨none, (.one ⟨false, [(.ref 0)]⟩)⟩ =>
  (match s.ent 0 with
  | some (.row false 2 (CTy.int IntKind.i64) y3) =>
  some (y0, y1, y2, y3)
  | _ => none)
  | _ => none)
  | _ => none)
  | _ => none)
  | _ => none)

def lp_slices_Index_int64_int64_l0 : Lp X_slices_Index_int64_int64_l0 where
  h := ⟨[9, 10, 5, 11, 12, 13, 14, 15, 16, 17, 4, 18, 8], [0], [], []⟩
  JL := JL_slices_Index_int64_int64_l0
  JE := JE_slices_Index_int64_int64_l0
  XL := XL_slices_Index_int64_int64_l0
  XE := XE_slices_Index_int64_int64_l0
  q := fun j => match j with | 0 => .ret | _ => .exit 0
  tags := [0, 1]
  lt := lt_slices_Index_int64_int64_l0
  fuel := fun (y0, y1, y2, y3) => y0.natAbs + y1.natAbs + y2.natAbs + y3.length
  fix := fun (_, y1, y2, y3) (y0, _, _, _) => (y0, y1, y2, y3)
  σ := [(0, 0)]
  rd := rd_slices_Index_int64_int64_l0

theorem lpok_slices_Index_int64_int64_l0 : LoopOk Try.prog (fun k => Nat.blt k Try.f100.ntmps) lp_slices_Index_int64_int64_l0.F (loopAt Try.f100 0) := by
  refine Lp.ok (tbl := []) (lf := []) hmix lp_slices_Index_int64_int64_l0 (by kernel_rfl) (LOk.nil _) (fun _ => rfl) (fun j _ => by unfold lp_slices_Index_int64_int64_l0; match j with | 0 => rfl | _ + 1 => rfl) ?_ ?_ ?_ ?_ (fun _ => rfl) ?_
  · intro x; obtain ⟨y0, y1, y2, y3⟩ := x; kernel_rfl
  · intro x; obtain ⟨y0, y1, y2, y3⟩ := x; kernel_rfl
  · intro s x h
    have h : rd_slices_Index_int64_int64_l0 s = some x := h
    unfold rd_slices_Index_int64_int64_l0 at h
    repeat' split at h
    all_goals cases h
    exact ⟨absS_cons (by assumption) rfl (absS_cons (by assumption) rfl (absS_cons (by assumption) rfl (absS_cons (by assumption) rfl (rfl)))), absE_cons rfl (by assumption) rfl (rfl)⟩
  · intro x; obtain ⟨y0, y1, y2, y3⟩ := x; kernel_rfl
  · intro x z; obtain ⟨y0, y1, y2, y3⟩ := x; exact (And.intro (And.intro trivial rfl) trivial)

def slices_Index_int64_int64_a0 (x0 : Int) (x1 : List Int) : Int × Int × Int × List Int :=
  ((0 : Int), (↑(List.length x1) : Int), x0, x1)

def slices_Index_int64_int64_0 (x0 : Int) (x1 : List Int) : Int :=
  bif Nat.beq (Prod.fst (Lp.res lp_slices_Index_int64_int64_l0 (slices_Index_int64_int64_a0 x0 x1))) (0 : Nat) then
  Prod.fst (Prod.snd (Lp.res lp_slices_Index_int64_int64_l0 (slices_Index_int64_int64_a0 x0 x1)))
  else (-1 : Int)

def slices_Index_int64_int64_1 (x0 : Int) (x1 : List Int) : Bool :=
  allT [Lp.fin lp_slices_Index_int64_int64_l0 (slices_Index_int64_int64_a0 x0 x1)]

def F_slices_Index_int64_int64 : List SV → List Entry → Option Out
  | [.one ⟨false, [.ref 0]⟩, .one ⟨false, [.val (.int .i64 x0)]⟩], [.row false 2 (.int .i64) x1] => some ⟨(.one ⟨false, [(.val (.int IntKind.i64 (slices_Index_int64_int64_0 x0 x1)))]⟩), [(.row false 2 (CTy.int IntKind.i64) x1)], [], [(slices_Index_int64_int64_1 x0 x1)]⟩
  | _, _ => none

def p_slices_Index_int64_int64 : PF Try.prog := PF.ofG Try.prog [] [lp_slices_Index_int64_int64_l0.F] hmix 100 Try.f100 Try.func100 (LOk.fnT (l := [loopAt Try.f100 0]) (by kernel_rfl) (.cons lpok_slices_Index_int64_int64_l0 (.nil _))) F_slices_Index_int64_int64 (by
  intro vs es r h; unfold F_slices_Index_int64_int64 at h; split at h
  · cases h; kernel_rfl
  · cases h)

def slices_Contains_int64_int64_0 (x0 : Int) (x1 : List Int) : Bool :=
  leI (0 : Int) (slices_Index_int64_int64_0 x0 x1)

def slices_Contains_int64_int64_1 (x0 : Int) (x1 : List Int) : Bool :=
  allT [slices_Index_int64_int64_1 x0 x1]

def F_slices_Contains_int64_int64 : List SV → List Entry → Option Out
  | [.one ⟨false, [.ref 0]⟩, .one ⟨false, [.val (.int .i64 x0)]⟩], [.row false 2 (.int .i64) x1] => some ⟨(.one ⟨false, [(.val (.bool (slices_Contains_int64_int64_0 x0 x1)))]⟩), [(.row false 2 (CTy.int IntKind.i64) x1)], [], [(slices_Contains_int64_int64_1 x0 x1)]⟩
  | _, _ => none

def p_slices_Contains_int64_int64 : PF Try.prog := PF.ofG Try.prog [p_slices_Index_int64_int64, PF.lend p_slices_Index_int64_int64, PF.fz p_slices_Index_int64_int64] [] hmix 90 Try.f90 Try.func90 (fun c _ => LOk.nil c) F_slices_Contains_int64_int64 (by
  intro vs es r h; unfold F_slices_Contains_int64_int64 at h; split at h
  · cases h; kernel_rfl
  · cases h)

abbrev X_impl_areTolerated_l0 := Int × Int × List (Int × (Int × Int)) × List Int

def impl_areTolerated_l0_a0 (y0 : Int) (y2 : List (Int × (Int × Int))) : Int × Int × Int :=
  Option.getD y2[Int.toNat y0]? ((0 : Int), (0 : Int), (0 : Int))

def impl_areTolerated_l0_a1 (y0 : Int) (y2 : List (Int × (Int × Int))) : Bool :=
  Prod.snd (Prod.snd (impl_areTolerated_l0_a0 y0 y2)) == (0 : Int)

def impl_areTolerated_l0_0 (y0 : Int) (y1 : Int) : Bool :=
  ltI y0 y1

def impl_areTolerated_l0_1 (y0 : Int) : Bool :=
  leI (0 : Int) y0

def impl_areTolerated_l0_2 (y0 : Int) (y2 : List (Int × (Int × Int))) : Bool :=
  ltI y0 (↑(List.length y2) : Int)

def impl_areTolerated_l0_3 (y0 : Int) (y2 : List (Int × (Int × Int))) : Bool :=
  ltN (Int.toNat y0) (List.length y2)

def impl_areTolerated_l0_4 (y0 : Int) (y2 : List (Int × (Int × Int))) (y3 : List Int) : Bool :=
  !impl_areTolerated_l0_a1 y0 y2 || slices_Contains_int64_int64_1 (Prod.fst (impl_areTolerated_l0_a0 y0 y2)) y3

def impl_areTolerated_l0_5 (y0 : Int) (y2 : List (Int × (Int × Int))) : Bool :=
  impl_areTolerated_l0_a1 y0 y2

def impl_areTolerated_l0_6 (y0 : Int) (y2 : List (Int × (Int × Int))) (y3 : List Int) : Bool :=
  slices_Contains_int64_int64_0 (Prod.fst (impl_areTolerated_l0_a0 y0 y2)) y3

def impl_areTolerated_l0_7 (y0 : Int) (y2 : List (Int × (Int × Int))) (y3 : List Int) : Bool :=
  leN (List.length y3 + List.length [Prod.fst (impl_areTolerated_l0_a0 y0 y2)]) (9223372036854775807 : Nat)

def impl_areTolerated_l0_8 (y0 : Int) (y2 : List (Int × (Int × Int))) (y3 : List Int) : Bool :=
  leN ((List.length y3 + List.length [Prod.fst (impl_areTolerated_l0_a0 y0 y2)]) * (8 : Nat)) (140737488355328 : Nat)

def impl_areTolerated_l0_9 (y0 : Int) : Int :=
  IntKind.wrap IntKind.i64 (y0 + (1 : Int))

def impl_areTolerated_l0_10 (y0 : Int) (y2 : List (Int × (Int × Int))) (y3 : List Int) : List Int :=
  y3 ++ [Prod.fst (impl_areTolerated_l0_a0 y0 y2)]

def JL_impl_areTolerated_l0 : X_impl_areTolerated_l0 → List (Nat × SV)
  | (y0, y1, _, _) => [(8, (.one ⟨false, [(.val (.int IntKind.i64 y0))]⟩)), (7, (.one ⟨false, [(.val (.int IntKind.i64 y1))]⟩)), (6, (.one ⟨false, [(.ref 0)]⟩)), (3, (.one ⟨false, [(.ref 1)]⟩))]

def JE_impl_areTolerated_l0 : X_impl_areTolerated_l0 → List (Nat × Entry)
  | (_, _, y2, y3) => [(0, (.row false 94 (CTy.pair (CTy.int IntKind.i64) (CTy.pair (CTy.int IntKind.i64) (CTy.int IntKind.i64))) y2)), (1, (.row true 2 (CTy.int IntKind.i64) y3))]

def XL_impl_areTolerated_l0 : Nat → X_impl_areTolerated_l0 → List (Nat × SV)
  | 0, (_, _, _, _) => [(2, (.one ⟨false, [(.val (.bool false))]⟩))]
  | _, (_, _, _, _) => []

def XE_impl_areTolerated_l0 : Nat → X_impl_areTolerated_l0 → List (Nat × Entry)
  | 0, (_, _, y2, y3) => [(0, (.row false 94 (CTy.pair (CTy.int IntKind.i64) (CTy.pair (CTy.int IntKind.i64) (CTy.int IntKind.i64))) y2)), (1, (.row true 2 (CTy.int IntKind.i64) y3))]
  | _, (_, _, y2, y3) => [(0, (.row false 94 (CTy.pair (CTy.int IntKind.i64) (CTy.pair (CTy.int IntKind.i64) (CTy.int IntKind.i64))) y2)), (1, (.row true 2 (CTy.int IntKind.i64) y3))]

def lt_impl_areTolerated_l0 : X_impl_areTolerated_l0 → LT X_impl_areTolerated_l0
  | (y0, y1, y2, y3) => .ite (impl_areTolerated_l0_0 y0 y1) (.need [(impl_areTolerated_l0_1 y0), (impl_areTolerated_l0_2 y0 y2), (impl_areTolerated_l0_3 y0 y2)] (.need [(impl_areTolerated_l0_4 y0 y2 y3)] (.ite (impl_areTolerated_l0_5 y0 y2) (.ite (impl_areTolerated_l0_6 y0 y2 y3) (.ext 0 [(0, 0), (1, 1)]) (.need [(impl_areTolerated_l0_7 y0 y2 y3), (impl_areTolerated_l0_8 y0 y2 y3)] (.nrm ((impl_areTolerated_l0_9 y0), y1, y2, (impl_areTolerated_l0_10 y0 y2 y3)) [(0, 0), (1, 1088)]))) (.nrm ((impl_areTolerated_l0_9 y0), y1, y2, y3) [(0, 0), (1, 1)])))) (.ext 1 [(0, 0), (1, 1)])

def rd_impl_areTolerated_l0 (s : St) : Option X_impl_areTolerated_l0 :=
  (match s.look 8 with
  | some ⟨none, (.one ⟨false, [(.val (.int IntKind.i64 y0))]⟩)⟩ =>
  (match s.look 7 with
  | some ⟨none, (.one ⟨false, [(.val (.int IntKind.i64 y1))]⟩)⟩ =>
  (match s.look 6 with
  | some ⟨none, (.one ⟨false, [(.ref 0)]⟩)⟩ =>
  (match s.look 3 with
  | some ⟨none, (.one ⟨false, [(.ref 192)]⟩)⟩ =>
  (match s.ent 0 with
  | some (.row false 94 (CTy.pair (CTy.int IntKind.i64) (CTy.pair (CTy.int IntKind.i64) (CTy.int IntKind.i64))) y2) =>
  (match s.ent 192 with
  | some (.row true 2 (CTy.int IntKind.i64) y3) =>
  some (y0, y1, y2, y3)
  | _ => none)
  | _ => none)
  | _ => none)
  | _ => none)
  | _ => none)
  | _ => none)

def lp_impl_areTolerated_l0 : Lp X_impl_areTolerated_l0 where
  h := ⟨[9, 10, 11, 5, 12, 13, 14, 15, 16, 17, 18, 2, 19, 20, 21, 22, 23, 3, 24, 8], [0], [1], []⟩
  JL := JL_impl_areTolerated_l0
  JE := JE_impl_areTolerated_l0
  XL := XL_impl_areTolerated_l0
  XE := XE_impl_areTolerated_l0
  q := fun j => match j with | 0 => .ret | _ => .exit 0
  tags := [0, 1]
  lt := lt_impl_areTolerated_l0
  fuel := fun (y0, y1, y2, y3) => y0.natAbs + y1.natAbs + y2.length + y3.length
  fix := fun (_, y1, y2, _) (y0, _, _, y3) => (y0, y1, y2, y3)
  σ := [(0, 0), (1, 192)]
  rd := rd_impl_areTolerated_l0

theorem lpok_impl_areTolerated_l0 : LoopOk Try.prog (fun k => Nat.blt k Try.f54.ntmps) lp_impl_areTolerated_l0.F (loopAt Try.f54 0) := by
  refine Lp.ok (tbl := [p_slices_Contains_int64_int64, PF.lend p_slices_Contains_int64_int64, PF.fz p_slices_Contains_int64_int64]) (lf := []) hmix lp_impl_areTolerated_l0 (by kernel_rfl) (LOk.nil _) (fun _ => rfl) (fun j _ => by unfold lp_impl_areTolerated_l0; match j with | 0 => rfl | _ + 1 => rfl) ?_ ?_ ?_ ?_ (fun _ => rfl) ?_
  · intro x; obtain ⟨y0, y1, y2, y3⟩ := x; kernel_rfl
  · intro x; obtain ⟨y0, y1, y2, y3⟩ := x; kernel_rfl
  · intro s x h
    have h : rd_impl_areTolerated_l0 s = some x := h
    unfold rd_impl_areTolerated_l0 at h
    repeat' split at h
    all_goals cases h
    exact ⟨absS_cons (by assumption) rfl (absS_cons (by assumption) rfl (absS_cons (by assumption) rfl (absS_cons (by assumption) rfl (rfl)))), absE_cons rfl (by assumption) rfl (absE_cons rfl (by assumption) rfl (rfl))⟩
  · intro x; obtain ⟨y0, y1, y2, y3⟩ := x; kernel_rfl
  · intro x z; obtain ⟨y0, y1, y2, y3⟩ := x; exact (And.intro (And.intro (And.intro trivial rfl) rfl) trivial)

def impl_areTolerated_a0 (x0 : List (Int × Int × Int)) : Int × Int × List (Int × Int × Int) × List Int :=
  ((0 : Int), (↑(List.length x0) : Int), x0, [])

def impl_areTolerated_0 (x0 : List (Int × Int × Int)) : Bool :=
  bif Nat.beq (Prod.fst (Lp.res lp_impl_areTolerated_l0 (impl_areTolerated_a0 x0))) (0 : Nat) then false else true

def impl_areTolerated_1 (x0 : List (Int × Int × Int)) : Bool :=
  allT [Lp.fin lp_impl_areTolerated_l0 (impl_areTolerated_a0 x0)]

def F_impl_areTolerated : List SV → List Entry → Option Out
  | [.one ⟨false, [.ref 0]⟩], [.row false 94 (.pair (.int .i64) (.pair (.int .i64) (.int .i64))) x0] => some ⟨(.one ⟨false, [(.val (.bool (impl_areTolerated_0 x0)))]⟩), [(.row false 94 (CTy.pair (CTy.int IntKind.i64) (CTy.pair (CTy.int IntKind.i64) (CTy.int IntKind.i64))) x0)], [], [(impl_areTolerated_1 x0)]⟩
  | _, _ => none

def p_impl_areTolerated : PF Try.prog := PF.ofG Try.prog [p_slices_Contains_int64_int64, PF.lend p_slices_Contains_int64_int64, PF.fz p_slices_Contains_int64_int64] [lp_impl_areTolerated_l0.F] hmix 54 Try.f54 Try.func54 (LOk.fnT (l := [loopAt Try.f54 0]) (by kernel_rfl) (.cons lpok_impl_areTolerated_l0 (.nil _))) F_impl_areTolerated (by
  intro vs es r h; unfold F_impl_areTolerated at h; split at h
  · cases h; kernel_rfl
  · cases h)

end Go.SX

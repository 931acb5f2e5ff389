/- What functions of the program come to, row by row (made by a program of the workplace). -/
import Derived.Test.YtjncnnpdaeociaaTXh
import Derived.Test.YtjncnnpdaeociaaProg
import Derived.Test.YtjncnnpdaeociaaNh
namespace Go.SX
open Go.Proofs
set_option maxRecDepth 100000

def impl_movesCode_1_q802_0 (x0 : Int) (x2 : List Int) : Bool :=
  !hasT x2 x0

def impl_movesCode_1_q802_1 (x2 : List Int) : Bool :=
  allT [leN (List.length x2) (9223372036854775807 : Nat)]

def F_impl_movesCode_1_q802 : List SV → List Entry → Option Out
  | [(.one ⟨false, [(.val (.int IntKind.i64 x0))]⟩), (.one ⟨false, [(.ptr 0 0)]⟩)], [(.box 26 [(.val (.int IntKind.i64 x1)), (.ref 1)]), (.row false 2 (CTy.int IntKind.i64) x2)] => some ⟨(.one ⟨false, [(.val (.bool (impl_movesCode_1_q802_0 x0 x2)))]⟩), [(.box 26 [(.val (.int IntKind.i64 x1)), (.ref 1)]), (.row false 2 (CTy.int IntKind.i64) x2)], [], [(impl_movesCode_1_q802_1 x2)]⟩
  | _, _ => none

def p_impl_movesCode_1_q802 : PF Try.prog := PF.ofG Try.prog [n_loop_example_g00916_impl_Traffic_hasTrain, PF.lend n_loop_example_g00916_impl_Traffic_hasTrain, PF.fz n_loop_example_g00916_impl_Traffic_hasTrain] [] hmix 133 Try.f133 Try.func133 (fun c _ => LOk.nil c) F_impl_movesCode_1_q802 (by
  intro vs es r h; unfold F_impl_movesCode_1_q802 at h; split at h
  · cases h; kernel_rfl
  · cases h)

abbrev X_slices_IndexFunc_int64_int64_q801_l0 := Int × Int × Int × List Int × List Int

def slices_IndexFunc_int64_int64_q801_l0_0 (y0 : Int) (y1 : Int) : Bool :=
  ltI y0 y1

def slices_IndexFunc_int64_int64_q801_l0_1 (y0 : Int) : Bool :=
  leI (0 : Int) y0

def slices_IndexFunc_int64_int64_q801_l0_2 (y0 : Int) (y3 : List Int) : Bool :=
  ltI y0 (↑(List.length y3) : Int)

def slices_IndexFunc_int64_int64_q801_l0_3 (y0 : Int) (y3 : List Int) : Bool :=
  ltN (Int.toNat y0) (List.length y3)

def slices_IndexFunc_int64_int64_q801_l0_4 (y4 : List Int) : Bool :=
  impl_movesCode_1_q802_1 y4

def slices_IndexFunc_int64_int64_q801_l0_5 (y0 : Int) (y3 : List Int) (y4 : List Int) : Bool :=
  impl_movesCode_1_q802_0 (Option.getD y3[Int.toNat y0]? (0 : Int)) y4

def slices_IndexFunc_int64_int64_q801_l0_6 (y0 : Int) : Int :=
  IntKind.wrap IntKind.i64 (y0 + (1 : Int))

def JL_slices_IndexFunc_int64_int64_q801_l0 : X_slices_IndexFunc_int64_int64_q801_l0 → List (Nat × SV)
  | (y0, y1, _, _, _) => [(8, (.one ⟨false, [(.val (.int IntKind.i64 y0))]⟩)), (7, (.one ⟨false, [(.val (.int IntKind.i64 y1))]⟩)), (1, (.one ⟨false, [(.clo 133 [0])]⟩)), (0, (.one ⟨false, [(.ref 1)]⟩))]

def JE_slices_IndexFunc_int64_int64_q801_l0 : X_slices_IndexFunc_int64_int64_q801_l0 → List (Nat × Entry)
  | (_, _, y2, y3, y4) => [(0, (.box 26 [(.val (.int IntKind.i64 y2)), (.ref 2)])), (1, (.row false 2 (CTy.int IntKind.i64) y3)), (2, (.row false 2 (CTy.int IntKind.i64) y4))]

def XL_slices_IndexFunc_int64_int64_q801_l0 : Nat → X_slices_IndexFunc_int64_int64_q801_l0 → List (Nat × SV)
  | 0, (y0, _, _, _, _) => [(4, (.one ⟨false, [(.val (.int IntKind.i64 y0))]⟩))]
  | _, (_, _, _, _, _) => []

def XE_slices_IndexFunc_int64_int64_q801_l0 : Nat → X_slices_IndexFunc_int64_int64_q801_l0 → List (Nat × Entry)
  | 0, (_, _, y2, y3, y4) => [(0, (.box 26 [(.val (.int IntKind.i64 y2)), (.ref 2)])), (1, (.row false 2 (CTy.int IntKind.i64) y3)), (2, (.row false 2 (CTy.int IntKind.i64) y4))]
  | _, (_, _, y2, y3, y4) => [(0, (.box 26 [(.val (.int IntKind.i64 y2)), (.ref 2)])), (1, (.row false 2 (CTy.int IntKind.i64) y3)), (2, (.row false 2 (CTy.int IntKind.i64) y4))]

def lt_slices_IndexFunc_int64_int64_q801_l0 : X_slices_IndexFunc_int64_int64_q801_l0 → LT X_slices_IndexFunc_int64_int64_q801_l0
  | (y0, y1, y2, y3, y4) => .ite (slices_IndexFunc_int64_int64_q801_l0_0 y0 y1) (.need [(slices_IndexFunc_int64_int64_q801_l0_1 y0), (slices_IndexFunc_int64_int64_q801_l0_2 y0 y3), (slices_IndexFunc_int64_int64_q801_l0_3 y0 y3), (slices_IndexFunc_int64_int64_q801_l0_4 y4)] (.ite (slices_IndexFunc_int64_int64_q801_l0_5 y0 y3 y4) (.ext 0 [(0, 0), (1, 1), (2, 2)]) (.nrm ((slices_IndexFunc_int64_int64_q801_l0_6 y0), y1, y2, y3, y4) [(0, 0), (1, 1), (2, 2)]))) (.ext 1 [(0, 0), (1, 1), (2, 2)])

def rd_slices_IndexFunc_int64_int64_q801_l0 (s : St) : Option X_slices_IndexFunc_int64_int64_q801_l0 :=
  (match s.look 8 with
  | some ⟨none, (.one ⟨false, [(.val (.int IntKind.i64 y0))]⟩)⟩ =>
  (match s.look 7 with
  | some ⟨none, (.one ⟨false, [(.val (.int IntKind.i64 y1))]⟩)⟩ =>
  (match s.look 1 with
  | some ⟨none, (.one ⟨false, [(.clo 133 [1])]⟩)⟩ =>
  (match s.look 0 with
  | some ⟨none, (.one ⟨false, [(.ref 0)]⟩)⟩ =>
  (match s.ent 1 with
  | some (.box 26 [(.val (.int IntKind.i64 y2)), (.ref 2)]) =>
  (match s.ent 0 with
  | some (.row false 2 (CTy.int IntKind.i64) y3) =>
  (match s.ent 2 with
  | some (.row false 2 (CTy.int IntKind.i64) y4) =>
  some (y0, y1, y2, y3, y4)
  | _ => none)
  | _ => none)
  | _ => none)
  | _ => none)
  | _ => none)
  | _ => none)
  | _ => none)

def lp_slices_IndexFunc_int64_int64_q801_l0 : Lp X_slices_IndexFunc_int64_int64_q801_l0 where
  h := ⟨[9, 10, 5, 11, 12, 13, 14, 15, 16, 17, 4, 18, 8], [0, 1, 2], [], []⟩
  JL := JL_slices_IndexFunc_int64_int64_q801_l0
  JE := JE_slices_IndexFunc_int64_int64_q801_l0
  XL := XL_slices_IndexFunc_int64_int64_q801_l0
  XE := XE_slices_IndexFunc_int64_int64_q801_l0
  q := fun j => match j with | 0 => .ret | _ => .exit 0
  tags := [0, 1]
  lt := lt_slices_IndexFunc_int64_int64_q801_l0
  fuel := fun (y0, y1, y2, y3, y4) => y0.natAbs + y1.natAbs + y2.natAbs + y3.length + y4.length
  fix := fun (_, y1, y2, y3, y4) (y0, _, _, _, _) => (y0, y1, y2, y3, y4)
  σ := [(0, 1), (1, 0), (2, 2)]
  rd := rd_slices_IndexFunc_int64_int64_q801_l0

theorem lpok_slices_IndexFunc_int64_int64_q801_l0 : LoopOk Try.prog (fun k => Nat.blt k Try.f135.ntmps) lp_slices_IndexFunc_int64_int64_q801_l0.F (loopAt Try.f135 0) := by
  refine Lp.ok (tbl := [p_impl_movesCode_1_q802, PF.lend p_impl_movesCode_1_q802, PF.fz p_impl_movesCode_1_q802]) (lf := []) hmix lp_slices_IndexFunc_int64_int64_q801_l0 (by kernel_rfl) (LOk.nil _) (fun _ => rfl) (fun j _ => by unfold lp_slices_IndexFunc_int64_int64_q801_l0; match j with | 0 => rfl | _ + 1 => rfl) ?_ ?_ ?_ ?_ (fun _ => rfl) ?_
  · intro x; obtain ⟨y0, y1, y2, y3, y4⟩ := x; kernel_rfl
  · intro x; obtain ⟨y0, y1, y2, y3, y4⟩ := x; kernel_rfl
  · intro s x h
    have h : rd_slices_IndexFunc_int64_int64_q801_l0 s = some x := h
    unfold rd_slices_IndexFunc_int64_int64_q801_l0 at h
    repeat' split at h
    all_goals cases h
    exact ⟨absS_cons (by assumption) rfl (absS_cons (by assumption) rfl (absS_cons (by assumption) rfl (absS_cons (by assumption) rfl (rfl)))), absE_cons rfl (by assumption) rfl (absE_cons rfl (by assumption) rfl (absE_cons rfl (by assumption) rfl (rfl)))⟩
  · intro x; obtain ⟨y0, y1, y2, y3, y4⟩ := x; kernel_rfl
  · intro x z; obtain ⟨y0, y1, y2, y3, y4⟩ := x; exact (And.intro (And.intro trivial rfl) trivial)

def slices_IndexFunc_int64_int64_q801_a0 (x0 : List Int) (x1 : Int) (x2 : List Int) : Int × Int × Int × List Int × List Int :=
  ((0 : Int), (↑(List.length x0) : Int), x1, x0, x2)

def slices_IndexFunc_int64_int64_q801_a1 (x0 : List Int) (x1 : Int) (x2 : List Int) : Bool :=
  Nat.beq (Prod.fst (Lp.res lp_slices_IndexFunc_int64_int64_q801_l0 (slices_IndexFunc_int64_int64_q801_a0 x0 x1 x2))) (0 : Nat)

def slices_IndexFunc_int64_int64_q801_0 (x0 : List Int) (x1 : Int) (x2 : List Int) : Int :=
  bif slices_IndexFunc_int64_int64_q801_a1 x0 x1 x2 then
  Prod.fst (Prod.snd (Lp.res lp_slices_IndexFunc_int64_int64_q801_l0 (slices_IndexFunc_int64_int64_q801_a0 x0 x1 x2)))
  else (-1 : Int)

def slices_IndexFunc_int64_int64_q801_1 (x0 : List Int) (x1 : Int) (x2 : List Int) : Int :=
  bif slices_IndexFunc_int64_int64_q801_a1 x0 x1 x2 then x1 else x1

def slices_IndexFunc_int64_int64_q801_2 (x0 : List Int) (x1 : Int) (x2 : List Int) : Bool :=
  allT [Lp.fin lp_slices_IndexFunc_int64_int64_q801_l0 (slices_IndexFunc_int64_int64_q801_a0 x0 x1 x2)]

def F_slices_IndexFunc_int64_int64_q801 : List SV → List Entry → Option Out
  | [(.one ⟨false, [(.ref 0)]⟩), (.one ⟨false, [(.clo 133 [1])]⟩)], [(.row false 2 (CTy.int IntKind.i64) x0), (.box 26 [(.val (.int IntKind.i64 x1)), (.ref 2)]), (.row false 2 (CTy.int IntKind.i64) x2)] => some ⟨(.one ⟨false, [(.val (.int IntKind.i64 (slices_IndexFunc_int64_int64_q801_0 x0 x1 x2)))]⟩), [(.row false 2 (CTy.int IntKind.i64) x0), (.box 26 [(.val (.int IntKind.i64 (slices_IndexFunc_int64_int64_q801_1 x0 x1 x2))), (.ref 2)]), (.row false 2 (CTy.int IntKind.i64) x2)], [], [(slices_IndexFunc_int64_int64_q801_2 x0 x1 x2)]⟩
  | _, _ => none

def p_slices_IndexFunc_int64_int64_q801 : PF Try.prog := PF.ofG Try.prog [p_impl_movesCode_1_q802, PF.lend p_impl_movesCode_1_q802, PF.fz p_impl_movesCode_1_q802] [lp_slices_IndexFunc_int64_int64_q801_l0.F] hmix 135 Try.f135 Try.func135 (LOk.fnT (l := [loopAt Try.f135 0]) (by kernel_rfl) (.cons lpok_slices_IndexFunc_int64_int64_q801_l0 (.nil _))) F_slices_IndexFunc_int64_int64_q801 (by
  intro vs es r h; unfold F_slices_IndexFunc_int64_int64_q801 at h; split at h
  · cases h; kernel_rfl
  · cases h)

def slices_ContainsFunc_int64_int64_q800_0 (x0 : List Int) (x1 : Int) (x2 : List Int) : Bool :=
  leI (0 : Int) (slices_IndexFunc_int64_int64_q801_0 x0 x1 x2)

def slices_ContainsFunc_int64_int64_q800_1 (x0 : List Int) (x1 : Int) (x2 : List Int) : Int :=
  slices_IndexFunc_int64_int64_q801_1 x0 x1 x2

def slices_ContainsFunc_int64_int64_q800_2 (x0 : List Int) (x1 : Int) (x2 : List Int) : Bool :=
  allT [slices_IndexFunc_int64_int64_q801_2 x0 x1 x2]

def F_slices_ContainsFunc_int64_int64_q800 : List SV → List Entry → Option Out
  | [(.one ⟨false, [(.ref 0)]⟩), (.one ⟨false, [(.clo 133 [1])]⟩)], [(.row false 2 (CTy.int IntKind.i64) x0), (.box 26 [(.val (.int IntKind.i64 x1)), (.ref 2)]), (.row false 2 (CTy.int IntKind.i64) x2)] => some ⟨(.one ⟨false, [(.val (.bool (slices_ContainsFunc_int64_int64_q800_0 x0 x1 x2)))]⟩), [(.row false 2 (CTy.int IntKind.i64) x0), (.box 26 [(.val (.int IntKind.i64 (slices_ContainsFunc_int64_int64_q800_1 x0 x1 x2))), (.ref 2)]), (.row false 2 (CTy.int IntKind.i64) x2)], [], [(slices_ContainsFunc_int64_int64_q800_2 x0 x1 x2)]⟩
  | _, _ => none

def p_slices_ContainsFunc_int64_int64_q800 : PF Try.prog := PF.ofG Try.prog [p_slices_IndexFunc_int64_int64_q801, PF.lend p_slices_IndexFunc_int64_int64_q801, PF.fz p_slices_IndexFunc_int64_int64_q801] [] hmix 99 Try.f99 Try.func99 (fun c _ => LOk.nil c) F_slices_ContainsFunc_int64_int64_q800 (by
  intro vs es r h; unfold F_slices_ContainsFunc_int64_int64_q800 at h; split at h
  · cases h; kernel_rfl
  · cases h)

def impl_movesCode_0 (x0 : Int) (x1 : List Int) (x2 : List Int) : Int :=
  bif !isT x0 x1 then (1 : Int)
  else
  bif ltI (200 : Int) (↑(List.length x2) : Int) then (3 : Int) else bif slices_ContainsFunc_int64_int64_q800_0 x2 x0 x1 then (2 : Int) else (0 : Int)

def impl_movesCode_1 (x0 : Int) (x1 : List Int) (x2 : List Int) : Bool :=
  allT [!isT x0 x1 || (ltI (200 : Int) (↑(List.length x2) : Int) || slices_ContainsFunc_int64_int64_q800_2 x2 x0 x1)]

def F_impl_movesCode : List SV → List Entry → Option Out
  | [.one ⟨true, [.val (.int .i64 x0), .ref 0]⟩, .one ⟨false, [.ref 1]⟩], [.row false 2 (.int .i64) x1, .row false 2 (.int .i64) x2] => some ⟨(.one ⟨false, [(.val (.int IntKind.i64 (impl_movesCode_0 x0 x1 x2)))]⟩), [(.row false 2 (CTy.int IntKind.i64) x1), (.row false 2 (CTy.int IntKind.i64) x2)], [], [(impl_movesCode_1 x0 x1 x2)]⟩
  | _, _ => none

def p_impl_movesCode : PF Try.prog := PF.ofG Try.prog [n_impl_IsTraffic, PF.lend n_impl_IsTraffic, PF.fz n_impl_IsTraffic, p_slices_ContainsFunc_int64_int64_q800, PF.lend p_slices_ContainsFunc_int64_int64_q800, PF.fz p_slices_ContainsFunc_int64_int64_q800] [] hmix 94 Try.f94 Try.func94 (fun c _ => LOk.nil c) F_impl_movesCode (by
  intro vs es r h; unfold F_impl_movesCode at h; split at h
  · cases h; kernel_rfl
  · cases h)

abbrev X_impl_RunMoves_l0 := Int × Int × List Int × Int × List Int

def impl_RunMoves_l0_a0 (y0 : Int) (y2 : List Int) : Int :=
  Option.getD y2[Int.toNat y0]? (0 : Int)

def impl_RunMoves_l0_0 (y0 : Int) (y1 : Int) : Bool :=
  ltI y0 y1

def impl_RunMoves_l0_1 (y0 : Int) : Bool :=
  leI (0 : Int) y0

def impl_RunMoves_l0_2 (y0 : Int) (y2 : List Int) : Bool :=
  ltI y0 (↑(List.length y2) : Int)

def impl_RunMoves_l0_3 (y0 : Int) (y2 : List Int) : Bool :=
  ltN (Int.toNat y0) (List.length y2)

def impl_RunMoves_l0_4 (y3 : Int) (y4 : List Int) : Bool :=
  isT y3 y4

def impl_RunMoves_l0_5 (y3 : Int) (y4 : List Int) : Bool :=
  !safeL y3 y4

def impl_RunMoves_l0_6 (y0 : Int) (y2 : List Int) (y3 : Int) (y4 : List Int) : Bool :=
  mvOk y3 y4 (impl_RunMoves_l0_a0 y0 y2)

def impl_RunMoves_l0_7 (y0 : Int) : Int :=
  IntKind.wrap IntKind.i64 (y0 + (1 : Int))

def impl_RunMoves_l0_8 (y0 : Int) (y2 : List Int) (y3 : Int) (y4 : List Int) : List Int :=
  movL y3 y4 (impl_RunMoves_l0_a0 y0 y2)

def JL_impl_RunMoves_l0 : X_impl_RunMoves_l0 → List (Nat × SV)
  | (y0, y1, _, _, _) => [(21, (.one ⟨false, [(.val (.int IntKind.i64 y0))]⟩)), (20, (.one ⟨false, [(.val (.int IntKind.i64 y1))]⟩)), (19, (.one ⟨false, [(.ref 0)]⟩)), (7, (.one ⟨false, [(.ptr 1 0)]⟩))]

def JE_impl_RunMoves_l0 : X_impl_RunMoves_l0 → List (Nat × Entry)
  | (_, _, y2, y3, y4) => [(0, (.row false 2 (CTy.int IntKind.i64) y2)), (1, (.box 26 [(.val (.int IntKind.i64 y3)), (.ref 2)])), (2, (.row true 2 (CTy.int IntKind.i64) y4))]

def XL_impl_RunMoves_l0 : Nat → X_impl_RunMoves_l0 → List (Nat × SV)
  | 0, (_, _, _, _, _) => []
  | _, (_, _, _, _, _) => []

def XE_impl_RunMoves_l0 : Nat → X_impl_RunMoves_l0 → List (Nat × Entry)
  | 0, (_, _, y2, y3, y4) => [(0, (.row false 2 (CTy.int IntKind.i64) y2)), (1, (.box 26 [(.val (.int IntKind.i64 y3)), (.ref 2)])), (2, (.row true 2 (CTy.int IntKind.i64) y4))]
  | _, (_, _, y2, y3, y4) => [(0, (.row false 2 (CTy.int IntKind.i64) y2)), (1, (.box 26 [(.val (.int IntKind.i64 y3)), (.ref 2)])), (2, (.row true 2 (CTy.int IntKind.i64) y4))]

def lt_impl_RunMoves_l0 : X_impl_RunMoves_l0 → LT X_impl_RunMoves_l0
  | (y0, y1, y2, y3, y4) => .ite (impl_RunMoves_l0_0 y0 y1) (.need [(impl_RunMoves_l0_1 y0), (impl_RunMoves_l0_2 y0 y2), (impl_RunMoves_l0_3 y0 y2)] (.need [(impl_RunMoves_l0_4 y3 y4)] (.ite (impl_RunMoves_l0_5 y3 y4) (.ext 0 [(0, 0), (1, 1), (2, 2)]) (.need [(impl_RunMoves_l0_6 y0 y2 y3 y4)] (.nrm ((impl_RunMoves_l0_7 y0), y1, y2, y3, (impl_RunMoves_l0_8 y0 y2 y3 y4)) [(0, 0), (1, 1), (2, 640)]))))) (.ext 1 [(0, 0), (1, 1), (2, 2)])

def rd_impl_RunMoves_l0 (s : St) : Option X_impl_RunMoves_l0 :=
  (match s.look 21 with
  | some ⟨none, (.one ⟨false, [(.val (.int IntKind.i64 y0))]⟩)⟩ =>
  (match s.look 20 with
  | some ⟨none, (.one ⟨false, [(.val (.int IntKind.i64 y1))]⟩)⟩ =>
  (match s.look 19 with
  | some ⟨none, (.one ⟨false, [(.ref 1)]⟩)⟩ =>
  (match s.look 7 with
  | some ⟨none, (.one ⟨false, [(.ptr 896 0)]⟩)⟩ =>
  (match s.ent 1 with
  | some (.row false 2 (CTy.int IntKind.i64) y2) =>
  (match s.ent 896 with
  | some (.box 26 [(.val (.int IntKind.i64 y3)), (.ref 832)]) =>
  (match s.ent 832 with
  | some (.row true 2 (CTy.int IntKind.i64) y4) =>
  some (y0, y1, y2, y3, y4)
  | _ => none)
  | _ => none)
  | _ => none)
  | _ => none)
  | _ => none)
  | _ => none)
  | _ => none)

def lp_impl_RunMoves_l0 : Lp X_impl_RunMoves_l0 where
  h := ⟨[22, 23, 24, 9, 25, 26, 27, 28, 29, 30, 31, 21], [0, 1], [2], []⟩
  JL := JL_impl_RunMoves_l0
  JE := JE_impl_RunMoves_l0
  XL := XL_impl_RunMoves_l0
  XE := XE_impl_RunMoves_l0
  q := fun j => match j with | 0 => .exit 0 | _ => .exit 0
  tags := [0, 1]
  lt := lt_impl_RunMoves_l0
  fuel := fun (y0, y1, y2, y3, y4) => y0.natAbs + y1.natAbs + y2.length + y3.natAbs + y4.length
  fix := fun (_, y1, y2, y3, _) (y0, _, _, _, y4) => (y0, y1, y2, y3, y4)
  σ := [(0, 1), (1, 896), (2, 832)]
  rd := rd_impl_RunMoves_l0

theorem lpok_impl_RunMoves_l0 : LoopOk Try.prog (fun k => Nat.blt k Try.f40.ntmps) lp_impl_RunMoves_l0.F (loopAt Try.f40 0) := by
  refine Lp.ok (tbl := [n_loop_example_g00916_impl_Traffic_moved, PF.lend n_loop_example_g00916_impl_Traffic_moved, PF.fz n_loop_example_g00916_impl_Traffic_moved, n_loop_example_g00916_impl_Traffic_isSafe, PF.lend n_loop_example_g00916_impl_Traffic_isSafe, PF.fz n_loop_example_g00916_impl_Traffic_isSafe, p_impl_movesCode, PF.lend p_impl_movesCode, PF.fz p_impl_movesCode, p_loop_example_g00916_impl_Traffic_clone, PF.lend p_loop_example_g00916_impl_Traffic_clone, PF.fz p_loop_example_g00916_impl_Traffic_clone]) (lf := []) hmix lp_impl_RunMoves_l0 (by kernel_rfl) (LOk.nil _) (fun _ => rfl) (fun j _ => by unfold lp_impl_RunMoves_l0; match j with | 0 => rfl | _ + 1 => rfl) ?_ ?_ ?_ ?_ (fun _ => rfl) ?_
  · intro x; obtain ⟨y0, y1, y2, y3, y4⟩ := x; kernel_rfl
  · intro x; obtain ⟨y0, y1, y2, y3, y4⟩ := x; kernel_rfl
  · intro s x h
    have h : rd_impl_RunMoves_l0 s = some x := h
    unfold rd_impl_RunMoves_l0 at h
    repeat' split at h
    all_goals cases h
    exact ⟨absS_cons (by assumption) rfl (absS_cons (by assumption) rfl (absS_cons (by assumption) rfl (absS_cons (by assumption) rfl (rfl)))), absE_cons rfl (by assumption) rfl (absE_cons rfl (by assumption) rfl (absE_cons rfl (by assumption) rfl (rfl)))⟩
  · intro x; obtain ⟨y0, y1, y2, y3, y4⟩ := x; kernel_rfl
  · intro x z; obtain ⟨y0, y1, y2, y3, y4⟩ := x; exact (And.intro (And.intro trivial rfl) trivial)

def impl_RunMoves_a0 (x0 : Int) (x1 : List Int) (x2 : List Int) : Bool :=
  impl_movesCode_0 x0 x1 x2 != (0 : Int)

def impl_RunMoves_a1 (x0 : Int) (x1 : List Int) (x2 : List Int) : Int × Int × List Int × Int × List Int :=
  ((0 : Int), (↑(List.length x2) : Int), x2, x0, x1)

def impl_RunMoves_a2 (x0 : Int) (x1 : List Int) (x2 : List Int) : Bool :=
  Nat.beq (Prod.fst (Lp.res lp_impl_RunMoves_l0 (impl_RunMoves_a1 x0 x1 x2))) (0 : Nat)

def impl_RunMoves_a3 (x0 : Int) (x1 : List Int) (x2 : List Int) : List Int :=
  Prod.snd (Prod.snd (Prod.snd (Prod.snd (Prod.snd (Lp.res lp_impl_RunMoves_l0 (impl_RunMoves_a1 x0 x1 x2))))))

def impl_RunMoves_a4 (x0 : Int) (x1 : List Int) (x2 : List Int) : Int :=
  bif !safeL x0 (impl_RunMoves_a3 x0 x1 x2) then (0 : Int) else x0

def impl_RunMoves_a5 (x0 : Int) (x1 : List Int) (x2 : List Int) : Int :=
  bif !safeL x0 (impl_RunMoves_a3 x0 x1 x2) then (5 : Int) else (0 : Int)

def impl_RunMoves_a6 (x0 : Int) (x1 : List Int) (x2 : List Int) : List Int :=
  bif !safeL x0 (impl_RunMoves_a3 x0 x1 x2) then [] else impl_RunMoves_a3 x0 x1 x2

def impl_RunMoves_0 (x0 : Int) (x1 : List Int) (x2 : List Int) : Int :=
  bif impl_RunMoves_a0 x0 x1 x2 then (0 : Int) else bif impl_RunMoves_a2 x0 x1 x2 then impl_RunMoves_a4 x0 x1 x2 else impl_RunMoves_a4 x0 x1 x2

def impl_RunMoves_1 (x0 : Int) (x1 : List Int) (x2 : List Int) : Int :=
  bif impl_RunMoves_a0 x0 x1 x2 then impl_movesCode_0 x0 x1 x2
  else bif impl_RunMoves_a2 x0 x1 x2 then impl_RunMoves_a5 x0 x1 x2 else impl_RunMoves_a5 x0 x1 x2

def impl_RunMoves_2 (x0 : Int) (x1 : List Int) (x2 : List Int) : List Int :=
  bif impl_RunMoves_a0 x0 x1 x2 then [] else bif impl_RunMoves_a2 x0 x1 x2 then impl_RunMoves_a6 x0 x1 x2 else impl_RunMoves_a6 x0 x1 x2

def impl_RunMoves_3 (x0 : Int) (x1 : List Int) (x2 : List Int) : Bool :=
  allT
  [impl_movesCode_1 x0 x1 x2, impl_RunMoves_a0 x0 x1 x2 || loop_example_g00916_impl_Traffic_clone_0 x1,
    impl_RunMoves_a0 x0 x1 x2 || Lp.fin lp_impl_RunMoves_l0 (impl_RunMoves_a1 x0 x1 x2),
    impl_RunMoves_a0 x0 x1 x2 || (!impl_RunMoves_a2 x0 x1 x2 || isT x0 (impl_RunMoves_a3 x0 x1 x2)),
    impl_RunMoves_a0 x0 x1 x2 || (impl_RunMoves_a2 x0 x1 x2 || isT x0 (impl_RunMoves_a3 x0 x1 x2))]

def F_impl_RunMoves : List SV → List Entry → Option Out
  | [.one ⟨true, [.val (.int .i64 x0), .ref 0]⟩, .one ⟨false, [.ref 1]⟩], [.row false 2 (.int .i64) x1, .row false 2 (.int .i64) x2] => some ⟨(.tup [⟨true, [(.val (.int IntKind.i64 (impl_RunMoves_0 x0 x1 x2))), (.ref 2)]⟩, ⟨false, [(.val (.int IntKind.i64 (impl_RunMoves_1 x0 x1 x2)))]⟩]), [(.row false 2 (CTy.int IntKind.i64) x1), (.row false 2 (CTy.int IntKind.i64) x2)], [(.row true 2 (CTy.int IntKind.i64) (impl_RunMoves_2 x0 x1 x2))], [(impl_RunMoves_3 x0 x1 x2)]⟩
  | _, _ => none

def p_impl_RunMoves : PF Try.prog := PF.ofG Try.prog [n_loop_example_g00916_impl_Traffic_moved, PF.lend n_loop_example_g00916_impl_Traffic_moved, PF.fz n_loop_example_g00916_impl_Traffic_moved, n_loop_example_g00916_impl_Traffic_isSafe, PF.lend n_loop_example_g00916_impl_Traffic_isSafe, PF.fz n_loop_example_g00916_impl_Traffic_isSafe, p_impl_movesCode, PF.lend p_impl_movesCode, PF.fz p_impl_movesCode, p_loop_example_g00916_impl_Traffic_clone, PF.lend p_loop_example_g00916_impl_Traffic_clone, PF.fz p_loop_example_g00916_impl_Traffic_clone] [lp_impl_RunMoves_l0.F] hmix 40 Try.f40 Try.func40 (LOk.fnT (l := [loopAt Try.f40 0]) (by kernel_rfl) (.cons lpok_impl_RunMoves_l0 (.nil _))) F_impl_RunMoves (by
  intro vs es r h; unfold F_impl_RunMoves at h; split at h
  · cases h; kernel_rfl
  · cases h)

end Go.SX

/- What functions of the program come to, row by row (made by a program of the workplace). -/
import Derived.Test.YtjncnnpdaeociaaTXh
import Derived.Test.YtjncnnpdaeociaaProg
import Derived.Test.YtjncnnpdaeociaaNq
namespace Go.SX
open Go.Proofs
set_option maxRecDepth 100000

def laws_big_0 (x0 : List Int) : Bool :=
  ltI (4096 : Int) (↑(List.length x0) : Int)

def F_laws_big : List SV → List Entry → Option Out
  | [.one ⟨false, [.ref 0]⟩], [.row false 5 (.int .u8) x0] => some ⟨(.one ⟨false, [(.val (.bool (laws_big_0 x0)))]⟩), [(.row false 5 (CTy.int IntKind.u8) x0)], [], []⟩
  | _, _ => none

def p_laws_big : PF Try.prog := PF.ofG Try.prog [] [] hmix 22 Try.f22 Try.func22 (fun c _ => LOk.nil c) F_laws_big (by
  intro vs es r h; unfold F_laws_big at h; split at h
  · cases h; kernel_rfl
  · cases h)

def laws_likeTraffic9_0 (x0 : Int) (x1 : Int) (x2 : List Int) (x3 : List Int) : Bool :=
  bif x0 == x1 then eqL x2 x3 else false

def laws_likeTraffic9_1 (x0 : Int) (x1 : Int) (x2 : List Int) : Bool :=
  allT [!(x0 == x1 && true) || leN (List.length x2) (9223372036854775807 : Nat)]

def F_laws_likeTraffic9 : List SV → List Entry → Option Out
  | [.one ⟨true, [.val (.int .i64 x0), .ref 0]⟩, .one ⟨true, [.val (.int .i64 x1), .ref 1]⟩], [.row false 2 (.int .i64) x2, .row false 2 (.int .i64) x3] => some ⟨(.one ⟨false, [(.val (.bool (laws_likeTraffic9_0 x0 x1 x2 x3)))]⟩), [(.row false 2 (CTy.int IntKind.i64) x2), (.row false 2 (CTy.int IntKind.i64) x3)], [], [(laws_likeTraffic9_1 x0 x1 x2)]⟩
  | _, _ => none

def p_laws_likeTraffic9 : PF Try.prog := PF.ofG Try.prog [n_laws_likeInts, PF.lend n_laws_likeInts, PF.fz n_laws_likeInts] [] hmix 46 Try.f46 Try.func46 (fun c _ => LOk.nil c) F_laws_likeTraffic9 (by
  intro vs es r h; unfold F_laws_likeTraffic9 at h; split at h
  · cases h; kernel_rfl
  · cases h)

abbrev X_laws_hasInt_l0 := Int × Int × List Int

def laws_hasInt_l0_0 (y0 : Int) (y2 : List Int) : Bool :=
  ltI y0 (↑(List.length y2) : Int)

def laws_hasInt_l0_1 (y0 : Int) : Bool :=
  leI (0 : Int) y0

def laws_hasInt_l0_2 (y0 : Int) (y2 : List Int) : Bool :=
  ltN (Int.toNat y0) (List.length y2)

def laws_hasInt_l0_3 (y0 : Int) (y1 : Int) (y2 : List Int) : Bool :=
  Option.getD y2[Int.toNat y0]? (0 : Int) == y1

def laws_hasInt_l0_4 (y0 : Int) : Int :=
  IntKind.wrap IntKind.i64 (y0 + (1 : Int))

def JL_laws_hasInt_l0 : X_laws_hasInt_l0 → List (Nat × SV)
  | (y0, y1, _) => [(5, (.one ⟨false, [(.val (.int IntKind.i64 y0))]⟩)), (0, (.one ⟨false, [(.ref 0)]⟩)), (1, (.one ⟨false, [(.val (.int IntKind.i64 y1))]⟩))]

def JE_laws_hasInt_l0 : X_laws_hasInt_l0 → List (Nat × Entry)
  | (_, _, y2) => [(0, (.row false 2 (CTy.int IntKind.i64) y2))]

def XL_laws_hasInt_l0 : Nat → X_laws_hasInt_l0 → List (Nat × SV)
  | 0, (_, _, _) => [(4, (.one ⟨false, [(.val (.bool true))]⟩))]
  | _, (_, _, _) => []

def XE_laws_hasInt_l0 : Nat → X_laws_hasInt_l0 → List (Nat × Entry)
  | 0, (_, _, y2) => [(0, (.row false 2 (CTy.int IntKind.i64) y2))]
  | _, (_, _, y2) => [(0, (.row false 2 (CTy.int IntKind.i64) y2))]

def lt_laws_hasInt_l0 : X_laws_hasInt_l0 → LT X_laws_hasInt_l0
  | (y0, y1, y2) => .ite (laws_hasInt_l0_0 y0 y2) (.need [(laws_hasInt_l0_1 y0), (laws_hasInt_l0_0 y0 y2), (laws_hasInt_l0_2 y0 y2)] (.ite (laws_hasInt_l0_3 y0 y1 y2) (.ext 0 [(0, 0)]) (.nrm ((laws_hasInt_l0_4 y0), y1, y2) [(0, 0)]))) (.ext 1 [(0, 0)])

def rd_laws_hasInt_l0 (s : St) : Option X_laws_hasInt_l0 :=
  (match s.look 5 with
  | some ⟨none, (.one ⟨false, [(.val (.int IntKind.i64 y0))]⟩)⟩ =>
  (match s.look 0 with
  | some ⟨none, (.one ⟨false, [(.ref 0)]⟩)⟩ =>
  (match s.look 1 with
  | some ⟨none, (.one ⟨false, [(.val (.int IntKind.i64 y1))]⟩)⟩ =>
  (match s.ent 0 with
  | some (.row false 2 (CTy.int IntKind.i64) y2) =>
  some (y0, y1, y2)
  | _ => none)
  | _ => none)
  | _ => none)
  | _ => none)

def lp_laws_hasInt_l0 : Lp X_laws_hasInt_l0 where
  h := ⟨[6, 7, 8, 9, 12, 13, 14, 15, 16, 17, 4, 10, 11, 5], [0], [], []⟩
  JL := JL_laws_hasInt_l0
  JE := JE_laws_hasInt_l0
  XL := XL_laws_hasInt_l0
  XE := XE_laws_hasInt_l0
  q := fun j => match j with | 0 => .ret | _ => .exit 0
  tags := [0, 1]
  lt := lt_laws_hasInt_l0
  fuel := fun (y0, y1, y2) => y0.natAbs + y1.natAbs + y2.length
  fix := fun (_, y1, y2) (y0, _, _) => (y0, y1, y2)
  σ := [(0, 0)]
  rd := rd_laws_hasInt_l0

theorem lpok_laws_hasInt_l0 : LoopOk Try.prog (fun k => Nat.blt k Try.f47.ntmps) lp_laws_hasInt_l0.F (loopAt Try.f47 0) := by
  refine Lp.ok (tbl := []) (lf := []) hmix lp_laws_hasInt_l0 (by kernel_rfl) (LOk.nil _) (fun _ => rfl) (fun j _ => by unfold lp_laws_hasInt_l0; match j with | 0 => rfl | _ + 1 => rfl) ?_ ?_ ?_ ?_ (fun _ => rfl) ?_
  · intro x; obtain ⟨y0, y1, y2⟩ := x; kernel_rfl
  · intro x; obtain ⟨y0, y1, y2⟩ := x; kernel_rfl
  · intro s x h
    have h : rd_laws_hasInt_l0 s = some x := h
    unfold rd_laws_hasInt_l0 at h
    repeat' split at h
    all_goals cases h
    exact ⟨absS_cons (by assumption) rfl (absS_cons (by assumption) rfl (absS_cons (by assumption) rfl (rfl))), absE_cons rfl (by assumption) rfl (rfl)⟩
  · intro x; obtain ⟨y0, y1, y2⟩ := x; kernel_rfl
  · intro x z; obtain ⟨y0, y1, y2⟩ := x; exact (And.intro (And.intro trivial rfl) trivial)

def laws_hasInt_a0 (x0 : Int) (x1 : List Int) : Int × Int × List Int :=
  ((0 : Int), x0, x1)

def laws_hasInt_0 (x0 : Int) (x1 : List Int) : Bool :=
  bif Nat.beq (Prod.fst (Lp.res lp_laws_hasInt_l0 (laws_hasInt_a0 x0 x1))) (0 : Nat) then true else false

def laws_hasInt_1 (x0 : Int) (x1 : List Int) : Bool :=
  allT [Lp.fin lp_laws_hasInt_l0 (laws_hasInt_a0 x0 x1)]

def F_laws_hasInt : List SV → List Entry → Option Out
  | [.one ⟨false, [.ref 0]⟩, .one ⟨false, [.val (.int .i64 x0)]⟩], [.row false 2 (.int .i64) x1] => some ⟨(.one ⟨false, [(.val (.bool (laws_hasInt_0 x0 x1)))]⟩), [(.row false 2 (CTy.int IntKind.i64) x1)], [], [(laws_hasInt_1 x0 x1)]⟩
  | _, _ => none

def p_laws_hasInt : PF Try.prog := PF.ofG Try.prog [] [lp_laws_hasInt_l0.F] hmix 47 Try.f47 Try.func47 (LOk.fnT (l := [loopAt Try.f47 0]) (by kernel_rfl) (.cons lpok_laws_hasInt_l0 (.nil _))) F_laws_hasInt (by
  intro vs es r h; unfold F_laws_hasInt at h; split at h
  · cases h; kernel_rfl
  · cases h)

def spec_UnsafeAfter_0 (x0 : Int) (x1 : List Int) (x2 : List (Int × Int × Int)) : Int :=
  rvF x0 x1 x2

def spec_UnsafeAfter_1 (x0 : Int) (x1 : List Int) (x2 : List (Int × Int × Int)) : Int :=
  rvCode x0 x1 x2

def F_spec_UnsafeAfter : List SV → List Entry → Option Out
  | [.one ⟨true, [.val (.int .i64 x0), .ref 0]⟩, .one ⟨false, [.ref 1]⟩], [.row false 2 (.int .i64) x1, .row false 129 (.pair (.int .i64) (.pair (.int .i64) (.int .i64))) x2] => some ⟨(.tup [⟨false, [(.val (.int IntKind.i64 (spec_UnsafeAfter_0 x0 x1 x2)))]⟩, ⟨false, [(.val (.int IntKind.i64 (spec_UnsafeAfter_1 x0 x1 x2)))]⟩]), [(.row false 2 (CTy.int IntKind.i64) x1), (.row false 129 (CTy.pair (CTy.int IntKind.i64) (CTy.pair (CTy.int IntKind.i64) (CTy.int IntKind.i64))) x2)], [], []⟩
  | _, _ => none

def p_spec_UnsafeAfter : PF Try.prog := PF.ofG Try.prog [n_spec_l25Run, PF.lend n_spec_l25Run, PF.fz n_spec_l25Run] [] hmix 60 Try.f60 Try.func60 (fun c _ => LOk.nil c) F_spec_UnsafeAfter (by
  intro vs es r h; unfold F_spec_UnsafeAfter at h; split at h
  · cases h; kernel_rfl
  · cases h)

def impl_UnsafeAfter_1_0 (x0 : Int) (x1 : List Int) : Bool :=
  !safeL x0 x1

def impl_UnsafeAfter_1_1 (x0 : Int) (x1 : List Int) : Bool :=
  allT [isT x0 x1]

def F_impl_UnsafeAfter_1 : List SV → List Entry → Option Out
  | [.one ⟨true, [.val (.int .i64 x0), .ref 0]⟩], [.row false 2 (.int .i64) x1] => some ⟨(.one ⟨false, [(.val (.bool (impl_UnsafeAfter_1_0 x0 x1)))]⟩), [(.row false 2 (CTy.int IntKind.i64) x1)], [], [(impl_UnsafeAfter_1_1 x0 x1)]⟩
  | _, _ => none

def p_impl_UnsafeAfter_1 : PF Try.prog := PF.ofG Try.prog [n_loop_example_g00916_impl_Traffic_isSafe, PF.lend n_loop_example_g00916_impl_Traffic_isSafe, PF.fz n_loop_example_g00916_impl_Traffic_isSafe] [] hmix 113 Try.f113 Try.func113 (fun c _ => LOk.nil c) F_impl_UnsafeAfter_1 (by
  intro vs es r h; unfold F_impl_UnsafeAfter_1 at h; split at h
  · cases h; kernel_rfl
  · cases h)

def impl_UnsafeAfter_1_q1801_0 (x0 : Int) (x1 : List Int) : Bool :=
  !safeL x0 x1

def impl_UnsafeAfter_1_q1801_1 (x0 : Int) (x1 : List Int) : Bool :=
  allT [isT x0 x1]

def F_impl_UnsafeAfter_1_q1801 : List SV → List Entry → Option Out
  | [(.one ⟨true, [(.val (.int IntKind.i64 x0)), (.ref 0)]⟩)], [(.row false 2 (CTy.int IntKind.i64) x1)] => some ⟨(.one ⟨false, [(.val (.bool (impl_UnsafeAfter_1_q1801_0 x0 x1)))]⟩), [(.row false 2 (CTy.int IntKind.i64) x1)], [], [(impl_UnsafeAfter_1_q1801_1 x0 x1)]⟩
  | _, _ => none

def p_impl_UnsafeAfter_1_q1801 : PF Try.prog := PF.ofG Try.prog [n_loop_example_g00916_impl_Traffic_isSafe, PF.lend n_loop_example_g00916_impl_Traffic_isSafe, PF.fz n_loop_example_g00916_impl_Traffic_isSafe] [] hmix 113 Try.f113 Try.func113 (fun c _ => LOk.nil c) F_impl_UnsafeAfter_1_q1801 (by
  intro vs es r h; unfold F_impl_UnsafeAfter_1_q1801 at h; split at h
  · cases h; kernel_rfl
  · cases h)

abbrev X_slices_IndexFunc_impl_Traffic_q1800_l0 := Int × Int × List (Int × (List Int))

def slices_IndexFunc_impl_Traffic_q1800_l0_a0 (y0 : Int) (y2 : List (Int × (List Int))) : Int × List Int :=
  Option.getD y2[Int.toNat y0]? (dflt (CTy.pair (CTy.int IntKind.i64) (CTy.sl (2 : Nat) (CTy.int IntKind.i64))))

def slices_IndexFunc_impl_Traffic_q1800_l0_0 (y0 : Int) (y1 : Int) : Bool :=
  ltI y0 y1

def slices_IndexFunc_impl_Traffic_q1800_l0_1 (y0 : Int) : Bool :=
  leI (0 : Int) y0

def slices_IndexFunc_impl_Traffic_q1800_l0_2 (y0 : Int) (y2 : List (Int × (List Int))) : Bool :=
  ltI y0 (↑(List.length y2) : Int)

def slices_IndexFunc_impl_Traffic_q1800_l0_3 (y0 : Int) (y2 : List (Int × (List Int))) : Bool :=
  ltN (Int.toNat y0) (List.length y2)

def slices_IndexFunc_impl_Traffic_q1800_l0_4 (y0 : Int) (y2 : List (Int × (List Int))) : Bool :=
  impl_UnsafeAfter_1_q1801_1 (Prod.fst (slices_IndexFunc_impl_Traffic_q1800_l0_a0 y0 y2)) (Prod.snd (slices_IndexFunc_impl_Traffic_q1800_l0_a0 y0 y2))

def slices_IndexFunc_impl_Traffic_q1800_l0_5 (y0 : Int) (y2 : List (Int × (List Int))) : Bool :=
  impl_UnsafeAfter_1_q1801_0 (Prod.fst (slices_IndexFunc_impl_Traffic_q1800_l0_a0 y0 y2)) (Prod.snd (slices_IndexFunc_impl_Traffic_q1800_l0_a0 y0 y2))

def slices_IndexFunc_impl_Traffic_q1800_l0_6 (y0 : Int) : Int :=
  IntKind.wrap IntKind.i64 (y0 + (1 : Int))

def JL_slices_IndexFunc_impl_Traffic_q1800_l0 : X_slices_IndexFunc_impl_Traffic_q1800_l0 → List (Nat × SV)
  | (y0, y1, _) => [(8, (.one ⟨false, [(.val (.int IntKind.i64 y0))]⟩)), (7, (.one ⟨false, [(.val (.int IntKind.i64 y1))]⟩)), (1, (.one ⟨false, [(.val (.func (.func 113) ⟨[]⟩ ⟨[]⟩))]⟩)), (0, (.one ⟨false, [(.ref 0)]⟩))]

def JE_slices_IndexFunc_impl_Traffic_q1800_l0 : X_slices_IndexFunc_impl_Traffic_q1800_l0 → List (Nat × Entry)
  | (_, _, y2) => [(0, (.row true 26 (CTy.pair (CTy.int IntKind.i64) (CTy.sl (2 : Nat) (CTy.int IntKind.i64))) y2))]

def XL_slices_IndexFunc_impl_Traffic_q1800_l0 : Nat → X_slices_IndexFunc_impl_Traffic_q1800_l0 → List (Nat × SV)
  | 0, (y0, _, _) => [(4, (.one ⟨false, [(.val (.int IntKind.i64 y0))]⟩))]
  | _, (_, _, _) => []

def XE_slices_IndexFunc_impl_Traffic_q1800_l0 : Nat → X_slices_IndexFunc_impl_Traffic_q1800_l0 → List (Nat × Entry)
  | 0, (_, _, y2) => [(0, (.row true 26 (CTy.pair (CTy.int IntKind.i64) (CTy.sl (2 : Nat) (CTy.int IntKind.i64))) y2))]
  | _, (_, _, y2) => [(0, (.row true 26 (CTy.pair (CTy.int IntKind.i64) (CTy.sl (2 : Nat) (CTy.int IntKind.i64))) y2))]

def lt_slices_IndexFunc_impl_Traffic_q1800_l0 : X_slices_IndexFunc_impl_Traffic_q1800_l0 → LT X_slices_IndexFunc_impl_Traffic_q1800_l0
  | (y0, y1, y2) => .ite (slices_IndexFunc_impl_Traffic_q1800_l0_0 y0 y1) (.need [(slices_IndexFunc_impl_Traffic_q1800_l0_1 y0), (slices_IndexFunc_impl_Traffic_q1800_l0_2 y0 y2), (slices_IndexFunc_impl_Traffic_q1800_l0_3 y0 y2), (slices_IndexFunc_impl_Traffic_q1800_l0_4 y0 y2)] (.ite (slices_IndexFunc_impl_Traffic_q1800_l0_5 y0 y2) (.ext 0 [(0, 0)]) (.nrm ((slices_IndexFunc_impl_Traffic_q1800_l0_6 y0), y1, y2) [(0, 0)]))) (.ext 1 [(0, 0)])

def rd_slices_IndexFunc_impl_Traffic_q1800_l0 (s : St) : Option X_slices_IndexFunc_impl_Traffic_q1800_l0 :=
  (match s.look 8 with
  | some ⟨none, (.one ⟨false, [(.val (.int IntKind.i64 y0))]⟩)⟩ =>
  (match s.look 7 with
  | some ⟨none, (.one ⟨false, [(.val (.int IntKind.i64 y1))]⟩)⟩ =>
  (match s.look 1 with
  | some ⟨none, (.one ⟨false, [(.val (.func (.func 113) ⟨[]⟩ ⟨[]⟩))]⟩)⟩ =>
  (match s.look 0 with
  | some ⟨none, (.one ⟨false, [(.ref 0)]⟩)⟩ =>
  (match s.ent 0 with
  | some (.row true 26 (CTy.pair (CTy.int IntKind.i64) (CTy.sl (2 : Nat) (CTy.int IntKind.i64))) y2) =>
  some (y0, y1, y2)
  | _ => none)
  | _ => none)
  | _ => none)
  | _ => none)
  | _ => none)

def lp_slices_IndexFunc_impl_Traffic_q1800_l0 : Lp X_slices_IndexFunc_impl_Traffic_q1800_l0 where
  h := ⟨[9, 10, 5, 11, 12, 13, 14, 15, 16, 17, 4, 18, 8], [0], [], []⟩
  JL := JL_slices_IndexFunc_impl_Traffic_q1800_l0
  JE := JE_slices_IndexFunc_impl_Traffic_q1800_l0
  XL := XL_slices_IndexFunc_impl_Traffic_q1800_l0
  XE := XE_slices_IndexFunc_impl_Traffic_q1800_l0
  q := fun j => match j with | 0 => .ret | _ => .exit 0
  tags := [0, 1]
  lt := lt_slices_IndexFunc_impl_Traffic_q1800_l0
  fuel := fun (y0, y1, y2) => y0.natAbs + y1.natAbs + y2.length
  fix := fun (_, y1, y2) (y0, _, _) => (y0, y1, y2)
  σ := [(0, 0)]
  rd := rd_slices_IndexFunc_impl_Traffic_q1800_l0

theorem lpok_slices_IndexFunc_impl_Traffic_q1800_l0 : LoopOk Try.prog (fun k => Nat.blt k Try.f107.ntmps) lp_slices_IndexFunc_impl_Traffic_q1800_l0.F (loopAt Try.f107 0) := by
  refine Lp.ok (tbl := [p_impl_UnsafeAfter_1_q1801, PF.lend p_impl_UnsafeAfter_1_q1801, PF.fz p_impl_UnsafeAfter_1_q1801]) (lf := []) hmix lp_slices_IndexFunc_impl_Traffic_q1800_l0 (by kernel_rfl) (LOk.nil _) (fun _ => rfl) (fun j _ => by unfold lp_slices_IndexFunc_impl_Traffic_q1800_l0; match j with | 0 => rfl | _ + 1 => rfl) ?_ ?_ ?_ ?_ (fun _ => rfl) ?_
  · intro x; obtain ⟨y0, y1, y2⟩ := x; kernel_rfl
  · intro x; obtain ⟨y0, y1, y2⟩ := x; kernel_rfl
  · intro s x h
    have h : rd_slices_IndexFunc_impl_Traffic_q1800_l0 s = some x := h
    unfold rd_slices_IndexFunc_impl_Traffic_q1800_l0 at h
    repeat' split at h
    all_goals cases h
    exact ⟨absS_cons (by assumption) rfl (absS_cons (by assumption) rfl (absS_cons (by assumption) rfl (absS_cons (by assumption) rfl (rfl)))), absE_cons rfl (by assumption) rfl (rfl)⟩
  · intro x; obtain ⟨y0, y1, y2⟩ := x; kernel_rfl
  · intro x z; obtain ⟨y0, y1, y2⟩ := x; exact (And.intro (And.intro trivial rfl) trivial)

def slices_IndexFunc_impl_Traffic_q1800_a0 (x0 : List (Int × List Int)) : Int × Int × List (Int × List Int) :=
  ((0 : Int), (↑(List.length x0) : Int), x0)

def slices_IndexFunc_impl_Traffic_q1800_a1 (x0 : List (Int × List Int)) : Bool :=
  Nat.beq (Prod.fst (Lp.res lp_slices_IndexFunc_impl_Traffic_q1800_l0 (slices_IndexFunc_impl_Traffic_q1800_a0 x0))) (0 : Nat)

def slices_IndexFunc_impl_Traffic_q1800_0 (x0 : List (Int × List Int)) : Int :=
  bif slices_IndexFunc_impl_Traffic_q1800_a1 x0 then
  Prod.fst (Prod.snd (Lp.res lp_slices_IndexFunc_impl_Traffic_q1800_l0 (slices_IndexFunc_impl_Traffic_q1800_a0 x0)))
  else (-1 : Int)

def slices_IndexFunc_impl_Traffic_q1800_1 (x0 : List (Int × List Int)) : List (Int × (List Int)) :=
  bif slices_IndexFunc_impl_Traffic_q1800_a1 x0 then x0 else x0

def slices_IndexFunc_impl_Traffic_q1800_2 (x0 : List (Int × List Int)) : Bool :=
  allT [Lp.fin lp_slices_IndexFunc_impl_Traffic_q1800_l0 (slices_IndexFunc_impl_Traffic_q1800_a0 x0)]

def F_slices_IndexFunc_impl_Traffic_q1800 : List SV → List Entry → Option Out
  | [(.one ⟨false, [(.ref 0)]⟩), (.one ⟨false, [(.val (.func (.func 113) ⟨[]⟩ ⟨[]⟩))]⟩)], [(.row true 26 (CTy.pair (CTy.int IntKind.i64) (CTy.sl (2 : Nat) (CTy.int IntKind.i64))) x0)] => some ⟨(.one ⟨false, [(.val (.int IntKind.i64 (slices_IndexFunc_impl_Traffic_q1800_0 x0)))]⟩), [(.row true 26 (CTy.pair (CTy.int IntKind.i64) (CTy.sl (2 : Nat) (CTy.int IntKind.i64))) (slices_IndexFunc_impl_Traffic_q1800_1 x0))], [], [(slices_IndexFunc_impl_Traffic_q1800_2 x0)]⟩
  | _, _ => none

def p_slices_IndexFunc_impl_Traffic_q1800 : PF Try.prog := PF.ofG Try.prog [p_impl_UnsafeAfter_1_q1801, PF.lend p_impl_UnsafeAfter_1_q1801, PF.fz p_impl_UnsafeAfter_1_q1801] [lp_slices_IndexFunc_impl_Traffic_q1800_l0.F] hmix 107 Try.f107 Try.func107 (LOk.fnT (l := [loopAt Try.f107 0]) (by kernel_rfl) (.cons lpok_slices_IndexFunc_impl_Traffic_q1800_l0 (.nil _))) F_slices_IndexFunc_impl_Traffic_q1800 (by
  intro vs es r h; unfold F_slices_IndexFunc_impl_Traffic_q1800 at h; split at h
  · cases h; kernel_rfl
  · cases h)

def impl_UnsafeAfter_a0 (x0 : Int) (x1 : List Int) (x2 : List (Int × Int × Int)) : Bool :=
  rvCode x0 x1 x2 != (0 : Int)

def impl_UnsafeAfter_0 (x0 : Int) (x1 : List Int) (x2 : List (Int × Int × Int)) : Int :=
  bif impl_UnsafeAfter_a0 x0 x1 x2 then (0 : Int) else slices_IndexFunc_impl_Traffic_q1800_0 (rvL x0 x1 x2)

def impl_UnsafeAfter_1 (x0 : Int) (x1 : List Int) (x2 : List (Int × Int × Int)) : Int :=
  bif impl_UnsafeAfter_a0 x0 x1 x2 then rvCode x0 x1 x2 else (0 : Int)

def impl_UnsafeAfter_2 (x0 : Int) (x1 : List Int) (x2 : List (Int × Int × Int)) : Bool :=
  allT [impl_UnsafeAfter_a0 x0 x1 x2 || slices_IndexFunc_impl_Traffic_q1800_2 (rvL x0 x1 x2)]

def F_impl_UnsafeAfter : List SV → List Entry → Option Out
  | [.one ⟨true, [.val (.int .i64 x0), .ref 0]⟩, .one ⟨false, [.ref 1]⟩], [.row false 2 (.int .i64) x1, .row false 129 (.pair (.int .i64) (.pair (.int .i64) (.int .i64))) x2] => some ⟨(.tup [⟨false, [(.val (.int IntKind.i64 (impl_UnsafeAfter_0 x0 x1 x2)))]⟩, ⟨false, [(.val (.int IntKind.i64 (impl_UnsafeAfter_1 x0 x1 x2)))]⟩]), [(.row false 2 (CTy.int IntKind.i64) x1), (.row false 129 (CTy.pair (CTy.int IntKind.i64) (CTy.pair (CTy.int IntKind.i64) (CTy.int IntKind.i64))) x2)], [], [(impl_UnsafeAfter_2 x0 x1 x2)]⟩
  | _, _ => none

def p_impl_UnsafeAfter : PF Try.prog := PF.ofG Try.prog [n_impl_replay, PF.lend n_impl_replay, PF.fz n_impl_replay, p_impl_UnsafeAfter_1, PF.lend p_impl_UnsafeAfter_1, PF.fz p_impl_UnsafeAfter_1, p_slices_IndexFunc_impl_Traffic_q1800, PF.lend p_slices_IndexFunc_impl_Traffic_q1800, PF.fz p_slices_IndexFunc_impl_Traffic_q1800] [] hmix 62 Try.f62 Try.func62 (fun c _ => LOk.nil c) F_impl_UnsafeAfter (by
  intro vs es r h; unfold F_impl_UnsafeAfter at h; split at h
  · cases h; kernel_rfl
  · cases h)

def spec_RunReplay_0 (x0 : Int) (x1 : List Int) (x2 : List (Int × Int × Int)) : Int :=
  rvNn x0 x1 x2

def spec_RunReplay_1 (x0 : Int) (x1 : List Int) (x2 : List (Int × Int × Int)) : Int :=
  rvCode x0 x1 x2

def spec_RunReplay_2 (x0 : Int) (x1 : List Int) (x2 : List (Int × Int × Int)) : List Int :=
  rvP x0 x1 x2

def spec_RunReplay_3 (x0 : Int) (x1 : List Int) (x2 : List (Int × Int × Int)) : List Int :=
  rvS x0 x1 x2

def F_spec_RunReplay : List SV → List Entry → Option Out
  | [.one ⟨true, [.val (.int .i64 x0), .ref 0]⟩, .one ⟨false, [.ref 1]⟩], [.row false 2 (.int .i64) x1, .row false 129 (.pair (.int .i64) (.pair (.int .i64) (.int .i64))) x2] => some ⟨(.tup [⟨true, [(.val (.int IntKind.i64 (spec_RunReplay_0 x0 x1 x2))), (.ref 2)]⟩, ⟨false, [(.ref 3)]⟩, ⟨false, [(.val (.int IntKind.i64 (spec_RunReplay_1 x0 x1 x2)))]⟩]), [(.row false 2 (CTy.int IntKind.i64) x1), (.row false 129 (CTy.pair (CTy.int IntKind.i64) (CTy.pair (CTy.int IntKind.i64) (CTy.int IntKind.i64))) x2)], [(.row true 2 (CTy.int IntKind.i64) (spec_RunReplay_2 x0 x1 x2)), (.row true 2 (CTy.int IntKind.i64) (spec_RunReplay_3 x0 x1 x2))], []⟩
  | _, _ => none

def p_spec_RunReplay : PF Try.prog := PF.ofG Try.prog [n_spec_l25Run, PF.lend n_spec_l25Run, PF.fz n_spec_l25Run] [] hmix 68 Try.f68 Try.func68 (fun c _ => LOk.nil c) F_spec_RunReplay (by
  intro vs es r h; unfold F_spec_RunReplay at h; split at h
  · cases h; kernel_rfl
  · cases h)

def impl_RunReplay_a0 (x0 : Int) (x1 : List Int) (x2 : List (Int × Int × Int)) : Bool :=
  rvCode x0 x1 x2 != (0 : Int)

def impl_RunReplay_a1 (x0 : Int) (x1 : List Int) (x2 : List (Int × Int × Int)) : Int × List Int :=
  Option.getD (rvL x0 x1 x2)[Int.toNat (↑(List.length x2) : Int)]? (dflt (CTy.pair (CTy.int IntKind.i64) (CTy.sl (2 : Nat) (CTy.int IntKind.i64))))

def impl_RunReplay_0 (x0 : Int) (x1 : List Int) (x2 : List (Int × Int × Int)) : Int :=
  bif impl_RunReplay_a0 x0 x1 x2 then (0 : Int) else Prod.fst (impl_RunReplay_a1 x0 x1 x2)

def impl_RunReplay_1 (x0 : Int) (x1 : List Int) (x2 : List (Int × Int × Int)) : Int :=
  bif impl_RunReplay_a0 x0 x1 x2 then rvCode x0 x1 x2 else (0 : Int)

def impl_RunReplay_2 (x0 : Int) (x1 : List Int) (x2 : List (Int × Int × Int)) : List Int :=
  bif impl_RunReplay_a0 x0 x1 x2 then [] else Prod.snd (impl_RunReplay_a1 x0 x1 x2)

def impl_RunReplay_3 (x0 : Int) (x1 : List Int) (x2 : List (Int × Int × Int)) : List Int :=
  bif impl_RunReplay_a0 x0 x1 x2 then [] else rvS x0 x1 x2

def impl_RunReplay_4 (x0 : Int) (x1 : List Int) (x2 : List (Int × Int × Int)) : Bool :=
  allT
  [impl_RunReplay_a0 x0 x1 x2 || leI (0 : Int) (↑(List.length x2) : Int),
    impl_RunReplay_a0 x0 x1 x2 || ltI (↑(List.length x2) : Int) (↑(List.length (rvL x0 x1 x2)) : Int),
    impl_RunReplay_a0 x0 x1 x2 || ltN (Int.toNat (↑(List.length x2) : Int)) (List.length (rvL x0 x1 x2))]

def F_impl_RunReplay : List SV → List Entry → Option Out
  | [.one ⟨true, [.val (.int .i64 x0), .ref 0]⟩, .one ⟨false, [.ref 1]⟩], [.row false 2 (.int .i64) x1, .row false 129 (.pair (.int .i64) (.pair (.int .i64) (.int .i64))) x2] => some ⟨(.tup [⟨true, [(.val (.int IntKind.i64 (impl_RunReplay_0 x0 x1 x2))), (.ref 2)]⟩, ⟨false, [(.ref 3)]⟩, ⟨false, [(.val (.int IntKind.i64 (impl_RunReplay_1 x0 x1 x2)))]⟩]), [(.row false 2 (CTy.int IntKind.i64) x1), (.row false 129 (CTy.pair (CTy.int IntKind.i64) (CTy.pair (CTy.int IntKind.i64) (CTy.int IntKind.i64))) x2)], [(.row false 2 (CTy.int IntKind.i64) (impl_RunReplay_2 x0 x1 x2)), (.row false 2 (CTy.int IntKind.i64) (impl_RunReplay_3 x0 x1 x2))], [(impl_RunReplay_4 x0 x1 x2)]⟩
  | _, _ => none

def p_impl_RunReplay : PF Try.prog := PF.ofG Try.prog [n_impl_replay, PF.lend n_impl_replay, PF.fz n_impl_replay] [] hmix 67 Try.f67 Try.func67 (fun c _ => LOk.nil c) F_impl_RunReplay (by
  intro vs es r h; unfold F_impl_RunReplay at h; split at h
  · cases h; kernel_rfl
  · cases h)

end Go.SX

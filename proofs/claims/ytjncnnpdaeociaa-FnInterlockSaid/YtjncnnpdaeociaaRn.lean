/- What functions of the program come to, row by row (made by a program of the workplace). -/
import Derived.Test.YtjncnnpdaeociaaTXh
import Derived.Test.YtjncnnpdaeociaaProg
import Derived.Test.YtjncnnpdaeociaaNm
namespace Go.SX
open Go.Proofs
set_option maxRecDepth 100000

def spec_FirstCollision_0 (x0 : Int) (x1 : List Int) (x2 : List (Int × Int × Int)) (x3 : List Int) : Int :=
  ctF x0 x1 x2 x3

def spec_FirstCollision_1 (x0 : Int) (x1 : List Int) (x2 : List (Int × Int × Int)) (x3 : List Int) : Int :=
  ctCode x0 x1 x2 x3

def spec_FirstCollision_2 (x2 : List (Int × Int × Int)) : Bool :=
  allT [leN (List.length x2) (9223372036854775807 : Nat)]

def F_spec_FirstCollision : List SV → List Entry → Option Out
  | [.one ⟨true, [.val (.int .i64 x0), .ref 0]⟩, .one ⟨false, [.ref 1]⟩, .one ⟨false, [.ref 2]⟩], [.row false 2 (.int .i64) x1, .row false 118 (.pair (.int .i64) (.pair (.int .i64) (.int .i64))) x2, .row false 2 (.int .i64) x3] => some ⟨(.tup [⟨false, [(.val (.int IntKind.i64 (spec_FirstCollision_0 x0 x1 x2 x3)))]⟩, ⟨false, [(.val (.int IntKind.i64 (spec_FirstCollision_1 x0 x1 x2 x3)))]⟩]), [(.row false 2 (CTy.int IntKind.i64) x1), (.row false 118 (CTy.pair (CTy.int IntKind.i64) (CTy.pair (CTy.int IntKind.i64) (CTy.int IntKind.i64))) x2), (.row false 2 (CTy.int IntKind.i64) x3)], [], [(spec_FirstCollision_2 x2)]⟩
  | _, _ => none

def p_spec_FirstCollision : PF Try.prog := PF.ofG Try.prog [n_spec_l11Run, PF.lend n_spec_l11Run, PF.fz n_spec_l11Run] [] hmix 52 Try.f52 Try.func52 (fun c _ => LOk.nil c) F_spec_FirstCollision (by
  intro vs es r h; unfold F_spec_FirstCollision at h; split at h
  · cases h; kernel_rfl
  · cases h)

def impl_FirstCollision_1_0 (x0 : Int) (x1 : List Int) : Bool :=
  !safeL x0 x1

def impl_FirstCollision_1_1 (x0 : Int) (x1 : List Int) : Bool :=
  allT [isT x0 x1]

def F_impl_FirstCollision_1 : List SV → List Entry → Option Out
  | [.one ⟨true, [.val (.int .i64 x0), .ref 0]⟩], [.row false 2 (.int .i64) x1] => some ⟨(.one ⟨false, [(.val (.bool (impl_FirstCollision_1_0 x0 x1)))]⟩), [(.row false 2 (CTy.int IntKind.i64) x1)], [], [(impl_FirstCollision_1_1 x0 x1)]⟩
  | _, _ => none

def p_impl_FirstCollision_1 : PF Try.prog := PF.ofG Try.prog [n_loop_example_g00916_impl_Traffic_isSafe, PF.lend n_loop_example_g00916_impl_Traffic_isSafe, PF.fz n_loop_example_g00916_impl_Traffic_isSafe] [] hmix 108 Try.f108 Try.func108 (fun c _ => LOk.nil c) F_impl_FirstCollision_1 (by
  intro vs es r h; unfold F_impl_FirstCollision_1 at h; split at h
  · cases h; kernel_rfl
  · cases h)

def impl_FirstCollision_1_q1301_0 (x0 : Int) (x1 : List Int) : Bool :=
  !safeL x0 x1

def impl_FirstCollision_1_q1301_1 (x0 : Int) (x1 : List Int) : Bool :=
  allT [isT x0 x1]

def F_impl_FirstCollision_1_q1301 : List SV → List Entry → Option Out
  | [(.one ⟨true, [(.val (.int IntKind.i64 x0)), (.ref 0)]⟩)], [(.row false 2 (CTy.int IntKind.i64) x1)] => some ⟨(.one ⟨false, [(.val (.bool (impl_FirstCollision_1_q1301_0 x0 x1)))]⟩), [(.row false 2 (CTy.int IntKind.i64) x1)], [], [(impl_FirstCollision_1_q1301_1 x0 x1)]⟩
  | _, _ => none

def p_impl_FirstCollision_1_q1301 : PF Try.prog := PF.ofG Try.prog [n_loop_example_g00916_impl_Traffic_isSafe, PF.lend n_loop_example_g00916_impl_Traffic_isSafe, PF.fz n_loop_example_g00916_impl_Traffic_isSafe] [] hmix 108 Try.f108 Try.func108 (fun c _ => LOk.nil c) F_impl_FirstCollision_1_q1301 (by
  intro vs es r h; unfold F_impl_FirstCollision_1_q1301 at h; split at h
  · cases h; kernel_rfl
  · cases h)

abbrev X_slices_IndexFunc_impl_Traffic_q1300_l0 := Int × Int × List (Int × (List Int))

def slices_IndexFunc_impl_Traffic_q1300_l0_a0 (y0 : Int) (y2 : List (Int × (List Int))) : Int × List Int :=
  Option.getD y2[Int.toNat y0]? (dflt (CTy.pair (CTy.int IntKind.i64) (CTy.sl (2 : Nat) (CTy.int IntKind.i64))))

def slices_IndexFunc_impl_Traffic_q1300_l0_0 (y0 : Int) (y1 : Int) : Bool :=
  ltI y0 y1

def slices_IndexFunc_impl_Traffic_q1300_l0_1 (y0 : Int) : Bool :=
  leI (0 : Int) y0

def slices_IndexFunc_impl_Traffic_q1300_l0_2 (y0 : Int) (y2 : List (Int × (List Int))) : Bool :=
  ltI y0 (↑(List.length y2) : Int)

def slices_IndexFunc_impl_Traffic_q1300_l0_3 (y0 : Int) (y2 : List (Int × (List Int))) : Bool :=
  ltN (Int.toNat y0) (List.length y2)

def slices_IndexFunc_impl_Traffic_q1300_l0_4 (y0 : Int) (y2 : List (Int × (List Int))) : Bool :=
  impl_FirstCollision_1_q1301_1 (Prod.fst (slices_IndexFunc_impl_Traffic_q1300_l0_a0 y0 y2))
  (Prod.snd (slices_IndexFunc_impl_Traffic_q1300_l0_a0 y0 y2))

def slices_IndexFunc_impl_Traffic_q1300_l0_5 (y0 : Int) (y2 : List (Int × (List Int))) : Bool :=
  impl_FirstCollision_1_q1301_0 (Prod.fst (slices_IndexFunc_impl_Traffic_q1300_l0_a0 y0 y2))
  (Prod.snd (slices_IndexFunc_impl_Traffic_q1300_l0_a0 y0 y2))

def slices_IndexFunc_impl_Traffic_q1300_l0_6 (y0 : Int) : Int :=
  IntKind.wrap IntKind.i64 (y0 + (1 : Int))

def JL_slices_IndexFunc_impl_Traffic_q1300_l0 : X_slices_IndexFunc_impl_Traffic_q1300_l0 → List (Nat × SV)
  | (y0, y1, _) => [(8, (.one ⟨false, [(.val (.int IntKind.i64 y0))]⟩)), (7, (.one ⟨false, [(.val (.int IntKind.i64 y1))]⟩)), (1, (.one ⟨false, [(.val (.func (.func 108) ⟨[]⟩ ⟨[]⟩))]⟩)), (0, (.one ⟨false, [(.ref 0)]⟩))]

def JE_slices_IndexFunc_impl_Traffic_q1300_l0 : X_slices_IndexFunc_impl_Traffic_q1300_l0 → List (Nat × Entry)
  | (_, _, y2) => [(0, (.row true 26 (CTy.pair (CTy.int IntKind.i64) (CTy.sl (2 : Nat) (CTy.int IntKind.i64))) y2))]

def XL_slices_IndexFunc_impl_Traffic_q1300_l0 : Nat → X_slices_IndexFunc_impl_Traffic_q1300_l0 → List (Nat × SV)
  | 0, (y0, _, _) => [(4, (.one ⟨false, [(.val (.int IntKind.i64 y0))]⟩))]
  | _, (_, _, _) => []

def XE_slices_IndexFunc_impl_Traffic_q1300_l0 : Nat → X_slices_IndexFunc_impl_Traffic_q1300_l0 → List (Nat × Entry)
  | 0, (_, _, y2) => [(0, (.row true 26 (CTy.pair (CTy.int IntKind.i64) (CTy.sl (2 : Nat) (CTy.int IntKind.i64))) y2))]
  | _, (_, _, y2) => [(0, (.row true 26 (CTy.pair (CTy.int IntKind.i64) (CTy.sl (2 : Nat) (CTy.int IntKind.i64))) y2))]

def lt_slices_IndexFunc_impl_Traffic_q1300_l0 : X_slices_IndexFunc_impl_Traffic_q1300_l0 → LT X_slices_IndexFunc_impl_Traffic_q1300_l0
  | (y0, y1, y2) => .ite (slices_IndexFunc_impl_Traffic_q1300_l0_0 y0 y1) (.need [(slices_IndexFunc_impl_Traffic_q1300_l0_1 y0), (slices_IndexFunc_impl_Traffic_q1300_l0_2 y0 y2), (slices_IndexFunc_impl_Traffic_q1300_l0_3 y0 y2), (slices_IndexFunc_impl_Traffic_q1300_l0_4 y0 y2)] (.ite (slices_IndexFunc_impl_Traffic_q1300_l0_5 y0 y2) (.ext 0 [(0, 0)]) (.nrm ((slices_IndexFunc_impl_Traffic_q1300_l0_6 y0), y1, y2) [(0, 0)]))) (.ext 1 [(0, 0)])

def rd_slices_IndexFunc_impl_Traffic_q1300_l0 (s : St) : Option X_slices_IndexFunc_impl_Traffic_q1300_l0 :=
  (match s.look 8 with
  | some ⟨none, (.one ⟨false, [(.val (.int IntKind.i64 y0))]⟩)⟩ =>
  (match s.look 7 with
  | some ⟨none, (.one ⟨false, [(.val (.int IntKind.i64 y1))]⟩)⟩ =>
  (match s.look 1 with
  | some ⟨none, (.one ⟨false, [(.val (.func (.func 108) ⟨[]⟩ ⟨[]⟩))]⟩)⟩ =>
  (match s.look 0 with
  | some ⟨none, (.one ⟨false, [(.ref 0)]⟩)⟩ =>
  (match s.ent 0 with
  | some (.row true 26 (CTy.pair (CTy.int IntKind.i64) (CTy.sl (2 : Nat) (CTy.int IntKind.i64))) y2) =>
  some (y0, y1, y2)
  | _ => none)
  | _ => none)
  | _ => none)
  | _ => none)
  | _ => none)

def lp_slices_IndexFunc_impl_Traffic_q1300_l0 : Lp X_slices_IndexFunc_impl_Traffic_q1300_l0 where
  h := ⟨[9, 10, 5, 11, 12, 13, 14, 15, 16, 17, 4, 18, 8], [0], [], []⟩
  JL := JL_slices_IndexFunc_impl_Traffic_q1300_l0
  JE := JE_slices_IndexFunc_impl_Traffic_q1300_l0
  XL := XL_slices_IndexFunc_impl_Traffic_q1300_l0
  XE := XE_slices_IndexFunc_impl_Traffic_q1300_l0
  q := fun j => match j with | 0 => .ret | _ => .exit 0
  tags := [0, 1]
  lt := lt_slices_IndexFunc_impl_Traffic_q1300_l0
  fuel := fun (y0, y1, y2) => y0.natAbs + y1.natAbs + y2.length
  fix := fun (_, y1, y2) (y0, _, _) => (y0, y1, y2)
  σ := [(0, 0)]
  rd := rd_slices_IndexFunc_impl_Traffic_q1300_l0

theorem lpok_slices_IndexFunc_impl_Traffic_q1300_l0 : LoopOk Try.prog (fun k => Nat.blt k Try.f107.ntmps) lp_slices_IndexFunc_impl_Traffic_q1300_l0.F (loopAt Try.f107 0) := by
  refine Lp.ok (tbl := [p_impl_FirstCollision_1_q1301, PF.lend p_impl_FirstCollision_1_q1301, PF.fz p_impl_FirstCollision_1_q1301]) (lf := []) hmix lp_slices_IndexFunc_impl_Traffic_q1300_l0 (by kernel_rfl) (LOk.nil _) (fun _ => rfl) (fun j _ => by unfold lp_slices_IndexFunc_impl_Traffic_q1300_l0; match j with | 0 => rfl | _ + 1 => rfl) ?_ ?_ ?_ ?_ (fun _ => rfl) ?_
  · intro x; obtain ⟨y0, y1, y2⟩ := x; kernel_rfl
  · intro x; obtain ⟨y0, y1, y2⟩ := x; kernel_rfl
  · intro s x h
    have h : rd_slices_IndexFunc_impl_Traffic_q1300_l0 s = some x := h
    unfold rd_slices_IndexFunc_impl_Traffic_q1300_l0 at h
    repeat' split at h
    all_goals cases h
    exact ⟨absS_cons (by assumption) rfl (absS_cons (by assumption) rfl (absS_cons (by assumption) rfl (absS_cons (by assumption) rfl (rfl)))), absE_cons rfl (by assumption) rfl (rfl)⟩
  · intro x; obtain ⟨y0, y1, y2⟩ := x; kernel_rfl
  · intro x z; obtain ⟨y0, y1, y2⟩ := x; exact (And.intro (And.intro trivial rfl) trivial)

def slices_IndexFunc_impl_Traffic_q1300_a0 (x0 : List (Int × List Int)) : Int × Int × List (Int × List Int) :=
  ((0 : Int), (↑(List.length x0) : Int), x0)

def slices_IndexFunc_impl_Traffic_q1300_a1 (x0 : List (Int × List Int)) : Bool :=
  Nat.beq (Prod.fst (Lp.res lp_slices_IndexFunc_impl_Traffic_q1300_l0 (slices_IndexFunc_impl_Traffic_q1300_a0 x0))) (0 : Nat)

def slices_IndexFunc_impl_Traffic_q1300_0 (x0 : List (Int × List Int)) : Int :=
  bif slices_IndexFunc_impl_Traffic_q1300_a1 x0 then
  Prod.fst (Prod.snd (Lp.res lp_slices_IndexFunc_impl_Traffic_q1300_l0 (slices_IndexFunc_impl_Traffic_q1300_a0 x0)))
  else (-1 : Int)

def slices_IndexFunc_impl_Traffic_q1300_1 (x0 : List (Int × List Int)) : List (Int × (List Int)) :=
  bif slices_IndexFunc_impl_Traffic_q1300_a1 x0 then x0 else x0

def slices_IndexFunc_impl_Traffic_q1300_2 (x0 : List (Int × List Int)) : Bool :=
  allT [Lp.fin lp_slices_IndexFunc_impl_Traffic_q1300_l0 (slices_IndexFunc_impl_Traffic_q1300_a0 x0)]

def F_slices_IndexFunc_impl_Traffic_q1300 : List SV → List Entry → Option Out
  | [(.one ⟨false, [(.ref 0)]⟩), (.one ⟨false, [(.val (.func (.func 108) ⟨[]⟩ ⟨[]⟩))]⟩)], [(.row true 26 (CTy.pair (CTy.int IntKind.i64) (CTy.sl (2 : Nat) (CTy.int IntKind.i64))) x0)] => some ⟨(.one ⟨false, [(.val (.int IntKind.i64 (slices_IndexFunc_impl_Traffic_q1300_0 x0)))]⟩), [(.row true 26 (CTy.pair (CTy.int IntKind.i64) (CTy.sl (2 : Nat) (CTy.int IntKind.i64))) (slices_IndexFunc_impl_Traffic_q1300_1 x0))], [], [(slices_IndexFunc_impl_Traffic_q1300_2 x0)]⟩
  | _, _ => none

def p_slices_IndexFunc_impl_Traffic_q1300 : PF Try.prog := PF.ofG Try.prog [p_impl_FirstCollision_1_q1301, PF.lend p_impl_FirstCollision_1_q1301, PF.fz p_impl_FirstCollision_1_q1301] [lp_slices_IndexFunc_impl_Traffic_q1300_l0.F] hmix 107 Try.f107 Try.func107 (LOk.fnT (l := [loopAt Try.f107 0]) (by kernel_rfl) (.cons lpok_slices_IndexFunc_impl_Traffic_q1300_l0 (.nil _))) F_slices_IndexFunc_impl_Traffic_q1300 (by
  intro vs es r h; unfold F_slices_IndexFunc_impl_Traffic_q1300 at h; split at h
  · cases h; kernel_rfl
  · cases h)

def impl_FirstCollision_a0 (x0 : Int) (x1 : List Int) (x2 : List (Int × Int × Int)) (x3 : List Int) : Bool :=
  ctCode x0 x1 x2 x3 != (0 : Int)

def impl_FirstCollision_0 (x0 : Int) (x1 : List Int) (x2 : List (Int × Int × Int)) (x3 : List Int) : Int :=
  bif impl_FirstCollision_a0 x0 x1 x2 x3 then (0 : Int) else slices_IndexFunc_impl_Traffic_q1300_0 (ctL x0 x1 x2 x3)

def impl_FirstCollision_1 (x0 : Int) (x1 : List Int) (x2 : List (Int × Int × Int)) (x3 : List Int) : Int :=
  bif impl_FirstCollision_a0 x0 x1 x2 x3 then ctCode x0 x1 x2 x3 else (0 : Int)

def impl_FirstCollision_2 (x0 : Int) (x1 : List Int) (x2 : List (Int × Int × Int)) (x3 : List Int) : Bool :=
  allT [leN (List.length x2) (9223372036854775807 : Nat), impl_FirstCollision_a0 x0 x1 x2 x3 || slices_IndexFunc_impl_Traffic_q1300_2 (ctL x0 x1 x2 x3)]

def F_impl_FirstCollision : List SV → List Entry → Option Out
  | [.one ⟨true, [.val (.int .i64 x0), .ref 0]⟩, .one ⟨false, [.ref 1]⟩, .one ⟨false, [.ref 2]⟩], [.row false 2 (.int .i64) x1, .row false 118 (.pair (.int .i64) (.pair (.int .i64) (.int .i64))) x2, .row false 2 (.int .i64) x3] => some ⟨(.tup [⟨false, [(.val (.int IntKind.i64 (impl_FirstCollision_0 x0 x1 x2 x3)))]⟩, ⟨false, [(.val (.int IntKind.i64 (impl_FirstCollision_1 x0 x1 x2 x3)))]⟩]), [(.row false 2 (CTy.int IntKind.i64) x1), (.row false 118 (CTy.pair (CTy.int IntKind.i64) (CTy.pair (CTy.int IntKind.i64) (CTy.int IntKind.i64))) x2), (.row false 2 (CTy.int IntKind.i64) x3)], [], [(impl_FirstCollision_2 x0 x1 x2 x3)]⟩
  | _, _ => none

def p_impl_FirstCollision : PF Try.prog := PF.ofG Try.prog [n_impl_controlled, PF.lend n_impl_controlled, PF.fz n_impl_controlled, p_impl_FirstCollision_1, PF.lend p_impl_FirstCollision_1, PF.fz p_impl_FirstCollision_1, p_slices_IndexFunc_impl_Traffic_q1300, PF.lend p_slices_IndexFunc_impl_Traffic_q1300, PF.fz p_slices_IndexFunc_impl_Traffic_q1300] [] hmix 54 Try.f54 Try.func54 (fun c _ => LOk.nil c) F_impl_FirstCollision (by
  intro vs es r h; unfold F_impl_FirstCollision at h; split at h
  · cases h; kernel_rfl
  · cases h)

end Go.SX

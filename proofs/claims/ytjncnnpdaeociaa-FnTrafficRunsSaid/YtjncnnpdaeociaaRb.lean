/- What functions of the program come to, row by row (made by a program of the workplace). -/
import Derived.Test.YtjncnnpdaeociaaTXh
import Derived.Test.YtjncnnpdaeociaaProg
import Derived.Test.YtjncnnpdaeociaaNa
namespace Go.SX
open Go.Proofs
set_option maxRecDepth 100000

def spec_l10Move_a0 (x0 : Int) : Int :=
  IntKind.wrap IntKind.i64 ((3 : Int) * x0)

def spec_l10Move_0 (x0 : Int) (x1 : Int) (x2 : List Int) : List Int :=
  List.set x2 (Int.toNat x1) (Int.tmod (IntKind.wrap IntKind.i64 (Option.getD x2[Int.toNat x1]? (0 : Int) + (1 : Int))) (spec_l10Move_a0 x0))

def spec_l10Move_1 (x0 : Int) (x1 : Int) (x2 : List Int) : Bool :=
  allT
  [leN (List.length x2) (1048576 : Nat), leI (0 : Int) x1, ltI x1 (↑(List.length x2) : Int), ltN (Int.toNat x1) (List.length x2),
    neI (spec_l10Move_a0 x0) (0 : Int), leI (0 : Int) x1, ltI x1 (↑(List.length x2) : Int), ltN (Int.toNat x1) (List.length x2)]

def F_spec_l10Move : List SV → List Entry → Option Out
  | [.one ⟨true, [.val (.int .i64 x0), .ref 0]⟩, .one ⟨false, [.val (.int .i64 x1)]⟩], [.row false 2 (.int .i64) x2] => some ⟨(.one ⟨true, [(.val (.int IntKind.i64 x0)), (.ref 1)]⟩), [(.row false 2 (CTy.int IntKind.i64) x2)], [(.row true 2 (CTy.int IntKind.i64) (spec_l10Move_0 x0 x1 x2))], [(spec_l10Move_1 x0 x1 x2)]⟩
  | _, _ => none

def p_spec_l10Move : PF Try.prog := PF.ofG Try.prog [n_spec_l01Own, PF.lend n_spec_l01Own, PF.fz n_spec_l01Own] [] hmix 72 Try.f72 Try.func72 (fun c _ => LOk.nil c) F_spec_l10Move (by
  intro vs es r h; unfold F_spec_l10Move at h; split at h
  · cases h; kernel_rfl
  · cases h)

def loop_example_g00916_impl_Traffic_clone_0 (x1 : List Int) : Bool :=
  allT [leN (1 : Nat) (List.length x1) && leN (List.length x1) (1048576 : Nat)]

def F_loop_example_g00916_impl_Traffic_clone : List SV → List Entry → Option Out
  | [.one ⟨true, [.val (.int .i64 x0), .ref 0]⟩], [.row false 2 (.int .i64) x1] => some ⟨(.one ⟨true, [(.val (.int IntKind.i64 x0)), (.ref 1)]⟩), [(.row false 2 (CTy.int IntKind.i64) x1)], [(.row true 2 (CTy.int IntKind.i64) x1)], [(loop_example_g00916_impl_Traffic_clone_0 x1)]⟩
  | _, _ => none

def p_loop_example_g00916_impl_Traffic_clone : PF Try.prog := PF.ofG Try.prog [n_slices_Clone_int64_int64, PF.lend n_slices_Clone_int64_int64, PF.fz n_slices_Clone_int64_int64] [] hmix 95 Try.f95 Try.func95 (fun c _ => LOk.nil c) F_loop_example_g00916_impl_Traffic_clone (by
  intro vs es r h; unfold F_loop_example_g00916_impl_Traffic_clone at h; split at h
  · cases h; kernel_rfl
  · cases h)

def loop_example_g00916_impl_Traffic_moved_a0 (x0 : Int) : Int :=
  IntKind.wrap IntKind.i64 ((3 : Int) * x0)

def loop_example_g00916_impl_Traffic_moved_0 (x0 : Int) (x1 : Int) (x2 : List Int) : List Int :=
  List.set x2 (Int.toNat x1)
  (Int.tmod (IntKind.wrap IntKind.i64 (Option.getD x2[Int.toNat x1]? (0 : Int) + (1 : Int))) (loop_example_g00916_impl_Traffic_moved_a0 x0))

def loop_example_g00916_impl_Traffic_moved_1 (x0 : Int) (x1 : Int) (x2 : List Int) : Bool :=
  allT
  [loop_example_g00916_impl_Traffic_clone_0 x2, leI (0 : Int) x1, ltI x1 (↑(List.length x2) : Int), ltN (Int.toNat x1) (List.length x2),
    neI (loop_example_g00916_impl_Traffic_moved_a0 x0) (0 : Int), leI (0 : Int) x1, ltI x1 (↑(List.length x2) : Int),
    ltN (Int.toNat x1) (List.length x2)]

def F_loop_example_g00916_impl_Traffic_moved : List SV → List Entry → Option Out
  | [.one ⟨true, [.val (.int .i64 x0), .ref 0]⟩, .one ⟨false, [.val (.int .i64 x1)]⟩], [.row false 2 (.int .i64) x2] => some ⟨(.one ⟨true, [(.val (.int IntKind.i64 x0)), (.ref 1)]⟩), [(.row false 2 (CTy.int IntKind.i64) x2)], [(.row true 2 (CTy.int IntKind.i64) (loop_example_g00916_impl_Traffic_moved_0 x0 x1 x2))], [(loop_example_g00916_impl_Traffic_moved_1 x0 x1 x2)]⟩
  | _, _ => none

def p_loop_example_g00916_impl_Traffic_moved : PF Try.prog := PF.ofG Try.prog [p_loop_example_g00916_impl_Traffic_clone, PF.lend p_loop_example_g00916_impl_Traffic_clone, PF.fz p_loop_example_g00916_impl_Traffic_clone] [] hmix 74 Try.f74 Try.func74 (fun c _ => LOk.nil c) F_loop_example_g00916_impl_Traffic_moved (by
  intro vs es r h; unfold F_loop_example_g00916_impl_Traffic_moved at h; split at h
  · cases h; kernel_rfl
  · cases h)

abbrev X_spec_l10Count_l0 := Int × Int × Int × Int × List Int

def spec_l10Count_l0_a0 (y0 : Int) (y4 : List Int) : Int :=
  Option.getD y4[Int.toNat y0]? (0 : Int)

def spec_l10Count_l0_0 (y0 : Int) (y4 : List Int) : Bool :=
  ltI y0 (↑(List.length y4) : Int)

def spec_l10Count_l0_1 (y0 : Int) : Bool :=
  leI (0 : Int) y0

def spec_l10Count_l0_2 (y0 : Int) (y4 : List Int) : Bool :=
  ltN (Int.toNat y0) (List.length y4)

def spec_l10Count_l0_3 (y0 : Int) (y3 : Int) (y4 : List Int) : Bool :=
  okP y3 (spec_l10Count_l0_a0 y0 y4)

def spec_l10Count_l0_4 (y0 : Int) : Int :=
  IntKind.wrap IntKind.i64 (y0 + (1 : Int))

def spec_l10Count_l0_5 (y0 : Int) (y1 : Int) (y2 : Int) (y3 : Int) (y4 : List Int) : Int :=
  bif usesB y3 (spec_l10Count_l0_a0 y0 y4) y1 then IntKind.wrap IntKind.i64 (y2 + (1 : Int)) else y2

def JL_spec_l10Count_l0 : X_spec_l10Count_l0 → List (Nat × SV)
  | (y0, y1, y2, _, _) => [(6, (.one ⟨false, [(.val (.int IntKind.i64 y0))]⟩)), (2, (.one ⟨false, [(.ptr 0 0)]⟩)), (1, (.one ⟨false, [(.val (.int IntKind.i64 y1))]⟩)), (5, (.one ⟨false, [(.val (.int IntKind.i64 y2))]⟩))]

def JE_spec_l10Count_l0 : X_spec_l10Count_l0 → List (Nat × Entry)
  | (_, _, _, y3, y4) => [(0, (.box 26 [(.val (.int IntKind.i64 y3)), (.ref 1)])), (1, (.row false 2 (CTy.int IntKind.i64) y4))]

def XL_spec_l10Count_l0 : Nat → X_spec_l10Count_l0 → List (Nat × SV)
  | _, (_, _, y2, _, _) => [(5, (.one ⟨false, [(.val (.int IntKind.i64 y2))]⟩))]

def XE_spec_l10Count_l0 : Nat → X_spec_l10Count_l0 → List (Nat × Entry)
  | _, (_, _, _, y3, y4) => [(0, (.box 26 [(.val (.int IntKind.i64 y3)), (.ref 1)])), (1, (.row false 2 (CTy.int IntKind.i64) y4))]

def lt_spec_l10Count_l0 : X_spec_l10Count_l0 → LT X_spec_l10Count_l0
  | (y0, y1, y2, y3, y4) => .ite (spec_l10Count_l0_0 y0 y4) (.need [(spec_l10Count_l0_1 y0), (spec_l10Count_l0_0 y0 y4), (spec_l10Count_l0_2 y0 y4), (spec_l10Count_l0_3 y0 y3 y4)] (.nrm ((spec_l10Count_l0_4 y0), y1, (spec_l10Count_l0_5 y0 y1 y2 y3 y4), y3, y4) [(0, 0), (1, 1)])) (.ext 0 [(0, 0), (1, 1)])

def rd_spec_l10Count_l0 (s : St) : Option X_spec_l10Count_l0 :=
  (match s.look 6 with
  | some ⟨none, (.one ⟨false, [(.val (.int IntKind.i64 y0))]⟩)⟩ =>
  (match s.look 2 with
  | some ⟨none, (.one ⟨false, [(.ptr 128 0)]⟩)⟩ =>
  (match s.look 1 with
  | some ⟨none, (.one ⟨false, [(.val (.int IntKind.i64 y1))]⟩)⟩ =>
  (match s.look 5 with
  | some ⟨none, (.one ⟨false, [(.val (.int IntKind.i64 y2))]⟩)⟩ =>
  (match s.ent 128 with
  | some (.box 26 [(.val (.int IntKind.i64 y3)), (.ref 0)]) =>
  (match s.ent 0 with
  | some (.row false 2 (CTy.int IntKind.i64) y4) =>
  some (y0, y1, y2, y3, y4)
  | _ => none)
  | _ => none)
  | _ => none)
  | _ => none)
  | _ => none)
  | _ => none)

def lp_spec_l10Count_l0 : Lp X_spec_l10Count_l0 where
  h := ⟨[7, 8, 9, 10, 11, 14, 15, 16, 17, 18, 19, 20, 21, 22, 23, 24, 5, 12, 13, 6], [0, 1], [], []⟩
  JL := JL_spec_l10Count_l0
  JE := JE_spec_l10Count_l0
  XL := XL_spec_l10Count_l0
  XE := XE_spec_l10Count_l0
  q := fun j => match j with | _ => .exit 0
  tags := [0]
  lt := lt_spec_l10Count_l0
  fuel := fun (y0, y1, y2, y3, y4) => y0.natAbs + y1.natAbs + y2.natAbs + y3.natAbs + y4.length
  fix := fun (_, y1, _, y3, y4) (y0, _, y2, _, _) => (y0, y1, y2, y3, y4)
  σ := [(0, 128), (1, 0)]
  rd := rd_spec_l10Count_l0

theorem lpok_spec_l10Count_l0 : LoopOk Try.prog (fun k => Nat.blt k Try.f101.ntmps) lp_spec_l10Count_l0.F (loopAt Try.f101 0) := by
  refine Lp.ok (tbl := [n_spec_l10Uses]) (lf := []) hmix lp_spec_l10Count_l0 (by kernel_rfl) (LOk.nil _) (fun _ => rfl) (fun _ _ => rfl) ?_ ?_ ?_ ?_ (fun _ => rfl) ?_
  · intro x; obtain ⟨y0, y1, y2, y3, y4⟩ := x; kernel_rfl
  · intro x; obtain ⟨y0, y1, y2, y3, y4⟩ := x; kernel_rfl
  · intro s x h
    have h : rd_spec_l10Count_l0 s = some x := h
    unfold rd_spec_l10Count_l0 at h
    repeat' split at h
    all_goals cases h
    exact ⟨absS_cons (by assumption) rfl (absS_cons (by assumption) rfl (absS_cons (by assumption) rfl (absS_cons (by assumption) rfl (rfl)))), absE_cons rfl (by assumption) rfl (absE_cons rfl (by assumption) rfl (rfl))⟩
  · intro x; obtain ⟨y0, y1, y2, y3, y4⟩ := x; kernel_rfl
  · intro x z; obtain ⟨y0, y1, y2, y3, y4⟩ := x; exact (And.intro rfl trivial)

def spec_l10Count_a0 (x0 : Int) (x1 : Int) (x2 : List Int) : Int × Int × Int × Int × List Int :=
  ((0 : Int), x1, (0 : Int), x0, x2)

def spec_l10Count_0 (x0 : Int) (x1 : Int) (x2 : List Int) : Int :=
  Prod.fst (Prod.snd (Prod.snd (Prod.snd (Lp.res lp_spec_l10Count_l0 (spec_l10Count_a0 x0 x1 x2)))))

def spec_l10Count_1 (x0 : Int) (x1 : Int) (x2 : List Int) : Bool :=
  allT [Lp.fin lp_spec_l10Count_l0 (spec_l10Count_a0 x0 x1 x2)]

def F_spec_l10Count : List SV → List Entry → Option Out
  | [.one ⟨true, [.val (.int .i64 x0), .ref 0]⟩, .one ⟨false, [.val (.int .i64 x1)]⟩], [.row false 2 (.int .i64) x2] => some ⟨(.one ⟨false, [(.val (.int IntKind.i64 (spec_l10Count_0 x0 x1 x2)))]⟩), [(.row false 2 (CTy.int IntKind.i64) x2)], [], [(spec_l10Count_1 x0 x1 x2)]⟩
  | _, _ => none

def p_spec_l10Count : PF Try.prog := PF.ofG Try.prog [n_spec_l10Uses] [lp_spec_l10Count_l0.F] hmix 101 Try.f101 Try.func101 (LOk.fnT (l := [loopAt Try.f101 0]) (by kernel_rfl) (.cons lpok_spec_l10Count_l0 (.nil _))) F_spec_l10Count (by
  intro vs es r h; unfold F_spec_l10Count at h; split at h
  · cases h; kernel_rfl
  · cases h)

end Go.SX

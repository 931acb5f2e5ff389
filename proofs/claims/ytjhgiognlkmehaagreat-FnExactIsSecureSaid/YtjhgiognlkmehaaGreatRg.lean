/- What functions of the program come to, row by row (made by a program of the workplace). -/
import Derived.Test.YtjhgiognlkmehaaGreatTXh
import Derived.Test.YtjhgiognlkmehaaGreatProg
import Derived.Test.YtjhgiognlkmehaaGreatNf
namespace Go.SX
open Go.Proofs
set_option maxRecDepth 100000

abbrev X_loop_example_g00916_impl_Traffic_uses_l0_l0 := Int × Int × List Int × List Int

def loop_example_g00916_impl_Traffic_uses_l0_l0_a0 (y0 : Int) (y2 : List Int) : Int :=
  Option.getD y2[Int.toNat y0]? (0 : Int)

def loop_example_g00916_impl_Traffic_uses_l0_l0_0 (y0 : Int) (y1 : Int) : Bool :=
  ltI y0 y1

def loop_example_g00916_impl_Traffic_uses_l0_l0_1 (y0 : Int) : Bool :=
  leI (0 : Int) y0

def loop_example_g00916_impl_Traffic_uses_l0_l0_2 (y0 : Int) (y2 : List Int) : Bool :=
  ltI y0 (↑(List.length y2) : Int)

def loop_example_g00916_impl_Traffic_uses_l0_l0_3 (y0 : Int) (y2 : List Int) : Bool :=
  ltN (Int.toNat y0) (List.length y2)

def loop_example_g00916_impl_Traffic_uses_l0_l0_4 (y0 : Int) (y2 : List Int) : Bool :=
  leI (0 : Int) (loop_example_g00916_impl_Traffic_uses_l0_l0_a0 y0 y2)

def loop_example_g00916_impl_Traffic_uses_l0_l0_5 (y0 : Int) (y2 : List Int) (y3 : List Int) : Bool :=
  ltI (loop_example_g00916_impl_Traffic_uses_l0_l0_a0 y0 y2) (↑(List.length y3) : Int)

def loop_example_g00916_impl_Traffic_uses_l0_l0_6 (y0 : Int) (y2 : List Int) (y3 : List Int) : Bool :=
  ltN (Int.toNat (loop_example_g00916_impl_Traffic_uses_l0_l0_a0 y0 y2)) (List.length y3)

def loop_example_g00916_impl_Traffic_uses_l0_l0_7 (y0 : Int) : Int :=
  IntKind.wrap IntKind.i64 (y0 + (1 : Int))

def loop_example_g00916_impl_Traffic_uses_l0_l0_8 (y0 : Int) (y2 : List Int) (y3 : List Int) : List Int :=
  List.set y3 (Int.toNat (loop_example_g00916_impl_Traffic_uses_l0_l0_a0 y0 y2))
  (IntKind.wrap IntKind.i64 (Option.getD y3[Int.toNat (loop_example_g00916_impl_Traffic_uses_l0_l0_a0 y0 y2)]? (0 : Int) + (1 : Int)))

def JL_loop_example_g00916_impl_Traffic_uses_l0_l0 : X_loop_example_g00916_impl_Traffic_uses_l0_l0 → List (Nat × SV)
  | (y0, y1, _, _) => [(20, (.one ⟨false, [(.val (.int IntKind.i64 y0))]⟩)), (19, (.one ⟨false, [(.val (.int IntKind.i64 y1))]⟩)), (18, (.one ⟨false, [(.ref 0)]⟩)), (3, (.one ⟨false, [(.ref 1)]⟩))]

def JE_loop_example_g00916_impl_Traffic_uses_l0_l0 : X_loop_example_g00916_impl_Traffic_uses_l0_l0 → List (Nat × Entry)
  | (_, _, y2, y3) => [(0, (.row true 2 (CTy.int IntKind.i64) y2)), (1, (.row true 2 (CTy.int IntKind.i64) y3))]

def XL_loop_example_g00916_impl_Traffic_uses_l0_l0 : Nat → X_loop_example_g00916_impl_Traffic_uses_l0_l0 → List (Nat × SV)
  | _, (_, _, _, _) => []

def XE_loop_example_g00916_impl_Traffic_uses_l0_l0 : Nat → X_loop_example_g00916_impl_Traffic_uses_l0_l0 → List (Nat × Entry)
  | _, (_, _, y2, y3) => [(0, (.row true 2 (CTy.int IntKind.i64) y2)), (1, (.row true 2 (CTy.int IntKind.i64) y3))]

def lt_loop_example_g00916_impl_Traffic_uses_l0_l0 : X_loop_example_g00916_impl_Traffic_uses_l0_l0 → LT X_loop_example_g00916_impl_Traffic_uses_l0_l0
  | (y0, y1, y2, y3) => .ite (loop_example_g00916_impl_Traffic_uses_l0_l0_0 y0 y1) (.need [(loop_example_g00916_impl_Traffic_uses_l0_l0_1 y0), (loop_example_g00916_impl_Traffic_uses_l0_l0_2 y0 y2), (loop_example_g00916_impl_Traffic_uses_l0_l0_3 y0 y2)] (.need [(loop_example_g00916_impl_Traffic_uses_l0_l0_4 y0 y2), (loop_example_g00916_impl_Traffic_uses_l0_l0_5 y0 y2 y3), (loop_example_g00916_impl_Traffic_uses_l0_l0_6 y0 y2 y3), (loop_example_g00916_impl_Traffic_uses_l0_l0_4 y0 y2), (loop_example_g00916_impl_Traffic_uses_l0_l0_5 y0 y2 y3), (loop_example_g00916_impl_Traffic_uses_l0_l0_6 y0 y2 y3)] (.nrm ((loop_example_g00916_impl_Traffic_uses_l0_l0_7 y0), y1, y2, (loop_example_g00916_impl_Traffic_uses_l0_l0_8 y0 y2 y3)) [(0, 0), (1, 1)]))) (.ext 0 [(0, 0), (1, 1)])

def rd_loop_example_g00916_impl_Traffic_uses_l0_l0 (s : St) : Option X_loop_example_g00916_impl_Traffic_uses_l0_l0 :=
  (match s.look 20 with
  | some ⟨none, (.one ⟨false, [(.val (.int IntKind.i64 y0))]⟩)⟩ =>
  (match s.look 19 with
  | some ⟨none, (.one ⟨false, [(.val (.int IntKind.i64 y1))]⟩)⟩ =>
  (match s.look 18 with
  | some ⟨none, (.one ⟨false, [(.ref 384)]⟩)⟩ =>
  (match s.look 3 with
  | some ⟨none, (.one ⟨false, [(.ref 1)]⟩)⟩ =>
  (match s.ent 384 with
  | some (.row true 2 (CTy.int IntKind.i64) y2) =>
  (match s.ent 1 with
  | some (.row true 2 (CTy.int IntKind.i64) y3) =>
  some (y0, y1, y2, y3)
  | _ => none)
  | _ => none)
  | _ => none)
  | _ => none)
  | _ => none)
  | _ => none)

def lp_loop_example_g00916_impl_Traffic_uses_l0_l0 : Lp X_loop_example_g00916_impl_Traffic_uses_l0_l0 where
  h := ⟨[21, 22, 23, 6, 24, 25, 26, 27, 28, 29, 30, 20], [0, 1], [], []⟩
  JL := JL_loop_example_g00916_impl_Traffic_uses_l0_l0
  JE := JE_loop_example_g00916_impl_Traffic_uses_l0_l0
  XL := XL_loop_example_g00916_impl_Traffic_uses_l0_l0
  XE := XE_loop_example_g00916_impl_Traffic_uses_l0_l0
  q := fun j => match j with | _ => .exit 2
  tags := [0]
  lt := lt_loop_example_g00916_impl_Traffic_uses_l0_l0
  fuel := fun (y0, y1, y2, y3) => y0.natAbs + y1.natAbs + y2.length + y3.length
  fix := fun (_, y1, y2, _) (y0, _, _, y3) => (y0, y1, y2, y3)
  σ := [(0, 384), (1, 1)]
  rd := rd_loop_example_g00916_impl_Traffic_uses_l0_l0

theorem lpok_loop_example_g00916_impl_Traffic_uses_l0_l0 : LoopOk Tryz.prog (memN [14, 15, 4, 16, 17, 18, 19, 20, 21, 22, 23, 6, 24, 25, 26, 27, 28, 29, 30, 31, 13]) lp_loop_example_g00916_impl_Traffic_uses_l0_l0.F (loopIn (loopAt Tryz.f62 0) 0) := by
  refine Lp.ok (tbl := [p_impl_length_int64, PF.lend p_impl_length_int64, PF.fz p_impl_length_int64, n_loop_example_g00916_impl_Traffic_used, PF.lend n_loop_example_g00916_impl_Traffic_used, PF.fz n_loop_example_g00916_impl_Traffic_used]) (lf := []) hmix lp_loop_example_g00916_impl_Traffic_uses_l0_l0 (by kernel_rfl) (LOk.nil _) (fun _ => rfl) (fun _ _ => rfl) ?_ ?_ ?_ ?_ (fun _ => rfl) ?_
  · intro x; obtain ⟨y0, y1, y2, y3⟩ := x; kernel_rfl
  · intro x; obtain ⟨y0, y1, y2, y3⟩ := x; kernel_rfl
  · intro s x h
    have h : rd_loop_example_g00916_impl_Traffic_uses_l0_l0 s = some x := h
    unfold rd_loop_example_g00916_impl_Traffic_uses_l0_l0 at h
    repeat' split at h
    all_goals cases h
    exact ⟨absS_cons (by assumption) rfl (absS_cons (by assumption) rfl (absS_cons (by assumption) rfl (absS_cons (by assumption) rfl (rfl)))), absE_cons rfl (by assumption) rfl (absE_cons rfl (by assumption) rfl (rfl))⟩
  · intro x; obtain ⟨y0, y1, y2, y3⟩ := x; kernel_rfl
  · intro x z; obtain ⟨y0, y1, y2, y3⟩ := x; exact (And.intro rfl trivial)

abbrev X_loop_example_g00916_impl_Traffic_uses_l0 := Int × Int × Int × List Int × List Int

def loop_example_g00916_impl_Traffic_uses_l0_a0 (y0 : Int) (y2 : Int) (y3 : List Int) (y4 : List Int) : Int × Int × List Int × List Int :=
  ((0 : Int), (↑(List.length (usedL y2 (atI y4 y0))) : Int), usedL y2 (atI y4 y0), y3)

def loop_example_g00916_impl_Traffic_uses_l0_0 (y0 : Int) (y1 : Int) : Bool :=
  ltI y0 y1

def loop_example_g00916_impl_Traffic_uses_l0_1 (y0 : Int) (y2 : Int) (y4 : List Int) : Bool :=
  mvOk y2 y4 y0

def loop_example_g00916_impl_Traffic_uses_l0_2 (y0 : Int) (y2 : Int) (y3 : List Int) (y4 : List Int) : Bool :=
  Lp.fin lp_loop_example_g00916_impl_Traffic_uses_l0_l0 (loop_example_g00916_impl_Traffic_uses_l0_a0 y0 y2 y3 y4)

def loop_example_g00916_impl_Traffic_uses_l0_3 (y0 : Int) : Int :=
  IntKind.wrap IntKind.i64 (y0 + (1 : Int))

def loop_example_g00916_impl_Traffic_uses_l0_4 (y0 : Int) (y2 : Int) (y3 : List Int) (y4 : List Int) : List Int :=
  Prod.snd
  (Prod.snd (Prod.snd (Prod.snd (Lp.res lp_loop_example_g00916_impl_Traffic_uses_l0_l0 (loop_example_g00916_impl_Traffic_uses_l0_a0 y0 y2 y3 y4)))))

def JL_loop_example_g00916_impl_Traffic_uses_l0 : X_loop_example_g00916_impl_Traffic_uses_l0 → List (Nat × SV)
  | (y0, y1, _, _, _) => [(13, (.one ⟨false, [(.val (.int IntKind.i64 y0))]⟩)), (12, (.one ⟨false, [(.val (.int IntKind.i64 y1))]⟩)), (1, (.one ⟨false, [(.ptr 0 0)]⟩)), (3, (.one ⟨false, [(.ref 1)]⟩))]

def JE_loop_example_g00916_impl_Traffic_uses_l0 : X_loop_example_g00916_impl_Traffic_uses_l0 → List (Nat × Entry)
  | (_, _, y2, y3, y4) => [(0, (.box 34 [(.val (.int IntKind.i64 y2)), (.ref 2)])), (1, (.row true 2 (CTy.int IntKind.i64) y3)), (2, (.row false 2 (CTy.int IntKind.i64) y4))]

def XL_loop_example_g00916_impl_Traffic_uses_l0 : Nat → X_loop_example_g00916_impl_Traffic_uses_l0 → List (Nat × SV)
  | _, (_, _, _, _, _) => []

def XE_loop_example_g00916_impl_Traffic_uses_l0 : Nat → X_loop_example_g00916_impl_Traffic_uses_l0 → List (Nat × Entry)
  | _, (_, _, y2, y3, y4) => [(0, (.box 34 [(.val (.int IntKind.i64 y2)), (.ref 2)])), (1, (.row true 2 (CTy.int IntKind.i64) y3)), (2, (.row false 2 (CTy.int IntKind.i64) y4))]

def lt_loop_example_g00916_impl_Traffic_uses_l0 : X_loop_example_g00916_impl_Traffic_uses_l0 → LT X_loop_example_g00916_impl_Traffic_uses_l0
  | (y0, y1, y2, y3, y4) => .ite (loop_example_g00916_impl_Traffic_uses_l0_0 y0 y1) (.need [(loop_example_g00916_impl_Traffic_uses_l0_1 y0 y2 y4)] (.need [(loop_example_g00916_impl_Traffic_uses_l0_2 y0 y2 y3 y4)] (.nrm ((loop_example_g00916_impl_Traffic_uses_l0_3 y0), y1, y2, (loop_example_g00916_impl_Traffic_uses_l0_4 y0 y2 y3 y4), y4) [(0, 0), (1, 1), (2, 2)]))) (.ext 0 [(0, 0), (1, 1), (2, 2)])

def rd_loop_example_g00916_impl_Traffic_uses_l0 (s : St) : Option X_loop_example_g00916_impl_Traffic_uses_l0 :=
  (match s.look 13 with
  | some ⟨none, (.one ⟨false, [(.val (.int IntKind.i64 y0))]⟩)⟩ =>
  (match s.look 12 with
  | some ⟨none, (.one ⟨false, [(.val (.int IntKind.i64 y1))]⟩)⟩ =>
  (match s.look 1 with
  | some ⟨none, (.one ⟨false, [(.ptr 128 0)]⟩)⟩ =>
  (match s.look 3 with
  | some ⟨none, (.one ⟨false, [(.ref 384)]⟩)⟩ =>
  (match s.ent 128 with
  | some (.box 34 [(.val (.int IntKind.i64 y2)), (.ref 0)]) =>
  (match s.ent 384 with
  | some (.row true 2 (CTy.int IntKind.i64) y3) =>
  (match s.ent 0 with
  | some (.row false 2 (CTy.int IntKind.i64) y4) =>
  some (y0, y1, y2, y3, y4)
  | _ => none)
  | _ => none)
  | _ => none)
  | _ => none)
  | _ => none)
  | _ => none)
  | _ => none)

def lp_loop_example_g00916_impl_Traffic_uses_l0 : Lp X_loop_example_g00916_impl_Traffic_uses_l0 where
  h := ⟨[14, 15, 4, 16, 17, 18, 19, 20, 21, 22, 23, 6, 24, 25, 26, 27, 28, 29, 30, 31, 13], [0, 1, 2], [], []⟩
  JL := JL_loop_example_g00916_impl_Traffic_uses_l0
  JE := JE_loop_example_g00916_impl_Traffic_uses_l0
  XL := XL_loop_example_g00916_impl_Traffic_uses_l0
  XE := XE_loop_example_g00916_impl_Traffic_uses_l0
  q := fun j => match j with | _ => .exit 0
  tags := [0]
  lt := lt_loop_example_g00916_impl_Traffic_uses_l0
  fuel := fun (y0, y1, y2, y3, y4) => y0.natAbs + y1.natAbs + y2.natAbs + y3.length + y4.length
  fix := fun (_, y1, y2, _, y4) (y0, _, _, y3, _) => (y0, y1, y2, y3, y4)
  σ := [(0, 128), (1, 384), (2, 0)]
  rd := rd_loop_example_g00916_impl_Traffic_uses_l0

theorem lpok_loop_example_g00916_impl_Traffic_uses_l0 : LoopOk Tryz.prog (fun k => Nat.blt k Tryz.f62.ntmps) lp_loop_example_g00916_impl_Traffic_uses_l0.F (loopAt Tryz.f62 0) := by
  refine Lp.ok (tbl := [p_impl_length_int64, PF.lend p_impl_length_int64, PF.fz p_impl_length_int64, n_loop_example_g00916_impl_Traffic_used, PF.lend n_loop_example_g00916_impl_Traffic_used, PF.fz n_loop_example_g00916_impl_Traffic_used]) (lf := [lp_loop_example_g00916_impl_Traffic_uses_l0_l0.F]) hmix lp_loop_example_g00916_impl_Traffic_uses_l0 (by kernel_rfl) (LOk.allT (l := [loopIn (loopAt Tryz.f62 0) 0]) (by kernel_rfl) (.cons lpok_loop_example_g00916_impl_Traffic_uses_l0_l0 (.nil _))) (fun _ => rfl) (fun _ _ => rfl) ?_ ?_ ?_ ?_ (fun _ => rfl) ?_
  · intro x; obtain ⟨y0, y1, y2, y3, y4⟩ := x; kernel_rfl
  · intro x; obtain ⟨y0, y1, y2, y3, y4⟩ := x; kernel_rfl
  · intro s x h
    have h : rd_loop_example_g00916_impl_Traffic_uses_l0 s = some x := h
    unfold rd_loop_example_g00916_impl_Traffic_uses_l0 at h
    repeat' split at h
    all_goals cases h
    exact ⟨absS_cons (by assumption) rfl (absS_cons (by assumption) rfl (absS_cons (by assumption) rfl (absS_cons (by assumption) rfl (rfl)))), absE_cons rfl (by assumption) rfl (absE_cons rfl (by assumption) rfl (absE_cons rfl (by assumption) rfl (rfl)))⟩
  · intro x; obtain ⟨y0, y1, y2, y3, y4⟩ := x; kernel_rfl
  · intro x z; obtain ⟨y0, y1, y2, y3, y4⟩ := x; exact (And.intro rfl trivial)

def loop_example_g00916_impl_Traffic_uses_a0 (x0 : Int) (x1 : List Int) : Int × Int × Int × List Int × List Int :=
  ((0 : Int), impl_length_int64_0 x1, x0, List.replicate (Int.toNat x0) (0 : Int), x1)

def loop_example_g00916_impl_Traffic_uses_0 (x0 : Int) (x1 : List Int) : List Int :=
  Prod.fst
  (Prod.snd (Prod.snd (Prod.snd (Prod.snd (Lp.res lp_loop_example_g00916_impl_Traffic_uses_l0 (loop_example_g00916_impl_Traffic_uses_a0 x0 x1))))))

def loop_example_g00916_impl_Traffic_uses_1 (x0 : Int) (x1 : List Int) : Bool :=
  allT
  [leI (0 : Int) x0, leI x0 x0, leI ((↑(8 : Nat) : Int) * x0) (281474976710656 : Int), leI x0 (9223372036854775807 : Int),
    Lp.fin lp_loop_example_g00916_impl_Traffic_uses_l0 (loop_example_g00916_impl_Traffic_uses_a0 x0 x1)]

def F_loop_example_g00916_impl_Traffic_uses : List SV → List Entry → Option Out
  | [.one ⟨true, [.val (.int .i64 x0), .ref 0]⟩], [.row false 2 (.int .i64) x1] => some ⟨(.one ⟨false, [(.ref 1)]⟩), [(.row false 2 (CTy.int IntKind.i64) x1)], [(.row true 2 (CTy.int IntKind.i64) (loop_example_g00916_impl_Traffic_uses_0 x0 x1))], [(loop_example_g00916_impl_Traffic_uses_1 x0 x1)]⟩
  | _, _ => none

def p_loop_example_g00916_impl_Traffic_uses : PF Tryz.prog := PF.ofG Tryz.prog [p_impl_length_int64, PF.lend p_impl_length_int64, PF.fz p_impl_length_int64, n_loop_example_g00916_impl_Traffic_used, PF.lend n_loop_example_g00916_impl_Traffic_used, PF.fz n_loop_example_g00916_impl_Traffic_used] [lp_loop_example_g00916_impl_Traffic_uses_l0.F] hmix 62 Tryz.f62 Tryz.func62 (LOk.fnT (l := [loopAt Tryz.f62 0]) (by kernel_rfl) (.cons lpok_loop_example_g00916_impl_Traffic_uses_l0 (.nil _))) F_loop_example_g00916_impl_Traffic_uses (by
  intro vs es r h; unfold F_loop_example_g00916_impl_Traffic_uses at h; split at h
  · cases h; kernel_rfl
  · cases h)

end Go.SX

/- What functions of the program come to, row by row (made by a program of the workplace). -/
import Derived.Test.YtjncnnpdaeociaaTXh
import Derived.Test.YtjncnnpdaeociaaProg
import Derived.Test.YtjncnnpdaeociaaNd
namespace Go.SX
open Go.Proofs
set_option maxRecDepth 100000

abbrev X_spec_l10Allowed_l0 := Int × Int × List Int × List Int

def spec_l10Allowed_l0_0 (y0 : Int) (y3 : List Int) : Bool :=
  ltI y0 (↑(List.length y3) : Int)

def spec_l10Allowed_l0_1 (y0 : Int) (y1 : Int) (y3 : List Int) : Bool :=
  mvOk y1 y3 y0

def spec_l10Allowed_l0_2 (y0 : Int) (y1 : Int) (y2 : List Int) (y3 : List Int) : Bool :=
  !isSf y1 (movL y1 y3 y0) || leN (List.length y2 + List.length [y0]) (9223372036854775807 : Nat)

def spec_l10Allowed_l0_3 (y0 : Int) (y1 : Int) (y2 : List Int) (y3 : List Int) : Bool :=
  !isSf y1 (movL y1 y3 y0) || leN ((List.length y2 + List.length [y0]) * (8 : Nat)) (140737488355328 : Nat)

def spec_l10Allowed_l0_4 (y0 : Int) (y1 : Int) (y3 : List Int) : Bool :=
  isSf y1 (movL y1 y3 y0)

def spec_l10Allowed_l0_5 (y0 : Int) : Int :=
  IntKind.wrap IntKind.i64 (y0 + (1 : Int))

def spec_l10Allowed_l0_6 (y0 : Int) (y2 : List Int) : List Int :=
  y2 ++ [y0]

def JL_spec_l10Allowed_l0 : X_spec_l10Allowed_l0 → List (Nat × SV)
  | (y0, _, _, _) => [(4, (.one ⟨false, [(.val (.int IntKind.i64 y0))]⟩)), (1, (.one ⟨false, [(.ptr 0 0)]⟩)), (3, (.one ⟨false, [(.ref 1)]⟩))]

def JE_spec_l10Allowed_l0 : X_spec_l10Allowed_l0 → List (Nat × Entry)
  | (_, y1, y2, y3) => [(0, (.box 26 [(.val (.int IntKind.i64 y1)), (.ref 2)])), (2, (.row false 2 (CTy.int IntKind.i64) y3)), (1, (.row true 2 (CTy.int IntKind.i64) y2))]

def XL_spec_l10Allowed_l0 : Nat → X_spec_l10Allowed_l0 → List (Nat × SV)
  | _, (_, _, _, _) => [(3, (.one ⟨false, [(.ref 1)]⟩))]

def XE_spec_l10Allowed_l0 : Nat → X_spec_l10Allowed_l0 → List (Nat × Entry)
  | _, (_, y1, y2, y3) => [(0, (.box 26 [(.val (.int IntKind.i64 y1)), (.ref 2)])), (1, (.row true 2 (CTy.int IntKind.i64) y2)), (2, (.row false 2 (CTy.int IntKind.i64) y3))]

def lt_spec_l10Allowed_l0 : X_spec_l10Allowed_l0 → LT X_spec_l10Allowed_l0
  | (y0, y1, y2, y3) => .ite (spec_l10Allowed_l0_0 y0 y3) (.need [(spec_l10Allowed_l0_1 y0 y1 y3)] (.need [(spec_l10Allowed_l0_2 y0 y1 y2 y3), (spec_l10Allowed_l0_3 y0 y1 y2 y3)] (.ite (spec_l10Allowed_l0_4 y0 y1 y3) (.nrm ((spec_l10Allowed_l0_5 y0), y1, (spec_l10Allowed_l0_6 y0 y2), y3) [(0, 0), (1, 832), (2, 2)]) (.nrm ((spec_l10Allowed_l0_5 y0), y1, y2, y3) [(0, 0), (1, 1), (2, 2)])))) (.ext 0 [(0, 0), (1, 1), (2, 2)])

def rd_spec_l10Allowed_l0 (s : St) : Option X_spec_l10Allowed_l0 :=
  (match s.look 4 with
  | some ⟨none, (.one ⟨false, [(.val (.int IntKind.i64 y0))]⟩)⟩ =>
  (match s.look 1 with
  | some ⟨none, (.one ⟨false, [(.ptr 128 0)]⟩)⟩ =>
  (match s.look 3 with
  | some ⟨none, (.one ⟨false, [(.ref 256)]⟩)⟩ =>
  (match s.ent 128 with
  | some (.box 26 [(.val (.int IntKind.i64 y1)), (.ref 0)]) =>
  (match s.ent 0 with
  | some (.row false 2 (CTy.int IntKind.i64) y3) =>
  (match s.ent 256 with
  | some (.row true 2 (CTy.int IntKind.i64) y2) =>
  some (y0, y1, y2, y3)
  | _ => none)
  | _ => none)
  | _ => none)
  | _ => none)
  | _ => none)
  | _ => none)

def lp_spec_l10Allowed_l0 : Lp X_spec_l10Allowed_l0 where
  h := ⟨[6, 7, 8, 9, 10, 13, 14, 15, 16, 17, 18, 19, 20, 3, 11, 12, 4], [0, 2], [1], []⟩
  JL := JL_spec_l10Allowed_l0
  JE := JE_spec_l10Allowed_l0
  XL := XL_spec_l10Allowed_l0
  XE := XE_spec_l10Allowed_l0
  q := fun j => match j with | _ => .exit 0
  tags := [0]
  lt := lt_spec_l10Allowed_l0
  fuel := fun (y0, y1, y2, y3) => y0.natAbs + y1.natAbs + y2.length + y3.length
  fix := fun (_, y1, _, y3) (y0, _, y2, _) => (y0, y1, y2, y3)
  σ := [(0, 128), (2, 0), (1, 256)]
  rd := rd_spec_l10Allowed_l0

theorem lpok_spec_l10Allowed_l0 : LoopOk Try.prog (fun k => Nat.blt k Try.f89.ntmps) lp_spec_l10Allowed_l0.F (loopAt Try.f89 0) := by
  refine Lp.ok (tbl := [n_spec_IsSafeTraffic, PF.lend n_spec_IsSafeTraffic, PF.fz n_spec_IsSafeTraffic, n_spec_l10Move, PF.lend n_spec_l10Move, PF.fz n_spec_l10Move]) (lf := []) hmix lp_spec_l10Allowed_l0 (by kernel_rfl) (LOk.nil _) (fun _ => rfl) (fun _ _ => rfl) ?_ ?_ ?_ ?_ (fun _ => rfl) ?_
  · intro x; obtain ⟨y0, y1, y2, y3⟩ := x; kernel_rfl
  · intro x; obtain ⟨y0, y1, y2, y3⟩ := x; kernel_rfl
  · intro s x h
    have h : rd_spec_l10Allowed_l0 s = some x := h
    unfold rd_spec_l10Allowed_l0 at h
    repeat' split at h
    all_goals cases h
    exact ⟨absS_cons (by assumption) rfl (absS_cons (by assumption) rfl (absS_cons (by assumption) rfl (rfl))), absE_cons rfl (by assumption) rfl (absE_cons rfl (by assumption) rfl (absE_cons rfl (by assumption) rfl (rfl)))⟩
  · intro x; obtain ⟨y0, y1, y2, y3⟩ := x; kernel_rfl
  · intro x z; obtain ⟨y0, y1, y2, y3⟩ := x; exact (And.intro (And.intro rfl rfl) trivial)

def spec_l10Allowed_a0 (x0 : Int) (x1 : List Int) : Int × Int × List Int × List Int :=
  ((0 : Int), x0, [], x1)

def spec_l10Allowed_0 (x0 : Int) (x1 : List Int) : List Int :=
  Prod.fst (Prod.snd (Prod.snd (Prod.snd (Lp.res lp_spec_l10Allowed_l0 (spec_l10Allowed_a0 x0 x1)))))

def spec_l10Allowed_1 (x0 : Int) (x1 : List Int) : Bool :=
  allT [Lp.fin lp_spec_l10Allowed_l0 (spec_l10Allowed_a0 x0 x1)]

def F_spec_l10Allowed : List SV → List Entry → Option Out
  | [.one ⟨true, [.val (.int .i64 x0), .ref 0]⟩], [.row false 2 (.int .i64) x1] => some ⟨(.one ⟨false, [(.ref 1)]⟩), [(.row false 2 (CTy.int IntKind.i64) x1)], [(.row true 2 (CTy.int IntKind.i64) (spec_l10Allowed_0 x0 x1))], [(spec_l10Allowed_1 x0 x1)]⟩
  | _, _ => none

def p_spec_l10Allowed : PF Try.prog := PF.ofG Try.prog [n_spec_IsSafeTraffic, PF.lend n_spec_IsSafeTraffic, PF.fz n_spec_IsSafeTraffic, n_spec_l10Move, PF.lend n_spec_l10Move, PF.fz n_spec_l10Move] [lp_spec_l10Allowed_l0.F] hmix 89 Try.f89 Try.func89 (LOk.fnT (l := [loopAt Try.f89 0]) (by kernel_rfl) (.cons lpok_spec_l10Allowed_l0 (.nil _))) F_spec_l10Allowed (by
  intro vs es r h; unfold F_spec_l10Allowed at h; split at h
  · cases h; kernel_rfl
  · cases h)

abbrev X_spec_RunMoves_l0 := Int × List Int × Int × Int × List Int × List Int

def spec_RunMoves_l0_0 (y0 : Int) (y1 : List Int) : Bool :=
  ltI y0 (↑(List.length y1) : Int)

def spec_RunMoves_l0_1 (y0 : Int) : Bool :=
  leI (0 : Int) y0

def spec_RunMoves_l0_2 (y0 : Int) (y1 : List Int) : Bool :=
  ltN (Int.toNat y0) (List.length y1)

def spec_RunMoves_l0_3 (y0 : Int) (y1 : List Int) (y4 : List Int) : Bool :=
  !spec_l01In_0 (Option.getD y1[Int.toNat y0]? (0 : Int)) (0 : Int) (IntKind.wrap IntKind.i64 ((↑(List.length y4) : Int) - (1 : Int)))

def spec_RunMoves_l0_4 (y0 : Int) : Int :=
  IntKind.wrap IntKind.i64 (y0 + (1 : Int))

def JL_spec_RunMoves_l0 : X_spec_RunMoves_l0 → List (Nat × SV)
  | (y0, _, _, _, _, _) => [(6, (.one ⟨false, [(.val (.int IntKind.i64 y0))]⟩)), (1, (.one ⟨false, [(.ref 0)]⟩)), (2, (.one ⟨false, [(.ptr 1 0)]⟩)), (4, (.one ⟨false, [(.ptr 2 0)]⟩))]

def JE_spec_RunMoves_l0 : X_spec_RunMoves_l0 → List (Nat × Entry)
  | (_, y1, y2, y3, y4, y5) => [(0, (.row false 2 (CTy.int IntKind.i64) y1)), (1, (.box 26 [(.val (.int IntKind.i64 y2)), (.ref 3)])), (2, (.box 26 [(.val (.int IntKind.i64 y3)), (.ref 4)])), (3, (.row false 2 (CTy.int IntKind.i64) y4)), (4, (.row true 2 (CTy.int IntKind.i64) y5))]

def XL_spec_RunMoves_l0 : Nat → X_spec_RunMoves_l0 → List (Nat × SV)
  | 0, (_, _, _, _, _, _) => [(5, (.one ⟨false, [(.val (.int IntKind.i64 (2 : Int)))]⟩))]
  | _, (_, _, _, _, _, _) => []

def XE_spec_RunMoves_l0 : Nat → X_spec_RunMoves_l0 → List (Nat × Entry)
  | 0, (_, y1, y2, _, y4, y5) => [(0, (.row false 2 (CTy.int IntKind.i64) y1)), (1, (.box 26 [(.val (.int IntKind.i64 y2)), (.ref 3)])), (2, (.box 26 [(.val (.int IntKind.i64 (0 : Int))), (.ref 5)])), (3, (.row false 2 (CTy.int IntKind.i64) y4)), (4, (.row true 2 (CTy.int IntKind.i64) y5)), (5, (.row true 2 (CTy.int IntKind.i64) []))]
  | _, (_, y1, y2, y3, y4, y5) => [(0, (.row false 2 (CTy.int IntKind.i64) y1)), (1, (.box 26 [(.val (.int IntKind.i64 y2)), (.ref 3)])), (2, (.box 26 [(.val (.int IntKind.i64 y3)), (.ref 4)])), (3, (.row false 2 (CTy.int IntKind.i64) y4)), (4, (.row true 2 (CTy.int IntKind.i64) y5))]

def lt_spec_RunMoves_l0 : X_spec_RunMoves_l0 → LT X_spec_RunMoves_l0
  | (y0, y1, y2, y3, y4, y5) => .ite (spec_RunMoves_l0_0 y0 y1) (.need [(spec_RunMoves_l0_1 y0), (spec_RunMoves_l0_0 y0 y1), (spec_RunMoves_l0_2 y0 y1)] (.ite (spec_RunMoves_l0_3 y0 y1 y4) (.ext 0 [(0, 0), (1, 1), (2, 2), (3, 3), (4, 4), (5, 960)]) (.nrm ((spec_RunMoves_l0_4 y0), y1, y2, y3, y4, y5) [(0, 0), (1, 1), (2, 2), (3, 3), (4, 4)]))) (.ext 1 [(0, 0), (1, 1), (2, 2), (3, 3), (4, 4)])

def rd_spec_RunMoves_l0 (s : St) : Option X_spec_RunMoves_l0 :=
  (match s.look 6 with
  | some ⟨none, (.one ⟨false, [(.val (.int IntKind.i64 y0))]⟩)⟩ =>
  (match s.look 1 with
  | some ⟨none, (.one ⟨false, [(.ref 1)]⟩)⟩ =>
  (match s.look 2 with
  | some ⟨none, (.one ⟨false, [(.ptr 192 0)]⟩)⟩ =>
  (match s.look 4 with
  | some ⟨none, (.one ⟨false, [(.ptr 256 0)]⟩)⟩ =>
  (match s.ent 1 with
  | some (.row false 2 (CTy.int IntKind.i64) y1) =>
  (match s.ent 192 with
  | some (.box 26 [(.val (.int IntKind.i64 y2)), (.ref 0)]) =>
  (match s.ent 256 with
  | some (.box 26 [(.val (.int IntKind.i64 y3)), (.ref 257)]) =>
  (match s.ent 0 with
  | some (.row false 2 (CTy.int IntKind.i64) y4) =>
  (match s.ent 257 with
  | some (.row true 2 (CTy.int IntKind.i64) y5) =>
  some (y0, y1, y2, y3, y4, y5)
  | _ => none)
  | _ => none)
  | _ => none)
  | _ => none)
  | _ => none)
  | _ => none)
  | _ => none)
  | _ => none)
  | _ => none)

def lp_spec_RunMoves_l0 : Lp X_spec_RunMoves_l0 where
  h := ⟨[17, 18, 19, 20, 23, 24, 25, 26, 27, 28, 29, 30, 31, 32, 33, 5, 21, 22, 6], [0, 1, 2, 3, 4], [], [5]⟩
  JL := JL_spec_RunMoves_l0
  JE := JE_spec_RunMoves_l0
  XL := XL_spec_RunMoves_l0
  XE := XE_spec_RunMoves_l0
  q := fun j => match j with | 0 => .ret | _ => .exit 0
  tags := [0, 1]
  lt := lt_spec_RunMoves_l0
  fuel := fun (y0, y1, y2, y3, y4, y5) => y0.natAbs + y1.length + y2.natAbs + y3.natAbs + y4.length + y5.length
  fix := fun (_, y1, y2, y3, y4, y5) (y0, _, _, _, _, _) => (y0, y1, y2, y3, y4, y5)
  σ := [(0, 1), (1, 192), (2, 256), (3, 0), (4, 257)]
  rd := rd_spec_RunMoves_l0

theorem lpok_spec_RunMoves_l0 : LoopOk Try.prog (fun k => Nat.blt k Try.f38.ntmps) lp_spec_RunMoves_l0.F (loopAt Try.f38 0) := by
  refine Lp.ok (tbl := [n_spec_IsTraffic, PF.lend n_spec_IsTraffic, PF.fz n_spec_IsTraffic, n_spec_IsSafeTraffic, PF.lend n_spec_IsSafeTraffic, PF.fz n_spec_IsSafeTraffic, n_spec_l10Move, PF.lend n_spec_l10Move, PF.fz n_spec_l10Move, p_spec_l01In, n_spec_l01Own, PF.lend n_spec_l01Own, PF.fz n_spec_l01Own]) (lf := []) hmix lp_spec_RunMoves_l0 (by kernel_rfl) (LOk.nil _) (fun _ => rfl) (fun j _ => by unfold lp_spec_RunMoves_l0; match j with | 0 => rfl | _ + 1 => rfl) ?_ ?_ ?_ ?_ (fun _ => rfl) ?_
  · intro x; obtain ⟨y0, y1, y2, y3, y4, y5⟩ := x; kernel_rfl
  · intro x; obtain ⟨y0, y1, y2, y3, y4, y5⟩ := x; kernel_rfl
  · intro s x h
    have h : rd_spec_RunMoves_l0 s = some x := h
    unfold rd_spec_RunMoves_l0 at h
    repeat' split at h
    all_goals cases h
    exact ⟨absS_cons (by assumption) rfl (absS_cons (by assumption) rfl (absS_cons (by assumption) rfl (absS_cons (by assumption) rfl (rfl)))), absE_cons rfl (by assumption) rfl (absE_cons rfl (by assumption) rfl (absE_cons rfl (by assumption) rfl (absE_cons rfl (by assumption) rfl (absE_cons rfl (by assumption) rfl (rfl)))))⟩
  · intro x; obtain ⟨y0, y1, y2, y3, y4, y5⟩ := x; kernel_rfl
  · intro x z; obtain ⟨y0, y1, y2, y3, y4, y5⟩ := x; exact (And.intro (And.intro trivial rfl) trivial)

abbrev X_spec_RunMoves_l1 := Int × List Int × Int × List Int

def spec_RunMoves_l1_a0 (y0 : Int) (y1 : List Int) (y3 : List Int) : List Int :=
  bif ltI y0 (↑(List.length y1) : Int) && true then y3 else y3

def spec_RunMoves_l1_a1 (y0 : Int) (y1 : List Int) : Int :=
  Option.getD y1[Int.toNat y0]? (0 : Int)

def spec_RunMoves_l1_0 (y0 : Int) (y1 : List Int) (y2 : Int) (y3 : List Int) : Bool :=
  bif ltI y0 (↑(List.length y1) : Int) then isSf y2 y3 else false

def spec_RunMoves_l1_1 (y0 : Int) : Bool :=
  leI (0 : Int) y0

def spec_RunMoves_l1_2 (y0 : Int) (y1 : List Int) : Bool :=
  ltI y0 (↑(List.length y1) : Int)

def spec_RunMoves_l1_3 (y0 : Int) (y1 : List Int) : Bool :=
  ltN (Int.toNat y0) (List.length y1)

def spec_RunMoves_l1_4 (y0 : Int) (y1 : List Int) (y2 : Int) (y3 : List Int) : Bool :=
  mvOk y2 (spec_RunMoves_l1_a0 y0 y1 y3) (spec_RunMoves_l1_a1 y0 y1)

def spec_RunMoves_l1_5 (y0 : Int) : Int :=
  IntKind.wrap IntKind.i64 (y0 + (1 : Int))

def spec_RunMoves_l1_6 (y0 : Int) (y1 : List Int) (y2 : Int) (y3 : List Int) : List Int :=
  movL y2 (spec_RunMoves_l1_a0 y0 y1 y3) (spec_RunMoves_l1_a1 y0 y1)

def spec_RunMoves_l1_7 (y0 : Int) (y1 : List Int) (y3 : List Int) : List Int :=
  spec_RunMoves_l1_a0 y0 y1 y3

def JL_spec_RunMoves_l1 : X_spec_RunMoves_l1 → List (Nat × SV)
  | (y0, _, _, _) => [(8, (.one ⟨false, [(.val (.int IntKind.i64 y0))]⟩)), (1, (.one ⟨false, [(.ref 0)]⟩)), (7, (.one ⟨false, [(.ptr 1 0)]⟩))]

def JE_spec_RunMoves_l1 : X_spec_RunMoves_l1 → List (Nat × Entry)
  | (_, y1, y2, y3) => [(0, (.row false 2 (CTy.int IntKind.i64) y1)), (1, (.box 26 [(.val (.int IntKind.i64 y2)), (.ref 2)])), (2, (.row true 2 (CTy.int IntKind.i64) y3))]

def XL_spec_RunMoves_l1 : Nat → X_spec_RunMoves_l1 → List (Nat × SV)
  | _, (_, _, _, _) => []

def XE_spec_RunMoves_l1 : Nat → X_spec_RunMoves_l1 → List (Nat × Entry)
  | _, (y0, y1, y2, y3) => [(0, (.row false 2 (CTy.int IntKind.i64) y1)), (1, (.box 26 [(.val (.int IntKind.i64 y2)), (.ref 2)])), (2, (.row true 2 (CTy.int IntKind.i64) (spec_RunMoves_l1_7 y0 y1 y3)))]

def lt_spec_RunMoves_l1 : X_spec_RunMoves_l1 → LT X_spec_RunMoves_l1
  | (y0, y1, y2, y3) => .ite (spec_RunMoves_l1_0 y0 y1 y2 y3) (.need [(spec_RunMoves_l1_1 y0), (spec_RunMoves_l1_2 y0 y1), (spec_RunMoves_l1_3 y0 y1), (spec_RunMoves_l1_4 y0 y1 y2 y3)] (.nrm ((spec_RunMoves_l1_5 y0), y1, y2, (spec_RunMoves_l1_6 y0 y1 y2 y3)) [(0, 0), (1, 1), (2, 896)])) (.ext 0 [(0, 0), (1, 1), (2, 2)])

def rd_spec_RunMoves_l1 (s : St) : Option X_spec_RunMoves_l1 :=
  (match s.look 8 with
  | some ⟨none, (.one ⟨false, [(.val (.int IntKind.i64 y0))]⟩)⟩ =>
  (match s.look 1 with
  | some ⟨none, (.one ⟨false, [(.ref 1)]⟩)⟩ =>
  (match s.look 7 with
  | some ⟨none, (.one ⟨false, [(.ptr 1280 0)]⟩)⟩ =>
  (match s.ent 1 with
  | some (.row false 2 (CTy.int IntKind.i64) y1) =>
  (match s.ent 1280 with
  | some (.box 26 [(.val (.int IntKind.i64 y2)), (.ref 1152)]) =>
  (match s.ent 1152 with
  | some (.row true 2 (CTy.int IntKind.i64) y3) =>
  some (y0, y1, y2, y3)
  | _ => none)
  | _ => none)
  | _ => none)
  | _ => none)
  | _ => none)
  | _ => none)

def lp_spec_RunMoves_l1 : Lp X_spec_RunMoves_l1 where
  h := ⟨[40, 41, 42, 43, 44, 45, 46, 47, 50, 51, 52, 53, 54, 55, 48, 49, 8], [0, 1], [2], []⟩
  JL := JL_spec_RunMoves_l1
  JE := JE_spec_RunMoves_l1
  XL := XL_spec_RunMoves_l1
  XE := XE_spec_RunMoves_l1
  q := fun j => match j with | _ => .exit 2
  tags := [0]
  lt := lt_spec_RunMoves_l1
  fuel := fun (y0, y1, y2, y3) => y0.natAbs + y1.length + y2.natAbs + y3.length
  fix := fun (_, y1, y2, _) (y0, _, _, y3) => (y0, y1, y2, y3)
  σ := [(0, 1), (1, 1280), (2, 1152)]
  rd := rd_spec_RunMoves_l1

theorem lpok_spec_RunMoves_l1 : LoopOk Try.prog (fun k => Nat.blt k Try.f38.ntmps) lp_spec_RunMoves_l1.F (loopAt Try.f38 1) := by
  refine Lp.ok (tbl := [n_spec_IsTraffic, PF.lend n_spec_IsTraffic, PF.fz n_spec_IsTraffic, n_spec_IsSafeTraffic, PF.lend n_spec_IsSafeTraffic, PF.fz n_spec_IsSafeTraffic, n_spec_l10Move, PF.lend n_spec_l10Move, PF.fz n_spec_l10Move, p_spec_l01In, n_spec_l01Own, PF.lend n_spec_l01Own, PF.fz n_spec_l01Own]) (lf := []) hmix lp_spec_RunMoves_l1 (by kernel_rfl) (LOk.nil _) (fun _ => rfl) (fun _ _ => rfl) ?_ ?_ ?_ ?_ (fun _ => rfl) ?_
  · intro x; obtain ⟨y0, y1, y2, y3⟩ := x; kernel_rfl
  · intro x; obtain ⟨y0, y1, y2, y3⟩ := x; kernel_rfl
  · intro s x h
    have h : rd_spec_RunMoves_l1 s = some x := h
    unfold rd_spec_RunMoves_l1 at h
    repeat' split at h
    all_goals cases h
    exact ⟨absS_cons (by assumption) rfl (absS_cons (by assumption) rfl (absS_cons (by assumption) rfl (rfl))), absE_cons rfl (by assumption) rfl (absE_cons rfl (by assumption) rfl (absE_cons rfl (by assumption) rfl (rfl)))⟩
  · intro x; obtain ⟨y0, y1, y2, y3⟩ := x; kernel_rfl
  · intro x z; obtain ⟨y0, y1, y2, y3⟩ := x; exact (And.intro rfl trivial)

def spec_RunMoves_a0 (x0 : Int) (x1 : List Int) (x2 : List Int) : Int × List Int × Int × Int × List Int × List Int :=
  ((0 : Int), x2, x0, (0 : Int), x1, [])

def spec_RunMoves_a1 (x0 : Int) (x1 : List Int) (x2 : List Int) : Bool :=
  Nat.beq (Prod.fst (Lp.res lp_spec_RunMoves_l0 (spec_RunMoves_a0 x0 x1 x2))) (0 : Nat)

def spec_RunMoves_a2 (x0 : Int) (x1 : List Int) (x2 : List Int) : Int × List Int × Int × List Int :=
  ((0 : Int), x2, x0, x1)

def spec_RunMoves_a3 (x0 : Int) (x1 : List Int) (x2 : List Int) : List Int :=
  spec_RunMoves_l1_7 (Prod.fst (Prod.snd (Lp.res lp_spec_RunMoves_l1 (spec_RunMoves_a2 x0 x1 x2)))) x2
  (Prod.snd (Prod.snd (Prod.snd (Prod.snd (Lp.res lp_spec_RunMoves_l1 (spec_RunMoves_a2 x0 x1 x2))))))

def spec_RunMoves_0 (x0 : Int) (x1 : List Int) (x2 : List Int) : Int :=
  bif !isT x0 x1 then (0 : Int)
  else
  bif ltI (200 : Int) (↑(List.length x2) : Int) then (0 : Int)
  else bif spec_RunMoves_a1 x0 x1 x2 then (0 : Int) else bif !isSf x0 (spec_RunMoves_a3 x0 x1 x2) then (0 : Int) else x0

def spec_RunMoves_1 (x0 : Int) (x1 : List Int) (x2 : List Int) : Int :=
  bif !isT x0 x1 then (1 : Int)
  else
  bif ltI (200 : Int) (↑(List.length x2) : Int) then (3 : Int)
  else bif spec_RunMoves_a1 x0 x1 x2 then (2 : Int) else bif !isSf x0 (spec_RunMoves_a3 x0 x1 x2) then (5 : Int) else (0 : Int)

def spec_RunMoves_2 (x0 : Int) (x1 : List Int) (x2 : List Int) : List Int :=
  bif !isT x0 x1 then []
  else
  bif ltI (200 : Int) (↑(List.length x2) : Int) then []
  else bif spec_RunMoves_a1 x0 x1 x2 then [] else bif !isSf x0 (spec_RunMoves_a3 x0 x1 x2) then [] else spec_RunMoves_a3 x0 x1 x2

def spec_RunMoves_3 (x0 : Int) (x1 : List Int) (x2 : List Int) : Bool :=
  allT
  [!isT x0 x1 || (ltI (200 : Int) (↑(List.length x2) : Int) || Lp.fin lp_spec_RunMoves_l0 (spec_RunMoves_a0 x0 x1 x2)),
    !isT x0 x1 || (ltI (200 : Int) (↑(List.length x2) : Int) || (spec_RunMoves_a1 x0 x1 x2 || leN (List.length x1) (1048576 : Nat))),
    !isT x0 x1 ||
      (ltI (200 : Int) (↑(List.length x2) : Int) || (spec_RunMoves_a1 x0 x1 x2 || Lp.fin lp_spec_RunMoves_l1 (spec_RunMoves_a2 x0 x1 x2)))]

def F_spec_RunMoves : List SV → List Entry → Option Out
  | [.one ⟨true, [.val (.int .i64 x0), .ref 0]⟩, .one ⟨false, [.ref 1]⟩], [.row false 2 (.int .i64) x1, .row false 2 (.int .i64) x2] => some ⟨(.tup [⟨true, [(.val (.int IntKind.i64 (spec_RunMoves_0 x0 x1 x2))), (.ref 2)]⟩, ⟨false, [(.val (.int IntKind.i64 (spec_RunMoves_1 x0 x1 x2)))]⟩]), [(.row false 2 (CTy.int IntKind.i64) x1), (.row false 2 (CTy.int IntKind.i64) x2)], [(.row true 2 (CTy.int IntKind.i64) (spec_RunMoves_2 x0 x1 x2))], [(spec_RunMoves_3 x0 x1 x2)]⟩
  | _, _ => none

def p_spec_RunMoves : PF Try.prog := PF.ofG Try.prog [n_spec_IsTraffic, PF.lend n_spec_IsTraffic, PF.fz n_spec_IsTraffic, n_spec_IsSafeTraffic, PF.lend n_spec_IsSafeTraffic, PF.fz n_spec_IsSafeTraffic, n_spec_l10Move, PF.lend n_spec_l10Move, PF.fz n_spec_l10Move, p_spec_l01In, n_spec_l01Own, PF.lend n_spec_l01Own, PF.fz n_spec_l01Own] [lp_spec_RunMoves_l0.F, lp_spec_RunMoves_l1.F] hmix 38 Try.f38 Try.func38 (LOk.fnT (l := [loopAt Try.f38 0, loopAt Try.f38 1]) (by kernel_rfl) (.cons lpok_spec_RunMoves_l0 (.cons lpok_spec_RunMoves_l1 (.nil _)))) F_spec_RunMoves (by
  intro vs es r h; unfold F_spec_RunMoves at h; split at h
  · cases h; kernel_rfl
  · cases h)

end Go.SX

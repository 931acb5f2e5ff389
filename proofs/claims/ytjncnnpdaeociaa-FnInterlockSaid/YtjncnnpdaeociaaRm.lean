/- What functions of the program come to, row by row (made by a program of the workplace). -/
import Derived.Test.YtjncnnpdaeociaaTXh
import Derived.Test.YtjncnnpdaeociaaProg
import Derived.Test.YtjncnnpdaeociaaNl
namespace Go.SX
open Go.Proofs
set_option maxRecDepth 100000

abbrev X_spec_l11Run_l0 := Int × List Int × Int × Int × List Int × List Int

def spec_l11Run_l0_0 (y0 : Int) (y1 : List Int) : Bool :=
  ltI y0 (↑(List.length y1) : Int)

def spec_l11Run_l0_1 (y0 : Int) : Bool :=
  leI (0 : Int) y0

def spec_l11Run_l0_2 (y0 : Int) (y1 : List Int) : Bool :=
  ltN (Int.toNat y0) (List.length y1)

def spec_l11Run_l0_3 (y0 : Int) (y1 : List Int) (y4 : List Int) : Bool :=
  !spec_l01In_0 (Option.getD y1[Int.toNat y0]? (0 : Int)) (0 : Int) (IntKind.wrap IntKind.i64 ((↑(List.length y4) : Int) - (1 : Int)))

def spec_l11Run_l0_4 (y0 : Int) : Int :=
  IntKind.wrap IntKind.i64 (y0 + (1 : Int))

def JL_spec_l11Run_l0 : X_spec_l11Run_l0 → List (Nat × SV)
  | (y0, _, _, _, _, _) => [(9, (.one ⟨false, [(.val (.int IntKind.i64 y0))]⟩)), (2, (.one ⟨false, [(.ref 0)]⟩)), (3, (.one ⟨false, [(.ptr 1 0)]⟩)), (6, (.one ⟨false, [(.ptr 2 0)]⟩))]

def JE_spec_l11Run_l0 : X_spec_l11Run_l0 → List (Nat × Entry)
  | (_, y1, y2, y3, y4, y5) => [(0, (.row false 2 (CTy.int IntKind.i64) y1)), (1, (.box 26 [(.val (.int IntKind.i64 y2)), (.ref 3)])), (2, (.box 26 [(.val (.int IntKind.i64 y3)), (.ref 4)])), (3, (.row false 2 (CTy.int IntKind.i64) y4)), (4, (.row true 2 (CTy.int IntKind.i64) y5))]

def XL_spec_l11Run_l0 : Nat → X_spec_l11Run_l0 → List (Nat × SV)
  | 0, (_, _, _, _, _, _) => [(7, (.one ⟨false, [(.val (.int IntKind.i64 (0 : Int)))]⟩)), (8, (.one ⟨false, [(.val (.int IntKind.i64 (2 : Int)))]⟩))]
  | _, (_, _, _, _, _, _) => []

def XE_spec_l11Run_l0 : Nat → X_spec_l11Run_l0 → List (Nat × Entry)
  | 0, (_, y1, y2, _, y4, y5) => [(0, (.row false 2 (CTy.int IntKind.i64) y1)), (1, (.box 26 [(.val (.int IntKind.i64 y2)), (.ref 3)])), (2, (.box 26 [(.val (.int IntKind.i64 (0 : Int))), (.ref 5)])), (3, (.row false 2 (CTy.int IntKind.i64) y4)), (4, (.row true 2 (CTy.int IntKind.i64) y5)), (5, (.row true 2 (CTy.int IntKind.i64) []))]
  | _, (_, y1, y2, y3, y4, y5) => [(0, (.row false 2 (CTy.int IntKind.i64) y1)), (1, (.box 26 [(.val (.int IntKind.i64 y2)), (.ref 3)])), (2, (.box 26 [(.val (.int IntKind.i64 y3)), (.ref 4)])), (3, (.row false 2 (CTy.int IntKind.i64) y4)), (4, (.row true 2 (CTy.int IntKind.i64) y5))]

def lt_spec_l11Run_l0 : X_spec_l11Run_l0 → LT X_spec_l11Run_l0
  | (y0, y1, y2, y3, y4, y5) => .ite (spec_l11Run_l0_0 y0 y1) (.need [(spec_l11Run_l0_1 y0), (spec_l11Run_l0_0 y0 y1), (spec_l11Run_l0_2 y0 y1)] (.ite (spec_l11Run_l0_3 y0 y1 y4) (.ext 0 [(0, 0), (1, 1), (2, 2), (3, 3), (4, 4), (5, 960)]) (.nrm ((spec_l11Run_l0_4 y0), y1, y2, y3, y4, y5) [(0, 0), (1, 1), (2, 2), (3, 3), (4, 4)]))) (.ext 1 [(0, 0), (1, 1), (2, 2), (3, 3), (4, 4)])

def rd_spec_l11Run_l0 (s : St) : Option X_spec_l11Run_l0 :=
  (match s.look 9 with
  | some ⟨none, (.one ⟨false, [(.val (.int IntKind.i64 y0))]⟩)⟩ =>
  (match s.look 2 with
  | some ⟨none, (.one ⟨false, [(.ref 2)]⟩)⟩ =>
  (match s.look 3 with
  | some ⟨none, (.one ⟨false, [(.ptr 256 0)]⟩)⟩ =>
  (match s.look 6 with
  | some ⟨none, (.one ⟨false, [(.ptr 320 0)]⟩)⟩ =>
  (match s.ent 2 with
  | some (.row false 2 (CTy.int IntKind.i64) y1) =>
  (match s.ent 256 with
  | some (.box 26 [(.val (.int IntKind.i64 y2)), (.ref 0)]) =>
  (match s.ent 320 with
  | some (.box 26 [(.val (.int IntKind.i64 y3)), (.ref 321)]) =>
  (match s.ent 0 with
  | some (.row false 2 (CTy.int IntKind.i64) y4) =>
  (match s.ent 321 with
  | some (.row true 2 (CTy.int IntKind.i64) y5) =>
  some (y0, y1, y2, y3, y4, y5)
  | _ => none)
  | _ => none)
  | _ => none)
  | _ => none)
  | _ => none)
  | _ => none)
  | _ => none)
  | _ => none)
  | _ => none)

def lp_spec_l11Run_l0 : Lp X_spec_l11Run_l0 where
  h := ⟨[30, 31, 32, 33, 36, 37, 38, 39, 40, 41, 42, 43, 44, 45, 46, 7, 8, 34, 35, 9], [0, 1, 2, 3, 4], [], [5]⟩
  JL := JL_spec_l11Run_l0
  JE := JE_spec_l11Run_l0
  XL := XL_spec_l11Run_l0
  XE := XE_spec_l11Run_l0
  q := fun j => match j with | 0 => .ret | _ => .exit 1
  tags := [0, 1]
  lt := lt_spec_l11Run_l0
  fuel := fun (y0, y1, y2, y3, y4, y5) => y0.natAbs + y1.length + y2.natAbs + y3.natAbs + y4.length + y5.length
  fix := fun (_, y1, y2, y3, y4, y5) (y0, _, _, _, _, _) => (y0, y1, y2, y3, y4, y5)
  σ := [(0, 2), (1, 256), (2, 320), (3, 0), (4, 321)]
  rd := rd_spec_l11Run_l0

theorem lpok_spec_l11Run_l0 : LoopOk Try.prog (fun k => Nat.blt k Try.f104.ntmps) lp_spec_l11Run_l0.F (loopAt Try.f104 0) := by
  refine Lp.ok (tbl := [n_spec_AreFaults, PF.lend n_spec_AreFaults, PF.fz n_spec_AreFaults, n_spec_l11Permits, PF.lend n_spec_l11Permits, PF.fz n_spec_l11Permits, n_spec_l11Report, PF.lend n_spec_l11Report, PF.fz n_spec_l11Report, n_spec_IsTraffic, PF.lend n_spec_IsTraffic, PF.fz n_spec_IsTraffic, n_spec_IsSafeTraffic, PF.lend n_spec_IsSafeTraffic, PF.fz n_spec_IsSafeTraffic, n_spec_l10Move, PF.lend n_spec_l10Move, PF.fz n_spec_l10Move, p_spec_l01In, n_spec_l01Own, PF.lend n_spec_l01Own, PF.fz n_spec_l01Own]) (lf := []) hmix lp_spec_l11Run_l0 (by kernel_rfl) (LOk.nil _) (fun _ => rfl) (fun j _ => by unfold lp_spec_l11Run_l0; match j with | 0 => rfl | _ + 1 => rfl) ?_ ?_ ?_ ?_ (fun _ => rfl) ?_
  · intro x; obtain ⟨y0, y1, y2, y3, y4, y5⟩ := x; kernel_rfl
  · intro x; obtain ⟨y0, y1, y2, y3, y4, y5⟩ := x; kernel_rfl
  · intro s x h
    have h : rd_spec_l11Run_l0 s = some x := h
    unfold rd_spec_l11Run_l0 at h
    repeat' split at h
    all_goals cases h
    exact ⟨absS_cons (by assumption) rfl (absS_cons (by assumption) rfl (absS_cons (by assumption) rfl (absS_cons (by assumption) rfl (rfl)))), absE_cons rfl (by assumption) rfl (absE_cons rfl (by assumption) rfl (absE_cons rfl (by assumption) rfl (absE_cons rfl (by assumption) rfl (absE_cons rfl (by assumption) rfl (rfl)))))⟩
  · intro x; obtain ⟨y0, y1, y2, y3, y4, y5⟩ := x; kernel_rfl
  · intro x z; obtain ⟨y0, y1, y2, y3, y4, y5⟩ := x; exact (And.intro (And.intro trivial rfl) trivial)

abbrev X_spec_l11Run_l1 := Int × Int × List Int × Int × List (Int × (Int × Int)) × Int × List Int × List Int

def spec_l11Run_l1_a0 (y1 : Int) (y6 : List Int) : List Int :=
  bif ltI y1 (0 : Int) && true then y6 else y6

def spec_l11Run_l1_a1 (y0 : Int) (y2 : List Int) : Int :=
  Option.getD y2[Int.toNat y0]? (0 : Int)

def spec_l11Run_l1_0 (y0 : Int) (y2 : List Int) : Bool :=
  leI y0 (↑(List.length y2) : Int)

def spec_l11Run_l1_1 (y0 : Int) (y2 : List Int) : Bool :=
  y0 == (↑(List.length y2) : Int)

def spec_l11Run_l1_2 (y0 : Int) (y1 : Int) (y3 : Int) (y6 : List Int) : Int :=
  bif bif ltI y1 (0 : Int) then !isSf y3 y6 else false then y0 else y1

def spec_l11Run_l1_3 (y1 : Int) (y6 : List Int) : List Int :=
  spec_l11Run_l1_a0 y1 y6

def spec_l11Run_l1_4 (y1 : Int) (y3 : Int) (y4 : List (Int × (Int × Int))) (y6 : List Int) : Bool :=
  isT y3 (spec_l11Run_l1_a0 y1 y6) && inFs y3 y4

def spec_l11Run_l1_5 (y0 : Int) : Bool :=
  leI (0 : Int) y0

def spec_l11Run_l1_6 (y0 : Int) (y2 : List Int) : Bool :=
  ltI y0 (↑(List.length y2) : Int)

def spec_l11Run_l1_7 (y0 : Int) (y2 : List Int) : Bool :=
  ltN (Int.toNat y0) (List.length y2)

def spec_l11Run_l1_8 (y0 : Int) (y1 : Int) (y2 : List Int) (y3 : Int) (y4 : List (Int × (Int × Int))) (y6 : List Int) : Bool :=
  permOk y3 (spec_l11Run_l1_a0 y1 y6) (chanL y3 (spec_l11Run_l1_a0 y1 y6) y4 (0 : Int)) (chanL y3 (spec_l11Run_l1_a0 y1 y6) y4 (1 : Int))
  (spec_l11Run_l1_a1 y0 y2)

def spec_l11Run_l1_9 (y0 : Int) (y1 : Int) (y2 : List Int) (y3 : Int) (y4 : List (Int × (Int × Int))) (y6 : List Int) : Bool :=
  !permB y3 (spec_l11Run_l1_a0 y1 y6) (chanL y3 (spec_l11Run_l1_a0 y1 y6) y4 (0 : Int)) (chanL y3 (spec_l11Run_l1_a0 y1 y6) y4 (1 : Int))
    (spec_l11Run_l1_a1 y0 y2)

def spec_l11Run_l1_10 (y0 : Int) (y1 : Int) (y2 : List Int) (y3 : Int) (y6 : List Int) : Bool :=
  mvOk y3 (spec_l11Run_l1_a0 y1 y6) (spec_l11Run_l1_a1 y0 y2)

def spec_l11Run_l1_11 (y0 : Int) : Int :=
  IntKind.wrap IntKind.i64 (y0 + (1 : Int))

def spec_l11Run_l1_12 (y0 : Int) (y1 : Int) (y2 : List Int) (y3 : Int) (y6 : List Int) : List Int :=
  movL y3 (spec_l11Run_l1_a0 y1 y6) (spec_l11Run_l1_a1 y0 y2)

def JL_spec_l11Run_l1 : X_spec_l11Run_l1 → List (Nat × SV)
  | (y0, y1, _, _, _, _, _, _) => [(12, (.one ⟨false, [(.val (.int IntKind.i64 y0))]⟩)), (2, (.one ⟨false, [(.ref 0)]⟩)), (11, (.one ⟨false, [(.val (.int IntKind.i64 y1))]⟩)), (10, (.one ⟨false, [(.ptr 1 0)]⟩)), (1, (.one ⟨false, [(.ref 2)]⟩)), (6, (.one ⟨false, [(.ptr 3 0)]⟩))]

def JE_spec_l11Run_l1 : X_spec_l11Run_l1 → List (Nat × Entry)
  | (_, _, y2, y3, y4, y5, y6, y7) => [(0, (.row false 2 (CTy.int IntKind.i64) y2)), (1, (.box 26 [(.val (.int IntKind.i64 y3)), (.ref 4)])), (2, (.row false 118 (CTy.pair (CTy.int IntKind.i64) (CTy.pair (CTy.int IntKind.i64) (CTy.int IntKind.i64))) y4)), (3, (.box 26 [(.val (.int IntKind.i64 y5)), (.ref 5)])), (5, (.row true 2 (CTy.int IntKind.i64) y7)), (4, (.row true 2 (CTy.int IntKind.i64) y6))]

def XL_spec_l11Run_l1 : Nat → X_spec_l11Run_l1 → List (Nat × SV)
  | 0, (y0, y1, _, y3, _, _, y6, _) => [(11, (.one ⟨false, [(.val (.int IntKind.i64 (spec_l11Run_l1_2 y0 y1 y3 y6)))]⟩))]
  | 1, (_, _, _, _, _, _, _, _) => [(7, (.one ⟨false, [(.val (.int IntKind.i64 (0 : Int)))]⟩)), (8, (.one ⟨false, [(.val (.int IntKind.i64 (5 : Int)))]⟩))]
  | _, (_, y1, _, _, _, _, _, _) => [(11, (.one ⟨false, [(.val (.int IntKind.i64 y1))]⟩))]

def XE_spec_l11Run_l1 : Nat → X_spec_l11Run_l1 → List (Nat × Entry)
  | 0, (_, y1, y2, y3, y4, y5, y6, y7) => [(0, (.row false 2 (CTy.int IntKind.i64) y2)), (1, (.box 26 [(.val (.int IntKind.i64 y3)), (.ref 4)])), (2, (.row false 118 (CTy.pair (CTy.int IntKind.i64) (CTy.pair (CTy.int IntKind.i64) (CTy.int IntKind.i64))) y4)), (3, (.box 26 [(.val (.int IntKind.i64 y5)), (.ref 5)])), (4, (.row true 2 (CTy.int IntKind.i64) (spec_l11Run_l1_3 y1 y6))), (5, (.row true 2 (CTy.int IntKind.i64) y7))]
  | 1, (_, y1, y2, y3, y4, _, y6, y7) => [(0, (.row false 2 (CTy.int IntKind.i64) y2)), (1, (.box 26 [(.val (.int IntKind.i64 y3)), (.ref 4)])), (2, (.row false 118 (CTy.pair (CTy.int IntKind.i64) (CTy.pair (CTy.int IntKind.i64) (CTy.int IntKind.i64))) y4)), (3, (.box 26 [(.val (.int IntKind.i64 (0 : Int))), (.ref 6)])), (4, (.row true 2 (CTy.int IntKind.i64) (spec_l11Run_l1_3 y1 y6))), (5, (.row true 2 (CTy.int IntKind.i64) y7)), (6, (.row true 2 (CTy.int IntKind.i64) []))]
  | _, (_, _, y2, y3, y4, y5, y6, y7) => [(0, (.row false 2 (CTy.int IntKind.i64) y2)), (1, (.box 26 [(.val (.int IntKind.i64 y3)), (.ref 4)])), (2, (.row false 118 (CTy.pair (CTy.int IntKind.i64) (CTy.pair (CTy.int IntKind.i64) (CTy.int IntKind.i64))) y4)), (3, (.box 26 [(.val (.int IntKind.i64 y5)), (.ref 5)])), (4, (.row true 2 (CTy.int IntKind.i64) y6)), (5, (.row true 2 (CTy.int IntKind.i64) y7))]

def lt_spec_l11Run_l1 : X_spec_l11Run_l1 → LT X_spec_l11Run_l1
  | (y0, y1, y2, y3, y4, y5, y6, y7) => .ite (spec_l11Run_l1_0 y0 y2) (.ite (spec_l11Run_l1_1 y0 y2) (.ext 0 [(0, 0), (1, 1), (2, 2), (3, 3), (4, 4), (5, 5)]) (.need [(spec_l11Run_l1_4 y1 y3 y4 y6), (spec_l11Run_l1_5 y0), (spec_l11Run_l1_6 y0 y2), (spec_l11Run_l1_7 y0 y2), (spec_l11Run_l1_8 y0 y1 y2 y3 y4 y6)] (.ite (spec_l11Run_l1_9 y0 y1 y2 y3 y4 y6) (.ext 1 [(0, 0), (1, 1), (2, 2), (3, 3), (4, 4), (5, 5), (6, 1792)]) (.need [(spec_l11Run_l1_5 y0), (spec_l11Run_l1_6 y0 y2), (spec_l11Run_l1_7 y0 y2), (spec_l11Run_l1_10 y0 y1 y2 y3 y6)] (.nrm ((spec_l11Run_l1_11 y0), (spec_l11Run_l1_2 y0 y1 y3 y6), y2, y3, y4, y5, (spec_l11Run_l1_12 y0 y1 y2 y3 y6), y7) [(0, 0), (1, 1), (2, 2), (3, 3), (4, 2112), (5, 5)]))))) (.ext 2 [(0, 0), (1, 1), (2, 2), (3, 3), (4, 4), (5, 5)])

def rd_spec_l11Run_l1 (s : St) : Option X_spec_l11Run_l1 :=
  (match s.look 12 with
  | some ⟨none, (.one ⟨false, [(.val (.int IntKind.i64 y0))]⟩)⟩ =>
  (match s.look 2 with
  | some ⟨none, (.one ⟨false, [(.ref 2)]⟩)⟩ =>
  (match s.look 11 with
  | some ⟨none, (.one ⟨false, [(.val (.int IntKind.i64 y1))]⟩)⟩ =>
  (match s.look 10 with
  | some ⟨none, (.one ⟨false, [(.ptr 1920 0)]⟩)⟩ =>
  (match s.look 1 with
  | some ⟨none, (.one ⟨false, [(.ref 1)]⟩)⟩ =>
  (match s.look 6 with
  | some ⟨none, (.one ⟨false, [(.ptr 320 0)]⟩)⟩ =>
  (match s.ent 2 with
  | some (.row false 2 (CTy.int IntKind.i64) y2) =>
  (match s.ent 1920 with
  | some (.box 26 [(.val (.int IntKind.i64 y3)), (.ref 1792)]) =>
  (match s.ent 1 with
  | some (.row false 118 (CTy.pair (CTy.int IntKind.i64) (CTy.pair (CTy.int IntKind.i64) (CTy.int IntKind.i64))) y4) =>
  (match s.ent 320 with
  | some (.box 26 [(.val (.int IntKind.i64 y5)), (.ref 321)]) =>
  (match s.ent 321 with
  | some (.row true 2 (CTy.int IntKind.i64) y7) =>
  (match s.ent 1792 with
  | some (.row true 2 (CTy.int IntKind.i64) y6) =>
  some (y0, y1, y2, y3, y4, y5, y6, y7)
  | _ => none)
  | _ => none)
  | _ => none)
  | _ => none)
  | _ => none)
  | _ => none)
  | _ => none)
  | _ => none)
  | _ => none)
  | _ => none)
  | _ => none)
  | _ => none)

def lp_spec_l11Run_l1 : Lp X_spec_l11Run_l1 where
  h := ⟨[53, 54, 55, 56, 59, 60, 61, 62, 63, 64, 65, 66, 11, 67, 68, 69, 70, 71, 72, 73, 74, 75, 76, 77, 78, 79, 80, 81, 7, 8, 82, 83, 84, 85, 86, 87, 57, 58, 12], [0, 1, 2, 3, 5], [4], [6]⟩
  JL := JL_spec_l11Run_l1
  JE := JE_spec_l11Run_l1
  XL := XL_spec_l11Run_l1
  XE := XE_spec_l11Run_l1
  q := fun j => match j with | 0 => .exit 3 | 1 => .ret | _ => .exit 3
  tags := [0, 1, 2]
  lt := lt_spec_l11Run_l1
  fuel := fun (y0, y1, y2, y3, y4, y5, y6, y7) => y0.natAbs + y1.natAbs + y2.length + y3.natAbs + y4.length + y5.natAbs + y6.length + y7.length
  fix := fun (_, _, y2, y3, y4, y5, _, y7) (y0, y1, _, _, _, _, y6, _) => (y0, y1, y2, y3, y4, y5, y6, y7)
  σ := [(0, 2), (1, 1920), (2, 1), (3, 320), (5, 321), (4, 1792)]
  rd := rd_spec_l11Run_l1

theorem lpok_spec_l11Run_l1 : LoopOk Try.prog (fun k => Nat.blt k Try.f104.ntmps) lp_spec_l11Run_l1.F (loopAt Try.f104 1) := by
  refine Lp.ok (tbl := [n_spec_AreFaults, PF.lend n_spec_AreFaults, PF.fz n_spec_AreFaults, n_spec_l11Permits, PF.lend n_spec_l11Permits, PF.fz n_spec_l11Permits, n_spec_l11Report, PF.lend n_spec_l11Report, PF.fz n_spec_l11Report, n_spec_IsTraffic, PF.lend n_spec_IsTraffic, PF.fz n_spec_IsTraffic, n_spec_IsSafeTraffic, PF.lend n_spec_IsSafeTraffic, PF.fz n_spec_IsSafeTraffic, n_spec_l10Move, PF.lend n_spec_l10Move, PF.fz n_spec_l10Move, p_spec_l01In, n_spec_l01Own, PF.lend n_spec_l01Own, PF.fz n_spec_l01Own]) (lf := []) hmix lp_spec_l11Run_l1 (by kernel_rfl) (LOk.nil _) (fun _ => rfl) (fun j _ => by unfold lp_spec_l11Run_l1; match j with | 0 => rfl | 1 => rfl | _ + 2 => rfl) ?_ ?_ ?_ ?_ (fun _ => rfl) ?_
  · intro x; obtain ⟨y0, y1, y2, y3, y4, y5, y6, y7⟩ := x; kernel_rfl
  · intro x; obtain ⟨y0, y1, y2, y3, y4, y5, y6, y7⟩ := x; kernel_rfl
  · intro s x h
    have h : rd_spec_l11Run_l1 s = some x := h
    unfold rd_spec_l11Run_l1 at h
    repeat' split at h
    all_goals cases h
    exact ⟨absS_cons (by assumption) rfl (absS_cons (by assumption) rfl (absS_cons (by assumption) rfl (absS_cons (by assumption) rfl (absS_cons (by assumption) rfl (absS_cons (by assumption) rfl (rfl)))))), absE_cons rfl (by assumption) rfl (absE_cons rfl (by assumption) rfl (absE_cons rfl (by assumption) rfl (absE_cons rfl (by assumption) rfl (absE_cons rfl (by assumption) rfl (absE_cons rfl (by assumption) rfl (rfl))))))⟩
  · intro x; obtain ⟨y0, y1, y2, y3, y4, y5, y6, y7⟩ := x; kernel_rfl
  · intro x z; obtain ⟨y0, y1, y2, y3, y4, y5, y6, y7⟩ := x; exact (And.intro (And.intro trivial (And.intro trivial rfl)) trivial)

def spec_l11Run_a0 (x0 : Int) (x2 : List (Int × Int × Int)) : Bool :=
  !(inR x0 (2 : Int) (8 : Int) && okFs x0 x2)

def spec_l11Run_a1 (x1 : List Int) : Int × List Int × List Int :=
  ((0 : Int), x1, [])

def spec_l11Run_a2 (x0 : Int) (x1 : List Int) (x3 : List Int) : Int × List Int × Int × Int × List Int × List Int :=
  ((0 : Int), x3, x0, spec_l11Run_a1 x1)

def spec_l11Run_a3 (x0 : Int) (x1 : List Int) (x3 : List Int) : Bool :=
  Nat.beq (Prod.fst (Lp.res lp_spec_l11Run_l0 (spec_l11Run_a2 x0 x1 x3))) (0 : Nat)

def spec_l11Run_a4 (x0 : Int) (x1 : List Int) (x2 : List (Int × Int × Int)) (x3 : List Int) : Int × Int × List Int × Int × List (Int × Int × Int) × Int × List Int × List Int :=
  ((0 : Int), (-1 : Int), x3, x0, x2, spec_l11Run_a1 x1)

def spec_l11Run_a5 (x0 : Int) (x1 : List Int) (x2 : List (Int × Int × Int)) (x3 : List Int) : Bool :=
  Nat.beq (Prod.fst (Lp.res lp_spec_l11Run_l1 (spec_l11Run_a4 x0 x1 x2 x3))) (0 : Nat)

def spec_l11Run_a6 (x0 : Int) (x1 : List Int) (x2 : List (Int × Int × Int)) (x3 : List Int) : Bool :=
  Nat.beq (Prod.fst (Lp.res lp_spec_l11Run_l1 (spec_l11Run_a4 x0 x1 x2 x3))) (1 : Nat)

def spec_l11Run_a7 (x0 : Int) (x1 : List Int) (x2 : List (Int × Int × Int)) (x3 : List Int) : Int × List Int × Int × List (Int × Int × Int) × Int × List Int × List Int :=
  Prod.snd (Prod.snd (Lp.res lp_spec_l11Run_l1 (spec_l11Run_a4 x0 x1 x2 x3)))

def spec_l11Run_a8 (x0 : Int) (x1 : List Int) (x2 : List (Int × Int × Int)) (x3 : List Int) : Int :=
  Prod.fst (spec_l11Run_a7 x0 x1 x2 x3)

def spec_l11Run_a9 (x0 : Int) (x1 : List Int) (x2 : List (Int × Int × Int)) (x3 : List Int) : List Int :=
  Prod.fst (Prod.snd (Prod.snd (Prod.snd (Prod.snd (Prod.snd (spec_l11Run_a7 x0 x1 x2 x3))))))

def spec_l11Run_0 (x0 : Int) (x1 : List Int) (x2 : List (Int × Int × Int)) (x3 : List Int) : Int :=
  bif !isT x0 x1 then (0 : Int)
  else
  bif ltI (200 : Int) (↑(List.length x3) : Int) then (0 : Int)
  else
    bif spec_l11Run_a0 x0 x2 then (0 : Int)
    else
      bif spec_l11Run_a3 x0 x1 x3 then (0 : Int)
      else bif spec_l11Run_a5 x0 x1 x2 x3 then x0 else bif spec_l11Run_a6 x0 x1 x2 x3 then (0 : Int) else x0

def spec_l11Run_1 (x0 : Int) (x1 : List Int) (x2 : List (Int × Int × Int)) (x3 : List Int) : Int :=
  bif !isT x0 x1 then (0 : Int)
  else
  bif ltI (200 : Int) (↑(List.length x3) : Int) then (0 : Int)
  else
    bif spec_l11Run_a0 x0 x2 then (0 : Int)
    else
      bif spec_l11Run_a3 x0 x1 x3 then (0 : Int)
      else
        bif spec_l11Run_a5 x0 x1 x2 x3 then
          spec_l11Run_l1_2 (Prod.fst (Prod.snd (Lp.res lp_spec_l11Run_l1 (spec_l11Run_a4 x0 x1 x2 x3)))) (spec_l11Run_a8 x0 x1 x2 x3) x0
            (spec_l11Run_a9 x0 x1 x2 x3)
        else bif spec_l11Run_a6 x0 x1 x2 x3 then (0 : Int) else spec_l11Run_a8 x0 x1 x2 x3

def spec_l11Run_2 (x0 : Int) (x1 : List Int) (x2 : List (Int × Int × Int)) (x3 : List Int) : Int :=
  bif !isT x0 x1 then (1 : Int)
  else
  bif ltI (200 : Int) (↑(List.length x3) : Int) then (3 : Int)
  else
    bif spec_l11Run_a0 x0 x2 then (2 : Int)
    else
      bif spec_l11Run_a3 x0 x1 x3 then (2 : Int)
      else bif spec_l11Run_a5 x0 x1 x2 x3 then (0 : Int) else bif spec_l11Run_a6 x0 x1 x2 x3 then (5 : Int) else (0 : Int)

def spec_l11Run_3 (x0 : Int) (x1 : List Int) (x2 : List (Int × Int × Int)) (x3 : List Int) : List Int :=
  bif !isT x0 x1 then []
  else
  bif ltI (200 : Int) (↑(List.length x3) : Int) then []
  else
    bif spec_l11Run_a0 x0 x2 then []
    else
      bif spec_l11Run_a3 x0 x1 x3 then []
      else
        bif spec_l11Run_a5 x0 x1 x2 x3 then spec_l11Run_l1_3 (spec_l11Run_a8 x0 x1 x2 x3) (spec_l11Run_a9 x0 x1 x2 x3)
        else bif spec_l11Run_a6 x0 x1 x2 x3 then [] else spec_l11Run_a9 x0 x1 x2 x3

def spec_l11Run_4 (x0 : Int) (x1 : List Int) (x2 : List (Int × Int × Int)) (x3 : List Int) : Bool :=
  allT
  [!isT x0 x1 || (ltI (200 : Int) (↑(List.length x3) : Int) || leN (List.length x2) (9223372036854775807 : Nat)),
    !isT x0 x1 || (ltI (200 : Int) (↑(List.length x3) : Int) || (spec_l11Run_a0 x0 x2 || Lp.fin lp_spec_l11Run_l0 (spec_l11Run_a2 x0 x1 x3))),
    !isT x0 x1 ||
      (ltI (200 : Int) (↑(List.length x3) : Int) || (spec_l11Run_a0 x0 x2 || (spec_l11Run_a3 x0 x1 x3 || leN (List.length x1) (1048576 : Nat)))),
    !isT x0 x1 ||
      (ltI (200 : Int) (↑(List.length x3) : Int) ||
        (spec_l11Run_a0 x0 x2 || (spec_l11Run_a3 x0 x1 x3 || Lp.fin lp_spec_l11Run_l1 (spec_l11Run_a4 x0 x1 x2 x3))))]

def F_spec_l11Run : List SV → List Entry → Option Out
  | [.one ⟨true, [.val (.int .i64 x0), .ref 0]⟩, .one ⟨false, [.ref 1]⟩, .one ⟨false, [.ref 2]⟩], [.row false 2 (.int .i64) x1, .row false 118 (.pair (.int .i64) (.pair (.int .i64) (.int .i64))) x2, .row false 2 (.int .i64) x3] => some ⟨(.tup [⟨true, [(.val (.int IntKind.i64 (spec_l11Run_0 x0 x1 x2 x3))), (.ref 3)]⟩, ⟨false, [(.val (.int IntKind.i64 (spec_l11Run_1 x0 x1 x2 x3)))]⟩, ⟨false, [(.val (.int IntKind.i64 (spec_l11Run_2 x0 x1 x2 x3)))]⟩]), [(.row false 2 (CTy.int IntKind.i64) x1), (.row false 118 (CTy.pair (CTy.int IntKind.i64) (CTy.pair (CTy.int IntKind.i64) (CTy.int IntKind.i64))) x2), (.row false 2 (CTy.int IntKind.i64) x3)], [(.row true 2 (CTy.int IntKind.i64) (spec_l11Run_3 x0 x1 x2 x3))], [(spec_l11Run_4 x0 x1 x2 x3)]⟩
  | _, _ => none

def p_spec_l11Run : PF Try.prog := PF.ofG Try.prog [n_spec_AreFaults, PF.lend n_spec_AreFaults, PF.fz n_spec_AreFaults, n_spec_l11Permits, PF.lend n_spec_l11Permits, PF.fz n_spec_l11Permits, n_spec_l11Report, PF.lend n_spec_l11Report, PF.fz n_spec_l11Report, n_spec_IsTraffic, PF.lend n_spec_IsTraffic, PF.fz n_spec_IsTraffic, n_spec_IsSafeTraffic, PF.lend n_spec_IsSafeTraffic, PF.fz n_spec_IsSafeTraffic, n_spec_l10Move, PF.lend n_spec_l10Move, PF.fz n_spec_l10Move, p_spec_l01In, n_spec_l01Own, PF.lend n_spec_l01Own, PF.fz n_spec_l01Own] [lp_spec_l11Run_l0.F, lp_spec_l11Run_l1.F] hmix 104 Try.f104 Try.func104 (LOk.fnT (l := [loopAt Try.f104 0, loopAt Try.f104 1]) (by kernel_rfl) (.cons lpok_spec_l11Run_l0 (.cons lpok_spec_l11Run_l1 (.nil _)))) F_spec_l11Run (by
  intro vs es r h; unfold F_spec_l11Run at h; split at h
  · cases h; kernel_rfl
  · cases h)

abbrev X_impl_controlled_l0 := Int × Int × List Int × Int × List (Int × (Int × Int)) × List (Int × (List Int)) × List Int

def impl_controlled_l0_a0 (y0 : Int) (y2 : List Int) : Int :=
  Option.getD y2[Int.toNat y0]? (0 : Int)

def impl_controlled_l0_a1 (y0 : Int) (y2 : List Int) (y3 : Int) (y6 : List Int) : List (Int × List Int) :=
  [(y3, movL y3 y6 (impl_controlled_l0_a0 y0 y2))]

def impl_controlled_l0_0 (y0 : Int) (y1 : Int) : Bool :=
  ltI y0 y1

def impl_controlled_l0_1 (y0 : Int) : Bool :=
  leI (0 : Int) y0

def impl_controlled_l0_2 (y0 : Int) (y2 : List Int) : Bool :=
  ltI y0 (↑(List.length y2) : Int)

def impl_controlled_l0_3 (y0 : Int) (y2 : List Int) : Bool :=
  ltN (Int.toNat y0) (List.length y2)

def impl_controlled_l0_4 (y3 : Int) (y4 : List (Int × (Int × Int))) (y6 : List Int) : Bool :=
  isT y3 y6 && inFs y3 y4

def impl_controlled_l0_5 (y0 : Int) (y2 : List Int) (y3 : Int) (y4 : List (Int × (Int × Int))) (y6 : List Int) : Bool :=
  permOk y3 y6 (chanL y3 y6 y4 (0 : Int)) (chanL y3 y6 y4 (1 : Int)) (impl_controlled_l0_a0 y0 y2)

def impl_controlled_l0_6 (y0 : Int) (y2 : List Int) (y3 : Int) (y4 : List (Int × (Int × Int))) (y6 : List Int) : Bool :=
  !permB y3 y6 (chanL y3 y6 y4 (0 : Int)) (chanL y3 y6 y4 (1 : Int)) (impl_controlled_l0_a0 y0 y2)

def impl_controlled_l0_7 (y0 : Int) (y2 : List Int) (y3 : Int) (y6 : List Int) : Bool :=
  mvOk y3 y6 (impl_controlled_l0_a0 y0 y2)

def impl_controlled_l0_8 (y0 : Int) (y2 : List Int) (y3 : Int) (y5 : List (Int × (List Int))) (y6 : List Int) : Bool :=
  leN (List.length y5 + List.length (impl_controlled_l0_a1 y0 y2 y3 y6)) (9223372036854775807 : Nat)

def impl_controlled_l0_9 (y0 : Int) (y2 : List Int) (y3 : Int) (y5 : List (Int × (List Int))) (y6 : List Int) : Bool :=
  leN ((List.length y5 + List.length (impl_controlled_l0_a1 y0 y2 y3 y6)) * (32 : Nat)) (140737488355328 : Nat)

def impl_controlled_l0_10 (y0 : Int) : Int :=
  IntKind.wrap IntKind.i64 (y0 + (1 : Int))

def impl_controlled_l0_11 (y0 : Int) (y2 : List Int) (y3 : Int) (y5 : List (Int × (List Int))) (y6 : List Int) : List (Int × (List Int)) :=
  y5 ++ impl_controlled_l0_a1 y0 y2 y3 y6

def impl_controlled_l0_12 (y0 : Int) (y2 : List Int) (y3 : Int) (y6 : List Int) : List Int :=
  movL y3 y6 (impl_controlled_l0_a0 y0 y2)

def JL_impl_controlled_l0 : X_impl_controlled_l0 → List (Nat × SV)
  | (y0, y1, _, _, _, _, _) => [(38, (.one ⟨false, [(.val (.int IntKind.i64 y0))]⟩)), (37, (.one ⟨false, [(.val (.int IntKind.i64 y1))]⟩)), (36, (.one ⟨false, [(.ref 0)]⟩)), (3, (.one ⟨false, [(.ptr 1 0)]⟩)), (1, (.one ⟨false, [(.ref 2)]⟩)), (9, (.one ⟨false, [(.ref 3)]⟩))]

def JE_impl_controlled_l0 : X_impl_controlled_l0 → List (Nat × Entry)
  | (_, _, y2, y3, y4, y5, y6) => [(0, (.row false 2 (CTy.int IntKind.i64) y2)), (1, (.box 26 [(.val (.int IntKind.i64 y3)), (.ref 4)])), (2, (.row false 118 (CTy.pair (CTy.int IntKind.i64) (CTy.pair (CTy.int IntKind.i64) (CTy.int IntKind.i64))) y4)), (3, (.row true 26 (CTy.pair (CTy.int IntKind.i64) (CTy.sl (2 : Nat) (CTy.int IntKind.i64))) y5)), (4, (.row false 2 (CTy.int IntKind.i64) y6))]

def XL_impl_controlled_l0 : Nat → X_impl_controlled_l0 → List (Nat × SV)
  | 0, (_, _, _, _, _, _, _) => [(6, (.one ⟨false, [(.ref 5)]⟩)), (7, (.one ⟨false, [(.val (.int IntKind.i64 (5 : Int)))]⟩))]
  | _, (_, _, _, _, _, _, _) => [(9, (.one ⟨false, [(.ref 3)]⟩))]

def XE_impl_controlled_l0 : Nat → X_impl_controlled_l0 → List (Nat × Entry)
  | 0, (_, _, y2, y3, y4, y5, y6) => [(0, (.row false 2 (CTy.int IntKind.i64) y2)), (1, (.box 26 [(.val (.int IntKind.i64 y3)), (.ref 4)])), (2, (.row false 118 (CTy.pair (CTy.int IntKind.i64) (CTy.pair (CTy.int IntKind.i64) (CTy.int IntKind.i64))) y4)), (3, (.row true 26 (CTy.pair (CTy.int IntKind.i64) (CTy.sl (2 : Nat) (CTy.int IntKind.i64))) y5)), (4, (.row false 2 (CTy.int IntKind.i64) y6)), (5, (.row true 26 (CTy.pair (CTy.int IntKind.i64) (CTy.sl (2 : Nat) (CTy.int IntKind.i64))) []))]
  | _, (_, _, y2, y3, y4, y5, y6) => [(0, (.row false 2 (CTy.int IntKind.i64) y2)), (1, (.box 26 [(.val (.int IntKind.i64 y3)), (.ref 4)])), (2, (.row false 118 (CTy.pair (CTy.int IntKind.i64) (CTy.pair (CTy.int IntKind.i64) (CTy.int IntKind.i64))) y4)), (3, (.row true 26 (CTy.pair (CTy.int IntKind.i64) (CTy.sl (2 : Nat) (CTy.int IntKind.i64))) y5)), (4, (.row false 2 (CTy.int IntKind.i64) y6))]

def lt_impl_controlled_l0 : X_impl_controlled_l0 → LT X_impl_controlled_l0
  | (y0, y1, y2, y3, y4, y5, y6) => .ite (impl_controlled_l0_0 y0 y1) (.need [(impl_controlled_l0_1 y0), (impl_controlled_l0_2 y0 y2), (impl_controlled_l0_3 y0 y2)] (.need [(impl_controlled_l0_4 y3 y4 y6), (impl_controlled_l0_5 y0 y2 y3 y4 y6)] (.ite (impl_controlled_l0_6 y0 y2 y3 y4 y6) (.ext 0 [(0, 0), (1, 1), (2, 2), (3, 3), (4, 4), (5, 768)]) (.need [(impl_controlled_l0_7 y0 y2 y3 y6)] (.need [(impl_controlled_l0_8 y0 y2 y3 y5 y6), (impl_controlled_l0_9 y0 y2 y3 y5 y6)] (.nrm ((impl_controlled_l0_10 y0), y1, y2, y3, y4, (impl_controlled_l0_11 y0 y2 y3 y5 y6), (impl_controlled_l0_12 y0 y2 y3 y6)) [(0, 0), (1, 1), (2, 2), (3, 1216), (4, 896)])))))) (.ext 1 [(0, 0), (1, 1), (2, 2), (3, 3), (4, 4)])

def rd_impl_controlled_l0 (s : St) : Option X_impl_controlled_l0 :=
  (match s.look 38 with
  | some ⟨none, (.one ⟨false, [(.val (.int IntKind.i64 y0))]⟩)⟩ =>
  (match s.look 37 with
  | some ⟨none, (.one ⟨false, [(.val (.int IntKind.i64 y1))]⟩)⟩ =>
  (match s.look 36 with
  | some ⟨none, (.one ⟨false, [(.ref 2)]⟩)⟩ =>
  (match s.look 3 with
  | some ⟨none, (.one ⟨false, [(.ptr 256 0)]⟩)⟩ =>
  (match s.look 1 with
  | some ⟨none, (.one ⟨false, [(.ref 1)]⟩)⟩ =>
  (match s.look 9 with
  | some ⟨none, (.one ⟨false, [(.ref 1920)]⟩)⟩ =>
  (match s.ent 2 with
  | some (.row false 2 (CTy.int IntKind.i64) y2) =>
  (match s.ent 256 with
  | some (.box 26 [(.val (.int IntKind.i64 y3)), (.ref 0)]) =>
  (match s.ent 1 with
  | some (.row false 118 (CTy.pair (CTy.int IntKind.i64) (CTy.pair (CTy.int IntKind.i64) (CTy.int IntKind.i64))) y4) =>
  (match s.ent 1920 with
  | some (.row true 26 (CTy.pair (CTy.int IntKind.i64) (CTy.sl (2 : Nat) (CTy.int IntKind.i64))) y5) =>
  (match s.ent 0 with
  | some (.row false 2 (CTy.int IntKind.i64) y6) =>
  some (y0, y1, y2, y3, y4, y5, y6)
  | _ => none)
  | _ => none)
  | _ => none)
  | _ => none)
  | _ => none)
  | _ => none)
  | _ => none)
  | _ => none)
  | _ => none)
  | _ => none)
  | _ => none)

def lp_impl_controlled_l0 : Lp X_impl_controlled_l0 where
  h := ⟨[39, 40, 41, 11, 42, 43, 44, 45, 46, 47, 48, 6, 7, 49, 50, 51, 52, 53, 54, 55, 9, 56, 38], [0, 1, 2], [3, 4], [5]⟩
  JL := JL_impl_controlled_l0
  JE := JE_impl_controlled_l0
  XL := XL_impl_controlled_l0
  XE := XE_impl_controlled_l0
  q := fun j => match j with | 0 => .ret | _ => .exit 1
  tags := [0, 1]
  lt := lt_impl_controlled_l0
  fuel := fun (y0, y1, y2, y3, y4, y5, y6) => y0.natAbs + y1.natAbs + y2.length + y3.natAbs + y4.length + y5.length + y6.length
  fix := fun (_, y1, y2, y3, y4, _, _) (y0, _, _, _, _, y5, y6) => (y0, y1, y2, y3, y4, y5, y6)
  σ := [(0, 2), (1, 256), (2, 1), (3, 1920), (4, 0)]
  rd := rd_impl_controlled_l0

theorem lpok_impl_controlled_l0 : LoopOk Try.prog (fun k => Nat.blt k Try.f106.ntmps) lp_impl_controlled_l0.F (loopAt Try.f106 0) := by
  refine Lp.ok (tbl := [n_impl_areFaults, PF.lend n_impl_areFaults, PF.fz n_impl_areFaults, n_impl_reportOf, PF.lend n_impl_reportOf, PF.fz n_impl_reportOf, n_loop_example_g00916_impl_Report_permits, PF.lend n_loop_example_g00916_impl_Report_permits, PF.fz n_loop_example_g00916_impl_Report_permits, n_loop_example_g00916_impl_Traffic_moved, PF.lend n_loop_example_g00916_impl_Traffic_moved, PF.fz n_loop_example_g00916_impl_Traffic_moved, n_impl_movesCode, PF.lend n_impl_movesCode, PF.fz n_impl_movesCode, p_loop_example_g00916_impl_Traffic_clone, PF.lend p_loop_example_g00916_impl_Traffic_clone, PF.fz p_loop_example_g00916_impl_Traffic_clone]) (lf := []) hmix lp_impl_controlled_l0 (by kernel_rfl) (LOk.nil _) (fun _ => rfl) (fun j _ => by unfold lp_impl_controlled_l0; match j with | 0 => rfl | _ + 1 => rfl) ?_ ?_ ?_ ?_ (fun _ => rfl) ?_
  · intro x; obtain ⟨y0, y1, y2, y3, y4, y5, y6⟩ := x; kernel_rfl
  · intro x; obtain ⟨y0, y1, y2, y3, y4, y5, y6⟩ := x; kernel_rfl
  · intro s x h
    have h : rd_impl_controlled_l0 s = some x := h
    unfold rd_impl_controlled_l0 at h
    repeat' split at h
    all_goals cases h
    exact ⟨absS_cons (by assumption) rfl (absS_cons (by assumption) rfl (absS_cons (by assumption) rfl (absS_cons (by assumption) rfl (absS_cons (by assumption) rfl (absS_cons (by assumption) rfl (rfl)))))), absE_cons rfl (by assumption) rfl (absE_cons rfl (by assumption) rfl (absE_cons rfl (by assumption) rfl (absE_cons rfl (by assumption) rfl (absE_cons rfl (by assumption) rfl (rfl)))))⟩
  · intro x; obtain ⟨y0, y1, y2, y3, y4, y5, y6⟩ := x; kernel_rfl
  · intro x z; obtain ⟨y0, y1, y2, y3, y4, y5, y6⟩ := x; exact (And.intro (And.intro trivial rfl) trivial)

def impl_controlled_a0 (x0 : Int) (x1 : List Int) (x3 : List Int) : Bool :=
  bif mcCode x0 x1 x3 == (1 : Int) then true else mcCode x0 x1 x3 == (3 : Int)

def impl_controlled_a1 (x0 : Int) (x1 : List Int) (x3 : List Int) : Bool :=
  mcCode x0 x1 x3 != (0 : Int)

def impl_controlled_a2 (x0 : Int) (x1 : List Int) (x2 : List (Int × Int × Int)) (x3 : List Int) : Int × Int × List Int × Int × List (Int × Int × Int) × List (Int × List Int) × List Int :=
  ((0 : Int), (↑(List.length x3) : Int), x3, x0, x2, [(x0, x1)], x1)

def impl_controlled_a3 (x0 : Int) (x1 : List Int) (x2 : List (Int × Int × Int)) (x3 : List Int) : Bool :=
  Nat.beq (Prod.fst (Lp.res lp_impl_controlled_l0 (impl_controlled_a2 x0 x1 x2 x3))) (0 : Nat)

def impl_controlled_0 (x0 : Int) (x1 : List Int) (x2 : List (Int × Int × Int)) (x3 : List Int) : Int :=
  bif impl_controlled_a0 x0 x1 x3 then mcCode x0 x1 x3
  else
  bif bif impl_controlled_a1 x0 x1 x3 then true else !okFs x0 x2 then (2 : Int) else bif impl_controlled_a3 x0 x1 x2 x3 then (5 : Int) else (0 : Int)

def impl_controlled_1 (x0 : Int) (x1 : List Int) (x2 : List (Int × Int × Int)) (x3 : List Int) : List (Int × (List Int)) :=
  bif impl_controlled_a0 x0 x1 x3 then []
  else
  bif bif impl_controlled_a1 x0 x1 x3 then true else !okFs x0 x2 then []
  else
    bif impl_controlled_a3 x0 x1 x2 x3 then []
    else Prod.fst (Prod.snd (Prod.snd (Prod.snd (Prod.snd (Prod.snd (Prod.snd (Lp.res lp_impl_controlled_l0 (impl_controlled_a2 x0 x1 x2 x3))))))))

def impl_controlled_2 (x0 : Int) (x1 : List Int) (x2 : List (Int × Int × Int)) (x3 : List Int) : Bool :=
  allT
  [impl_controlled_a0 x0 x1 x3 || (!(!impl_controlled_a1 x0 x1 x3 && true) || leN (List.length x2) (9223372036854775807 : Nat)),
    impl_controlled_a0 x0 x1 x3 || ((bif impl_controlled_a1 x0 x1 x3 then true else !okFs x0 x2) || loop_example_g00916_impl_Traffic_clone_0 x1),
    impl_controlled_a0 x0 x1 x3 ||
      ((bif impl_controlled_a1 x0 x1 x3 then true else !okFs x0 x2) || Lp.fin lp_impl_controlled_l0 (impl_controlled_a2 x0 x1 x2 x3))]

def F_impl_controlled : List SV → List Entry → Option Out
  | [.one ⟨true, [.val (.int .i64 x0), .ref 0]⟩, .one ⟨false, [.ref 1]⟩, .one ⟨false, [.ref 2]⟩], [.row false 2 (.int .i64) x1, .row false 118 (.pair (.int .i64) (.pair (.int .i64) (.int .i64))) x2, .row false 2 (.int .i64) x3] => some ⟨(.tup [⟨false, [(.ref 3)]⟩, ⟨false, [(.val (.int IntKind.i64 (impl_controlled_0 x0 x1 x2 x3)))]⟩]), [(.row false 2 (CTy.int IntKind.i64) x1), (.row false 118 (CTy.pair (CTy.int IntKind.i64) (CTy.pair (CTy.int IntKind.i64) (CTy.int IntKind.i64))) x2), (.row false 2 (CTy.int IntKind.i64) x3)], [(.row true 26 (CTy.pair (CTy.int IntKind.i64) (CTy.sl (2 : Nat) (CTy.int IntKind.i64))) (impl_controlled_1 x0 x1 x2 x3))], [(impl_controlled_2 x0 x1 x2 x3)]⟩
  | _, _ => none

def p_impl_controlled : PF Try.prog := PF.ofG Try.prog [n_impl_areFaults, PF.lend n_impl_areFaults, PF.fz n_impl_areFaults, n_impl_reportOf, PF.lend n_impl_reportOf, PF.fz n_impl_reportOf, n_loop_example_g00916_impl_Report_permits, PF.lend n_loop_example_g00916_impl_Report_permits, PF.fz n_loop_example_g00916_impl_Report_permits, n_loop_example_g00916_impl_Traffic_moved, PF.lend n_loop_example_g00916_impl_Traffic_moved, PF.fz n_loop_example_g00916_impl_Traffic_moved, n_impl_movesCode, PF.lend n_impl_movesCode, PF.fz n_impl_movesCode, p_loop_example_g00916_impl_Traffic_clone, PF.lend p_loop_example_g00916_impl_Traffic_clone, PF.fz p_loop_example_g00916_impl_Traffic_clone] [lp_impl_controlled_l0.F] hmix 106 Try.f106 Try.func106 (LOk.fnT (l := [loopAt Try.f106 0]) (by kernel_rfl) (.cons lpok_impl_controlled_l0 (.nil _))) F_impl_controlled (by
  intro vs es r h; unfold F_impl_controlled at h; split at h
  · cases h; kernel_rfl
  · cases h)

end Go.SX

/- What functions of the program come to, row by row (made by a program of the workplace). -/
import Derived.Test.YtjncnnpdaeociaaTXh
import Derived.Test.YtjncnnpdaeociaaProg
import Derived.Test.YtjncnnpdaeociaaNp
namespace Go.SX
open Go.Proofs
set_option maxRecDepth 100000

abbrev X_spec_l25Run_l0 := Int × Int × List (Int × (Int × Int)) × Int × List Int × Int × List Int × List Int

def spec_l25Run_l0_a0 (y1 : Int) (y6 : List Int) : List Int :=
  bif ltI y1 (0 : Int) && true then y6 else y6

def spec_l25Run_l0_a1 (y0 : Int) (y2 : List (Int × (Int × Int))) : Int × Int × Int :=
  Option.getD y2[Int.toNat y0]? ((0 : Int), (0 : Int), (0 : Int))

def spec_l25Run_l0_a2 (y0 : Int) (y2 : List (Int × (Int × Int))) : Bool :=
  Prod.fst (spec_l25Run_l0_a1 y0 y2) == (1 : Int)

def spec_l25Run_l0_a3 (y0 : Int) (y2 : List (Int × (Int × Int))) : Bool :=
  leI (0 : Int) (Prod.fst (Prod.snd (spec_l25Run_l0_a1 y0 y2)))

def spec_l25Run_l0_a4 (y0 : Int) (y2 : List (Int × (Int × Int))) (y4 : List Int) : Bool :=
  ltI (Prod.fst (Prod.snd (spec_l25Run_l0_a1 y0 y2))) (↑(List.length y4) : Int)

def spec_l25Run_l0_a5 (y0 : Int) (y2 : List (Int × (Int × Int))) (y4 : List Int) : Bool :=
  ltN (Int.toNat (Prod.fst (Prod.snd (spec_l25Run_l0_a1 y0 y2)))) (List.length y4)

def spec_l25Run_l0_0 (y0 : Int) (y2 : List (Int × (Int × Int))) : Bool :=
  leI y0 (↑(List.length y2) : Int)

def spec_l25Run_l0_1 (y0 : Int) (y2 : List (Int × (Int × Int))) : Bool :=
  y0 == (↑(List.length y2) : Int)

def spec_l25Run_l0_2 (y0 : Int) (y1 : Int) (y3 : Int) (y6 : List Int) : Int :=
  bif bif ltI y1 (0 : Int) then !isSf y3 y6 else false then y0 else y1

def spec_l25Run_l0_3 (y1 : Int) (y6 : List Int) : List Int :=
  spec_l25Run_l0_a0 y1 y6

def spec_l25Run_l0_4 (y0 : Int) : Bool :=
  leI (0 : Int) y0

def spec_l25Run_l0_5 (y0 : Int) (y2 : List (Int × (Int × Int))) : Bool :=
  ltI y0 (↑(List.length y2) : Int)

def spec_l25Run_l0_6 (y0 : Int) (y2 : List (Int × (Int × Int))) : Bool :=
  ltN (Int.toNat y0) (List.length y2)

def spec_l25Run_l0_7 (y0 : Int) (y2 : List (Int × (Int × Int))) : Bool :=
  !spec_l25Run_l0_a2 y0 y2 || spec_l25Run_l0_a3 y0 y2

def spec_l25Run_l0_8 (y0 : Int) (y2 : List (Int × (Int × Int))) (y4 : List Int) : Bool :=
  !spec_l25Run_l0_a2 y0 y2 || spec_l25Run_l0_a4 y0 y2 y4

def spec_l25Run_l0_9 (y0 : Int) (y2 : List (Int × (Int × Int))) (y4 : List Int) : Bool :=
  !spec_l25Run_l0_a2 y0 y2 || spec_l25Run_l0_a5 y0 y2 y4

def spec_l25Run_l0_10 (y0 : Int) (y2 : List (Int × (Int × Int))) : Bool :=
  spec_l25Run_l0_a2 y0 y2

def spec_l25Run_l0_11 (y0 : Int) (y2 : List (Int × (Int × Int))) (y4 : List Int) : Bool :=
  Option.getD y4[Int.toNat (Prod.fst (Prod.snd (spec_l25Run_l0_a1 y0 y2)))]? (0 : Int) !=
  bif Prod.snd (Prod.snd (spec_l25Run_l0_a1 y0 y2)) == (3 : Int) then (1 : Int) else (0 : Int)

def spec_l25Run_l0_12 (y0 : Int) (y2 : List (Int × (Int × Int))) : Bool :=
  spec_l25Run_l0_a3 y0 y2

def spec_l25Run_l0_13 (y0 : Int) (y2 : List (Int × (Int × Int))) (y4 : List Int) : Bool :=
  spec_l25Run_l0_a4 y0 y2 y4

def spec_l25Run_l0_14 (y0 : Int) (y2 : List (Int × (Int × Int))) (y4 : List Int) : Bool :=
  spec_l25Run_l0_a5 y0 y2 y4

def spec_l25Run_l0_15 (y0 : Int) : Int :=
  IntKind.wrap IntKind.i64 (y0 + (1 : Int))

def spec_l25Run_l0_16 (y0 : Int) (y2 : List (Int × (Int × Int))) (y4 : List Int) : List Int :=
  List.set y4 (Int.toNat (Prod.fst (Prod.snd (spec_l25Run_l0_a1 y0 y2)))) (Prod.snd (Prod.snd (spec_l25Run_l0_a1 y0 y2)))

def spec_l25Run_l0_17 (y4 : List Int) : Bool :=
  leN (List.length y4) (1000 : Nat)

def spec_l25Run_l0_18 (y1 : Int) (y3 : Int) (y4 : List Int) (y6 : List Int) : Bool :=
  isT y3 (spec_l25Run_l0_a0 y1 y6) && inFs y3 (flS y4)

def spec_l25Run_l0_19 (y0 : Int) (y1 : Int) (y2 : List (Int × (Int × Int))) (y3 : Int) (y4 : List Int) (y6 : List Int) : Bool :=
  permOk y3 (spec_l25Run_l0_a0 y1 y6) (chanL y3 (spec_l25Run_l0_a0 y1 y6) (flS y4) (0 : Int)) (chanL y3 (spec_l25Run_l0_a0 y1 y6) (flS y4) (1 : Int))
  (Prod.fst (Prod.snd (spec_l25Run_l0_a1 y0 y2)))

def spec_l25Run_l0_20 (y0 : Int) (y1 : Int) (y2 : List (Int × (Int × Int))) (y3 : Int) (y4 : List Int) (y6 : List Int) : Bool :=
  !permB y3 (spec_l25Run_l0_a0 y1 y6) (chanL y3 (spec_l25Run_l0_a0 y1 y6) (flS y4) (0 : Int)) (chanL y3 (spec_l25Run_l0_a0 y1 y6) (flS y4) (1 : Int))
    (Prod.fst (Prod.snd (spec_l25Run_l0_a1 y0 y2)))

def spec_l25Run_l0_21 (y0 : Int) (y1 : Int) (y2 : List (Int × (Int × Int))) (y3 : Int) (y6 : List Int) : Bool :=
  mvOk y3 (spec_l25Run_l0_a0 y1 y6) (Prod.fst (Prod.snd (spec_l25Run_l0_a1 y0 y2)))

def spec_l25Run_l0_22 (y0 : Int) (y1 : Int) (y2 : List (Int × (Int × Int))) (y3 : Int) (y6 : List Int) : List Int :=
  movL y3 (spec_l25Run_l0_a0 y1 y6) (Prod.fst (Prod.snd (spec_l25Run_l0_a1 y0 y2)))

def JL_spec_l25Run_l0 : X_spec_l25Run_l0 → List (Nat × SV)
  | (y0, y1, _, _, _, _, _, _) => [(12, (.one ⟨false, [(.val (.int IntKind.i64 y0))]⟩)), (1, (.one ⟨false, [(.ref 0)]⟩)), (11, (.one ⟨false, [(.val (.int IntKind.i64 y1))]⟩)), (9, (.one ⟨false, [(.ptr 1 0)]⟩)), (10, (.one ⟨false, [(.ref 2)]⟩)), (4, (.one ⟨false, [(.ptr 3 0)]⟩))]

def JE_spec_l25Run_l0 : X_spec_l25Run_l0 → List (Nat × Entry)
  | (_, _, y2, y3, y4, y5, y6, y7) => [(0, (.row false 129 (CTy.pair (CTy.int IntKind.i64) (CTy.pair (CTy.int IntKind.i64) (CTy.int IntKind.i64))) y2)), (1, (.box 26 [(.val (.int IntKind.i64 y3)), (.ref 4)])), (2, (.row true 2 (CTy.int IntKind.i64) y4)), (3, (.box 26 [(.val (.int IntKind.i64 y5)), (.ref 5)])), (5, (.row true 2 (CTy.int IntKind.i64) y7)), (4, (.row true 2 (CTy.int IntKind.i64) y6))]

def XL_spec_l25Run_l0 : Nat → X_spec_l25Run_l0 → List (Nat × SV)
  | 0, (y0, y1, _, y3, _, _, y6, _) => [(11, (.one ⟨false, [(.val (.int IntKind.i64 (spec_l25Run_l0_2 y0 y1 y3 y6)))]⟩))]
  | 1, (_, _, _, _, _, _, _, _) => [(5, (.one ⟨false, [(.ref 6)]⟩)), (6, (.one ⟨false, [(.val (.int IntKind.i64 (0 : Int)))]⟩)), (7, (.one ⟨false, [(.val (.int IntKind.i64 (5 : Int)))]⟩))]
  | 2, (_, _, _, _, _, _, _, _) => [(5, (.one ⟨false, [(.ref 6)]⟩)), (6, (.one ⟨false, [(.val (.int IntKind.i64 (0 : Int)))]⟩)), (7, (.one ⟨false, [(.val (.int IntKind.i64 (5 : Int)))]⟩))]
  | _, (_, y1, _, _, _, _, _, _) => [(11, (.one ⟨false, [(.val (.int IntKind.i64 y1))]⟩))]

def XE_spec_l25Run_l0 : Nat → X_spec_l25Run_l0 → List (Nat × Entry)
  | 0, (_, y1, y2, y3, y4, y5, y6, y7) => [(0, (.row false 129 (CTy.pair (CTy.int IntKind.i64) (CTy.pair (CTy.int IntKind.i64) (CTy.int IntKind.i64))) y2)), (1, (.box 26 [(.val (.int IntKind.i64 y3)), (.ref 4)])), (2, (.row true 2 (CTy.int IntKind.i64) y4)), (3, (.box 26 [(.val (.int IntKind.i64 y5)), (.ref 5)])), (4, (.row true 2 (CTy.int IntKind.i64) (spec_l25Run_l0_3 y1 y6))), (5, (.row true 2 (CTy.int IntKind.i64) y7))]
  | 1, (_, y1, y2, y3, y4, _, y6, y7) => [(0, (.row false 129 (CTy.pair (CTy.int IntKind.i64) (CTy.pair (CTy.int IntKind.i64) (CTy.int IntKind.i64))) y2)), (1, (.box 26 [(.val (.int IntKind.i64 y3)), (.ref 4)])), (2, (.row true 2 (CTy.int IntKind.i64) y4)), (3, (.box 26 [(.val (.int IntKind.i64 (0 : Int))), (.ref 7)])), (4, (.row true 2 (CTy.int IntKind.i64) (spec_l25Run_l0_3 y1 y6))), (5, (.row true 2 (CTy.int IntKind.i64) y7)), (6, (.row true 2 (CTy.int IntKind.i64) [])), (7, (.row true 2 (CTy.int IntKind.i64) []))]
  | 2, (_, y1, y2, y3, y4, _, y6, y7) => [(0, (.row false 129 (CTy.pair (CTy.int IntKind.i64) (CTy.pair (CTy.int IntKind.i64) (CTy.int IntKind.i64))) y2)), (1, (.box 26 [(.val (.int IntKind.i64 y3)), (.ref 4)])), (2, (.row true 2 (CTy.int IntKind.i64) y4)), (3, (.box 26 [(.val (.int IntKind.i64 (0 : Int))), (.ref 7)])), (4, (.row true 2 (CTy.int IntKind.i64) (spec_l25Run_l0_3 y1 y6))), (5, (.row true 2 (CTy.int IntKind.i64) y7)), (6, (.row true 2 (CTy.int IntKind.i64) [])), (7, (.row true 2 (CTy.int IntKind.i64) []))]
  | _, (_, _, y2, y3, y4, y5, y6, y7) => [(0, (.row false 129 (CTy.pair (CTy.int IntKind.i64) (CTy.pair (CTy.int IntKind.i64) (CTy.int IntKind.i64))) y2)), (1, (.box 26 [(.val (.int IntKind.i64 y3)), (.ref 4)])), (2, (.row true 2 (CTy.int IntKind.i64) y4)), (3, (.box 26 [(.val (.int IntKind.i64 y5)), (.ref 5)])), (4, (.row true 2 (CTy.int IntKind.i64) y6)), (5, (.row true 2 (CTy.int IntKind.i64) y7))]

def lt_spec_l25Run_l0 : X_spec_l25Run_l0 → LT X_spec_l25Run_l0
  | (y0, y1, y2, y3, y4, y5, y6, y7) => .ite (spec_l25Run_l0_0 y0 y2) (.ite (spec_l25Run_l0_1 y0 y2) (.ext 0 [(0, 0), (1, 1), (2, 2), (3, 3), (4, 4), (5, 5)]) (.need [(spec_l25Run_l0_4 y0), (spec_l25Run_l0_5 y0 y2), (spec_l25Run_l0_6 y0 y2)] (.need [(spec_l25Run_l0_7 y0 y2), (spec_l25Run_l0_8 y0 y2 y4), (spec_l25Run_l0_9 y0 y2 y4)] (.ite (spec_l25Run_l0_10 y0 y2) (.ite (spec_l25Run_l0_11 y0 y2 y4) (.ext 1 [(0, 0), (1, 1), (2, 2), (3, 3), (4, 4), (5, 5), (6, 2624), (7, 2496)]) (.need [(spec_l25Run_l0_12 y0 y2), (spec_l25Run_l0_13 y0 y2 y4), (spec_l25Run_l0_14 y0 y2 y4)] (.nrm ((spec_l25Run_l0_15 y0), (spec_l25Run_l0_2 y0 y1 y3 y6), y2, y3, (spec_l25Run_l0_16 y0 y2 y4), y5, (spec_l25Run_l0_3 y1 y6), y7) [(0, 0), (1, 1), (2, 2), (3, 3), (4, 4), (5, 5)]))) (.need [(spec_l25Run_l0_17 y4), (spec_l25Run_l0_18 y1 y3 y4 y6), (spec_l25Run_l0_19 y0 y1 y2 y3 y4 y6)] (.ite (spec_l25Run_l0_20 y0 y1 y2 y3 y4 y6) (.ext 2 [(0, 0), (1, 1), (2, 2), (3, 3), (4, 4), (5, 5), (6, 2432), (7, 2304)]) (.need [(spec_l25Run_l0_21 y0 y1 y2 y3 y6)] (.nrm ((spec_l25Run_l0_15 y0), (spec_l25Run_l0_2 y0 y1 y3 y6), y2, y3, y4, y5, (spec_l25Run_l0_22 y0 y1 y2 y3 y6), y7) [(0, 0), (1, 1), (2, 2), (3, 3), (4, 2496), (5, 5)])))))))) (.ext 3 [(0, 0), (1, 1), (2, 2), (3, 3), (4, 4), (5, 5)])

def rd_spec_l25Run_l0 (s : St) : Option X_spec_l25Run_l0 :=
  (match s.look 12 with
  | some ⟨none, (.one ⟨false, [(.val (.int IntKind.i64 y0))]⟩)⟩ =>
  (match s.look 1 with
  | some ⟨none, (.one ⟨false, [(.ref 1)]⟩)⟩ =>
  (match s.look 11 with
  | some ⟨none, (.one ⟨false, [(.val (.int IntKind.i64 y1))]⟩)⟩ =>
  (match s.look 9 with
  | some ⟨none, (.one ⟨false, [(.ptr 1280 0)]⟩)⟩ =>
  (match s.look 10 with
  | some ⟨none, (.one ⟨false, [(.ref 1536)]⟩)⟩ =>
  (match s.look 4 with
  | some ⟨none, (.one ⟨false, [(.ptr 256 0)]⟩)⟩ =>
  (match s.ent 1 with
  | some (.row false 129 (CTy.pair (CTy.int IntKind.i64) (CTy.pair (CTy.int IntKind.i64) (CTy.int IntKind.i64))) y2) =>
  (match s.ent 1280 with
  | some (.box 26 [(.val (.int IntKind.i64 y3)), (.ref 1152)]) =>
  (match s.ent 1536 with
  | some (.row true 2 (CTy.int IntKind.i64) y4) =>
  (match s.ent 256 with
  | some (.box 26 [(.val (.int IntKind.i64 y5)), (.ref 257)]) =>
  (match s.ent 257 with
  | some (.row true 2 (CTy.int IntKind.i64) y7) =>
  (match s.ent 1152 with
  | some (.row true 2 (CTy.int IntKind.i64) y6) =>
  some (y0, y1, y2, y3, y4, y5, y6, y7)
  | _ => none)
  | _ => none)
  | _ => none)
  | _ => none)
  | _ => none)
  | _ => none)
  | _ => none)
  | _ => none)
  | _ => none)
  | _ => none)
  | _ => none)
  | _ => none)

def lp_spec_l25Run_l0 : Lp X_spec_l25Run_l0 where
  h := ⟨[31, 32, 33, 34, 37, 38, 39, 40, 41, 42, 43, 44, 11, 45, 46, 47, 48, 49, 50, 51, 52, 13, 53, 54, 55, 14, 56, 57, 58, 59, 60, 61, 62, 63, 64, 65, 66, 5, 6, 7, 67, 68, 69, 70, 71, 72, 73, 74, 75, 76, 77, 78, 79, 80, 81, 82, 83, 84, 85, 86, 35, 36, 12], [0, 1, 2, 3, 5], [4], [6, 7]⟩
  JL := JL_spec_l25Run_l0
  JE := JE_spec_l25Run_l0
  XL := XL_spec_l25Run_l0
  XE := XE_spec_l25Run_l0
  q := fun j => match j with | 0 => .exit 0 | 1 => .ret | 2 => .ret | _ => .exit 0
  tags := [0, 1, 2, 3]
  lt := lt_spec_l25Run_l0
  fuel := fun (y0, y1, y2, y3, y4, y5, y6, y7) => y0.natAbs + y1.natAbs + y2.length + y3.natAbs + y4.length + y5.natAbs + y6.length + y7.length
  fix := fun (_, _, y2, y3, _, y5, _, y7) (y0, y1, _, _, y4, _, y6, _) => (y0, y1, y2, y3, y4, y5, y6, y7)
  σ := [(0, 1), (1, 1280), (2, 1536), (3, 256), (5, 257), (4, 1152)]
  rd := rd_spec_l25Run_l0

theorem lpok_spec_l25Run_l0 : LoopOk Try.prog (fun k => Nat.blt k Try.f110.ntmps) lp_spec_l25Run_l0.F (loopAt Try.f110 0) := by
  refine Lp.ok (tbl := [n_spec_l11Permits, PF.lend n_spec_l11Permits, PF.fz n_spec_l11Permits, n_spec_l11Report, PF.lend n_spec_l11Report, PF.fz n_spec_l11Report, n_spec_l25Code, PF.lend n_spec_l25Code, PF.fz n_spec_l25Code, n_spec_l25Faults, PF.lend n_spec_l25Faults, PF.fz n_spec_l25Faults, n_spec_IsSafeTraffic, PF.lend n_spec_IsSafeTraffic, PF.fz n_spec_IsSafeTraffic, n_spec_l10Move, PF.lend n_spec_l10Move, PF.fz n_spec_l10Move, n_spec_l01Own, PF.lend n_spec_l01Own, PF.fz n_spec_l01Own]) (lf := []) hmix lp_spec_l25Run_l0 (by kernel_rfl) (LOk.nil _) (fun _ => rfl) (fun j _ => by unfold lp_spec_l25Run_l0; match j with | 0 => rfl | 1 => rfl | 2 => rfl | _ + 3 => rfl) ?_ ?_ ?_ ?_ (fun _ => rfl) ?_
  · intro x; obtain ⟨y0, y1, y2, y3, y4, y5, y6, y7⟩ := x; kernel_rfl
  · intro x; obtain ⟨y0, y1, y2, y3, y4, y5, y6, y7⟩ := x; kernel_rfl
  · intro s x h
    have h : rd_spec_l25Run_l0 s = some x := h
    unfold rd_spec_l25Run_l0 at h
    repeat' split at h
    all_goals cases h
    exact ⟨absS_cons (by assumption) rfl (absS_cons (by assumption) rfl (absS_cons (by assumption) rfl (absS_cons (by assumption) rfl (absS_cons (by assumption) rfl (absS_cons (by assumption) rfl (rfl)))))), absE_cons rfl (by assumption) rfl (absE_cons rfl (by assumption) rfl (absE_cons rfl (by assumption) rfl (absE_cons rfl (by assumption) rfl (absE_cons rfl (by assumption) rfl (absE_cons rfl (by assumption) rfl (rfl))))))⟩
  · intro x; obtain ⟨y0, y1, y2, y3, y4, y5, y6, y7⟩ := x; kernel_rfl
  · intro x z; obtain ⟨y0, y1, y2, y3, y4, y5, y6, y7⟩ := x; exact (And.intro (And.intro trivial (And.intro (And.intro trivial rfl) (And.intro trivial rfl))) trivial)

def spec_l25Run_a0 (x0 : Int) (x1 : List Int) (x2 : List (Int × Int × Int)) : Bool :=
  rvPre x0 x1 x2 != (0 : Int)

def spec_l25Run_a1 (x0 : Int) (x1 : List Int) (x2 : List (Int × Int × Int)) : Int × Int × List (Int × Int × Int) × Int × List Int × Int × List Int × List Int :=
  ((0 : Int), (-1 : Int), x2, x0, List.replicate (Int.toNat x0) (0 : Int), (0 : Int), x1, [])

def spec_l25Run_a2 (x0 : Int) (x1 : List Int) (x2 : List (Int × Int × Int)) : Bool :=
  Nat.beq (Prod.fst (Lp.res lp_spec_l25Run_l0 (spec_l25Run_a1 x0 x1 x2))) (0 : Nat)

def spec_l25Run_a3 (x0 : Int) (x1 : List Int) (x2 : List (Int × Int × Int)) : Bool :=
  Nat.beq (Prod.fst (Lp.res lp_spec_l25Run_l0 (spec_l25Run_a1 x0 x1 x2))) (1 : Nat)

def spec_l25Run_a4 (x0 : Int) (x1 : List Int) (x2 : List (Int × Int × Int)) : Bool :=
  Nat.beq (Prod.fst (Lp.res lp_spec_l25Run_l0 (spec_l25Run_a1 x0 x1 x2))) (2 : Nat)

def spec_l25Run_a5 (x0 : Int) (x1 : List Int) (x2 : List (Int × Int × Int)) : Int × List (Int × Int × Int) × Int × List Int × Int × List Int × List Int :=
  Prod.snd (Prod.snd (Lp.res lp_spec_l25Run_l0 (spec_l25Run_a1 x0 x1 x2)))

def spec_l25Run_a6 (x0 : Int) (x1 : List Int) (x2 : List (Int × Int × Int)) : Int :=
  Prod.fst (spec_l25Run_a5 x0 x1 x2)

def spec_l25Run_a7 (x0 : Int) (x1 : List Int) (x2 : List (Int × Int × Int)) : List Int × Int × List Int × List Int :=
  Prod.snd (Prod.snd (Prod.snd (spec_l25Run_a5 x0 x1 x2)))

def spec_l25Run_a8 (x0 : Int) (x1 : List Int) (x2 : List (Int × Int × Int)) : List Int :=
  Prod.fst (Prod.snd (Prod.snd (spec_l25Run_a7 x0 x1 x2)))

def spec_l25Run_a9 (x0 : Int) (x1 : List Int) (x2 : List (Int × Int × Int)) : List Int :=
  Prod.fst (spec_l25Run_a7 x0 x1 x2)

def spec_l25Run_0 (x0 : Int) (x1 : List Int) (x2 : List (Int × Int × Int)) : Int :=
  bif spec_l25Run_a0 x0 x1 x2 then (0 : Int)
  else bif spec_l25Run_a2 x0 x1 x2 then x0 else bif spec_l25Run_a3 x0 x1 x2 then (0 : Int) else bif spec_l25Run_a4 x0 x1 x2 then (0 : Int) else x0

def spec_l25Run_1 (x0 : Int) (x1 : List Int) (x2 : List (Int × Int × Int)) : Int :=
  bif spec_l25Run_a0 x0 x1 x2 then (0 : Int)
  else
  bif spec_l25Run_a2 x0 x1 x2 then
    spec_l25Run_l0_2 (Prod.fst (Prod.snd (Lp.res lp_spec_l25Run_l0 (spec_l25Run_a1 x0 x1 x2)))) (spec_l25Run_a6 x0 x1 x2) x0 (spec_l25Run_a8 x0 x1 x2)
  else bif spec_l25Run_a3 x0 x1 x2 then (0 : Int) else bif spec_l25Run_a4 x0 x1 x2 then (0 : Int) else spec_l25Run_a6 x0 x1 x2

def spec_l25Run_2 (x0 : Int) (x1 : List Int) (x2 : List (Int × Int × Int)) : Int :=
  bif spec_l25Run_a0 x0 x1 x2 then rvPre x0 x1 x2
  else
  bif spec_l25Run_a2 x0 x1 x2 then (0 : Int)
  else bif spec_l25Run_a3 x0 x1 x2 then (5 : Int) else bif spec_l25Run_a4 x0 x1 x2 then (5 : Int) else (0 : Int)

def spec_l25Run_3 (x0 : Int) (x1 : List Int) (x2 : List (Int × Int × Int)) : List Int :=
  bif spec_l25Run_a0 x0 x1 x2 then []
  else
  bif spec_l25Run_a2 x0 x1 x2 then spec_l25Run_l0_3 (spec_l25Run_a6 x0 x1 x2) (spec_l25Run_a8 x0 x1 x2)
  else bif spec_l25Run_a3 x0 x1 x2 then [] else bif spec_l25Run_a4 x0 x1 x2 then [] else spec_l25Run_a8 x0 x1 x2

def spec_l25Run_4 (x0 : Int) (x1 : List Int) (x2 : List (Int × Int × Int)) : List Int :=
  bif spec_l25Run_a0 x0 x1 x2 then []
  else
  bif spec_l25Run_a2 x0 x1 x2 then spec_l25Run_a9 x0 x1 x2
  else bif spec_l25Run_a3 x0 x1 x2 then [] else bif spec_l25Run_a4 x0 x1 x2 then [] else spec_l25Run_a9 x0 x1 x2

def spec_l25Run_5 (x0 : Int) (x1 : List Int) (x2 : List (Int × Int × Int)) : Bool :=
  allT
  [spec_l25Run_a0 x0 x1 x2 || leN (List.length x1) (1048576 : Nat), spec_l25Run_a0 x0 x1 x2 || leI (0 : Int) x0, spec_l25Run_a0 x0 x1 x2 || leI x0 x0,
    spec_l25Run_a0 x0 x1 x2 || leI ((↑(8 : Nat) : Int) * x0) (281474976710656 : Int), spec_l25Run_a0 x0 x1 x2 || leI x0 (9223372036854775807 : Int),
    spec_l25Run_a0 x0 x1 x2 || Lp.fin lp_spec_l25Run_l0 (spec_l25Run_a1 x0 x1 x2)]

def F_spec_l25Run : List SV → List Entry → Option Out
  | [.one ⟨true, [.val (.int .i64 x0), .ref 0]⟩, .one ⟨false, [.ref 1]⟩], [.row false 2 (.int .i64) x1, .row false 129 (.pair (.int .i64) (.pair (.int .i64) (.int .i64))) x2] => some ⟨(.tup [⟨true, [(.val (.int IntKind.i64 (spec_l25Run_0 x0 x1 x2))), (.ref 2)]⟩, ⟨false, [(.ref 3)]⟩, ⟨false, [(.val (.int IntKind.i64 (spec_l25Run_1 x0 x1 x2)))]⟩, ⟨false, [(.val (.int IntKind.i64 (spec_l25Run_2 x0 x1 x2)))]⟩]), [(.row false 2 (CTy.int IntKind.i64) x1), (.row false 129 (CTy.pair (CTy.int IntKind.i64) (CTy.pair (CTy.int IntKind.i64) (CTy.int IntKind.i64))) x2)], [(.row true 2 (CTy.int IntKind.i64) (spec_l25Run_3 x0 x1 x2)), (.row true 2 (CTy.int IntKind.i64) (spec_l25Run_4 x0 x1 x2))], [(spec_l25Run_5 x0 x1 x2)]⟩
  | _, _ => none

def p_spec_l25Run : PF Try.prog := PF.ofG Try.prog [n_spec_l11Permits, PF.lend n_spec_l11Permits, PF.fz n_spec_l11Permits, n_spec_l11Report, PF.lend n_spec_l11Report, PF.fz n_spec_l11Report, n_spec_l25Code, PF.lend n_spec_l25Code, PF.fz n_spec_l25Code, n_spec_l25Faults, PF.lend n_spec_l25Faults, PF.fz n_spec_l25Faults, n_spec_IsSafeTraffic, PF.lend n_spec_IsSafeTraffic, PF.fz n_spec_IsSafeTraffic, n_spec_l10Move, PF.lend n_spec_l10Move, PF.fz n_spec_l10Move, n_spec_l01Own, PF.lend n_spec_l01Own, PF.fz n_spec_l01Own] [lp_spec_l25Run_l0.F] hmix 110 Try.f110 Try.func110 (LOk.fnT (l := [loopAt Try.f110 0]) (by kernel_rfl) (.cons lpok_spec_l25Run_l0 (.nil _))) F_spec_l25Run (by
  intro vs es r h; unfold F_spec_l25Run at h; split at h
  · cases h; kernel_rfl
  · cases h)

def impl_replayStep_a0 (x1 : Int) (x3 : Int) (x4 : List Int) (x5 : List Int) : Bool :=
  !permB x3 x5 (chanL x3 x5 (flS x4) (0 : Int)) (chanL x3 x5 (flS x4) (1 : Int)) x1

def impl_replayStep_a1 (x1 : Int) (x2 : Int) (x4 : List Int) : Bool :=
  Option.getD x4[Int.toNat x1]? (0 : Int) != bif x2 == (3 : Int) then (1 : Int) else (0 : Int)

def impl_replayStep_0 (x0 : Int) (x1 : Int) (x2 : Int) (x3 : Int) (x4 : List Int) (x5 : List Int) : Bool :=
  bif x0 == (0 : Int) then bif impl_replayStep_a0 x1 x3 x4 x5 then false else true else bif impl_replayStep_a1 x1 x2 x4 then false else true

def impl_replayStep_1 (x0 : Int) (x1 : Int) (x2 : Int) (x3 : Int) (x4 : List Int) (x5 : List Int) : Int :=
  bif x0 == (0 : Int) then bif impl_replayStep_a0 x1 x3 x4 x5 then x3 else x3 else bif impl_replayStep_a1 x1 x2 x4 then x3 else x3

def impl_replayStep_2 (x0 : Int) (x1 : Int) (x2 : Int) (x3 : Int) (x4 : List Int) (x5 : List Int) : List Int :=
  bif x0 == (0 : Int) then bif impl_replayStep_a0 x1 x3 x4 x5 then x4 else x4
  else bif impl_replayStep_a1 x1 x2 x4 then x4 else List.set x4 (Int.toNat x1) x2

def impl_replayStep_3 (x0 : Int) (x1 : Int) (x2 : Int) (x3 : Int) (x4 : List Int) (x5 : List Int) : List Int :=
  bif x0 == (0 : Int) then bif impl_replayStep_a0 x1 x3 x4 x5 then x5 else movL x3 x5 x1 else bif impl_replayStep_a1 x1 x2 x4 then x5 else x5

def impl_replayStep_4 (x0 : Int) (x1 : Int) (x2 : Int) (x3 : Int) (x4 : List Int) (x5 : List Int) : Bool :=
  allT
  [!x0 == (0 : Int) || leN (List.length x4) (1000 : Nat), !x0 == (0 : Int) || isT x3 x5 && inFs x3 (flS x4),
    !x0 == (0 : Int) || permOk x3 x5 (chanL x3 x5 (flS x4) (0 : Int)) (chanL x3 x5 (flS x4) (1 : Int)) x1,
    !x0 == (0 : Int) || (impl_replayStep_a0 x1 x3 x4 x5 || mvOk x3 x5 x1), x0 == (0 : Int) || leI (0 : Int) x1,
    x0 == (0 : Int) || ltI x1 (↑(List.length x4) : Int), x0 == (0 : Int) || ltN (Int.toNat x1) (List.length x4),
    x0 == (0 : Int) || (impl_replayStep_a1 x1 x2 x4 || leI (0 : Int) x1),
    x0 == (0 : Int) || (impl_replayStep_a1 x1 x2 x4 || ltI x1 (↑(List.length x4) : Int)),
    x0 == (0 : Int) || (impl_replayStep_a1 x1 x2 x4 || ltN (Int.toNat x1) (List.length x4))]

def F_impl_replayStep : List SV → List Entry → Option Out
  | [.one ⟨false, [.ptr 0 0]⟩, .one ⟨false, [.ref 1]⟩, .one ⟨true, [.val (.int .i64 x0), .val (.int .i64 x1), .val (.int .i64 x2)]⟩], [.box 26 [.val (.int .i64 x3), .ref 2], .row true 2 (.int .i64) x4, .row true 2 (.int .i64) x5] => some ⟨(.one ⟨false, [(.val (.bool (impl_replayStep_0 x0 x1 x2 x3 x4 x5)))]⟩), [(.box 26 [(.val (.int IntKind.i64 (impl_replayStep_1 x0 x1 x2 x3 x4 x5))), (.ref 3)]), (.row true 2 (CTy.int IntKind.i64) (impl_replayStep_2 x0 x1 x2 x3 x4 x5)), .gone], [(.row true 2 (CTy.int IntKind.i64) (impl_replayStep_3 x0 x1 x2 x3 x4 x5))], [(impl_replayStep_4 x0 x1 x2 x3 x4 x5)]⟩
  | _, _ => none

def p_impl_replayStep : PF Try.prog := PF.ofG Try.prog [n_impl_reportOf, PF.lend n_impl_reportOf, PF.fz n_impl_reportOf, n_loop_example_g00916_impl_Report_permits, PF.lend n_loop_example_g00916_impl_Report_permits, PF.fz n_loop_example_g00916_impl_Report_permits, n_impl_faultsOf, PF.lend n_impl_faultsOf, PF.fz n_impl_faultsOf, n_loop_example_g00916_impl_Traffic_moved, PF.lend n_loop_example_g00916_impl_Traffic_moved, PF.fz n_loop_example_g00916_impl_Traffic_moved] [] hmix 146 Try.f146 Try.func146 (fun c _ => LOk.nil c) F_impl_replayStep (by
  intro vs es r h; unfold F_impl_replayStep at h; split at h
  · cases h; kernel_rfl
  · cases h)

def impl_replayStep_q1700_a0 (x1 : Int) (x3 : Int) (x4 : List Int) (x5 : List Int) : Bool :=
  !permB x3 x5 (chanL x3 x5 (flS x4) (0 : Int)) (chanL x3 x5 (flS x4) (1 : Int)) x1

def impl_replayStep_q1700_a1 (x1 : Int) (x2 : Int) (x4 : List Int) : Bool :=
  Option.getD x4[Int.toNat x1]? (0 : Int) != bif x2 == (3 : Int) then (1 : Int) else (0 : Int)

def impl_replayStep_q1700_0 (x0 : Int) (x1 : Int) (x2 : Int) (x3 : Int) (x4 : List Int) (x5 : List Int) : Bool :=
  bif x0 == (0 : Int) then bif impl_replayStep_q1700_a0 x1 x3 x4 x5 then false else true else bif impl_replayStep_q1700_a1 x1 x2 x4 then false else true

def impl_replayStep_q1700_1 (x0 : Int) (x1 : Int) (x2 : Int) (x3 : Int) (x4 : List Int) (x5 : List Int) : Int :=
  bif x0 == (0 : Int) then bif impl_replayStep_q1700_a0 x1 x3 x4 x5 then x3 else x3 else bif impl_replayStep_q1700_a1 x1 x2 x4 then x3 else x3

def impl_replayStep_q1700_2 (x0 : Int) (x1 : Int) (x2 : Int) (x3 : Int) (x4 : List Int) (x5 : List Int) : List Int :=
  bif x0 == (0 : Int) then bif impl_replayStep_q1700_a0 x1 x3 x4 x5 then x4 else x4
  else bif impl_replayStep_q1700_a1 x1 x2 x4 then x4 else List.set x4 (Int.toNat x1) x2

def impl_replayStep_q1700_3 (x0 : Int) (x1 : Int) (x2 : Int) (x3 : Int) (x4 : List Int) (x5 : List Int) : List Int :=
  bif x0 == (0 : Int) then bif impl_replayStep_q1700_a0 x1 x3 x4 x5 then x5 else movL x3 x5 x1
  else bif impl_replayStep_q1700_a1 x1 x2 x4 then x5 else x5

def impl_replayStep_q1700_4 (x0 : Int) (x1 : Int) (x2 : Int) (x3 : Int) (x4 : List Int) (x5 : List Int) : Bool :=
  allT
  [!x0 == (0 : Int) || leN (List.length x4) (1000 : Nat), !x0 == (0 : Int) || isT x3 x5 && inFs x3 (flS x4),
    !x0 == (0 : Int) || permOk x3 x5 (chanL x3 x5 (flS x4) (0 : Int)) (chanL x3 x5 (flS x4) (1 : Int)) x1,
    !x0 == (0 : Int) || (impl_replayStep_q1700_a0 x1 x3 x4 x5 || mvOk x3 x5 x1), x0 == (0 : Int) || leI (0 : Int) x1,
    x0 == (0 : Int) || ltI x1 (↑(List.length x4) : Int), x0 == (0 : Int) || ltN (Int.toNat x1) (List.length x4),
    x0 == (0 : Int) || (impl_replayStep_q1700_a1 x1 x2 x4 || leI (0 : Int) x1),
    x0 == (0 : Int) || (impl_replayStep_q1700_a1 x1 x2 x4 || ltI x1 (↑(List.length x4) : Int)),
    x0 == (0 : Int) || (impl_replayStep_q1700_a1 x1 x2 x4 || ltN (Int.toNat x1) (List.length x4))]

def F_impl_replayStep_q1700 : List SV → List Entry → Option Out
  | [(.one ⟨false, [(.ptr 0 0)]⟩), (.one ⟨false, [(.ref 1)]⟩), (.one ⟨true, [(.val (.int IntKind.i64 x0)), (.val (.int IntKind.i64 x1)), (.val (.int IntKind.i64 x2))]⟩)], [(.box 26 [(.val (.int IntKind.i64 x3)), (.ref 2)]), (.row true 2 (CTy.int IntKind.i64) x4), (.row false 2 (CTy.int IntKind.i64) x5)] => some ⟨(.one ⟨false, [(.val (.bool (impl_replayStep_q1700_0 x0 x1 x2 x3 x4 x5)))]⟩), [(.box 26 [(.val (.int IntKind.i64 (impl_replayStep_q1700_1 x0 x1 x2 x3 x4 x5))), (.ref 3)]), (.row true 2 (CTy.int IntKind.i64) (impl_replayStep_q1700_2 x0 x1 x2 x3 x4 x5)), (.row false 2 (CTy.int IntKind.i64) x5)], [(.row false 2 (CTy.int IntKind.i64) (impl_replayStep_q1700_3 x0 x1 x2 x3 x4 x5))], [(impl_replayStep_q1700_4 x0 x1 x2 x3 x4 x5)]⟩
  | _, _ => none

def p_impl_replayStep_q1700 : PF Try.prog := PF.ofG Try.prog [n_impl_reportOf, PF.lend n_impl_reportOf, PF.fz n_impl_reportOf, n_loop_example_g00916_impl_Report_permits, PF.lend n_loop_example_g00916_impl_Report_permits, PF.fz n_loop_example_g00916_impl_Report_permits, n_impl_faultsOf, PF.lend n_impl_faultsOf, PF.fz n_impl_faultsOf, n_loop_example_g00916_impl_Traffic_moved, PF.lend n_loop_example_g00916_impl_Traffic_moved, PF.fz n_loop_example_g00916_impl_Traffic_moved] [] hmix 146 Try.f146 Try.func146 (fun c _ => LOk.nil c) F_impl_replayStep_q1700 (by
  intro vs es r h; unfold F_impl_replayStep_q1700 at h; split at h
  · cases h; kernel_rfl
  · cases h)

abbrev X_impl_replay_l0 := Int × Int × List (Int × (Int × Int)) × List Int × Int × List (Int × (List Int)) × List Int

def impl_replay_l0_a0 (y0 : Int) (y2 : List (Int × (Int × Int))) : Int × Int × Int :=
  Option.getD y2[Int.toNat y0]? ((0 : Int), (0 : Int), (0 : Int))

def impl_replay_l0_a1 (y0 : Int) (y2 : List (Int × (Int × Int))) (y3 : List Int) (y4 : Int) (y6 : List Int) : Int :=
  impl_replayStep_q1700_1 (Prod.fst (impl_replay_l0_a0 y0 y2)) (Prod.fst (Prod.snd (impl_replay_l0_a0 y0 y2)))
  (Prod.snd (Prod.snd (impl_replay_l0_a0 y0 y2))) y4 y3 y6

def impl_replay_l0_a2 (y0 : Int) (y2 : List (Int × (Int × Int))) (y3 : List Int) (y4 : Int) (y6 : List Int) : List Int :=
  impl_replayStep_q1700_3 (Prod.fst (impl_replay_l0_a0 y0 y2)) (Prod.fst (Prod.snd (impl_replay_l0_a0 y0 y2)))
  (Prod.snd (Prod.snd (impl_replay_l0_a0 y0 y2))) y4 y3 y6

def impl_replay_l0_a3 (y0 : Int) (y2 : List (Int × (Int × Int))) (y3 : List Int) (y4 : Int) (y6 : List Int) : List (Int × List Int) :=
  [(impl_replay_l0_a1 y0 y2 y3 y4 y6, impl_replay_l0_a2 y0 y2 y3 y4 y6)]

def impl_replay_l0_0 (y0 : Int) (y1 : Int) : Bool :=
  ltI y0 y1

def impl_replay_l0_1 (y0 : Int) : Bool :=
  leI (0 : Int) y0

def impl_replay_l0_2 (y0 : Int) (y2 : List (Int × (Int × Int))) : Bool :=
  ltI y0 (↑(List.length y2) : Int)

def impl_replay_l0_3 (y0 : Int) (y2 : List (Int × (Int × Int))) : Bool :=
  ltN (Int.toNat y0) (List.length y2)

def impl_replay_l0_4 (y0 : Int) (y2 : List (Int × (Int × Int))) (y3 : List Int) (y4 : Int) (y6 : List Int) : Bool :=
  impl_replayStep_q1700_4 (Prod.fst (impl_replay_l0_a0 y0 y2)) (Prod.fst (Prod.snd (impl_replay_l0_a0 y0 y2)))
  (Prod.snd (Prod.snd (impl_replay_l0_a0 y0 y2))) y4 y3 y6

def impl_replay_l0_5 (y0 : Int) (y2 : List (Int × (Int × Int))) (y3 : List Int) (y4 : Int) (y6 : List Int) : Bool :=
  !impl_replayStep_q1700_0 (Prod.fst (impl_replay_l0_a0 y0 y2)) (Prod.fst (Prod.snd (impl_replay_l0_a0 y0 y2)))
    (Prod.snd (Prod.snd (impl_replay_l0_a0 y0 y2))) y4 y3 y6

def impl_replay_l0_6 (y0 : Int) (y2 : List (Int × (Int × Int))) (y3 : List Int) (y4 : Int) (y6 : List Int) : List Int :=
  impl_replayStep_q1700_2 (Prod.fst (impl_replay_l0_a0 y0 y2)) (Prod.fst (Prod.snd (impl_replay_l0_a0 y0 y2)))
  (Prod.snd (Prod.snd (impl_replay_l0_a0 y0 y2))) y4 y3 y6

def impl_replay_l0_7 (y0 : Int) (y2 : List (Int × (Int × Int))) (y3 : List Int) (y4 : Int) (y6 : List Int) : Int :=
  impl_replay_l0_a1 y0 y2 y3 y4 y6

def impl_replay_l0_8 (y0 : Int) (y2 : List (Int × (Int × Int))) (y3 : List Int) (y4 : Int) (y6 : List Int) : List Int :=
  impl_replay_l0_a2 y0 y2 y3 y4 y6

def impl_replay_l0_9 (y0 : Int) (y2 : List (Int × (Int × Int))) (y3 : List Int) (y4 : Int) (y5 : List (Int × (List Int))) (y6 : List Int) : Bool :=
  leN (List.length y5 + List.length (impl_replay_l0_a3 y0 y2 y3 y4 y6)) (9223372036854775807 : Nat)

def impl_replay_l0_10 (y0 : Int) (y2 : List (Int × (Int × Int))) (y3 : List Int) (y4 : Int) (y5 : List (Int × (List Int))) (y6 : List Int) : Bool :=
  leN ((List.length y5 + List.length (impl_replay_l0_a3 y0 y2 y3 y4 y6)) * (32 : Nat)) (140737488355328 : Nat)

def impl_replay_l0_11 (y0 : Int) : Int :=
  IntKind.wrap IntKind.i64 (y0 + (1 : Int))

def impl_replay_l0_12 (y0 : Int) (y2 : List (Int × (Int × Int))) (y3 : List Int) (y4 : Int) (y5 : List (Int × (List Int))) (y6 : List Int) : List (Int × (List Int)) :=
  y5 ++ impl_replay_l0_a3 y0 y2 y3 y4 y6

def JL_impl_replay_l0 : X_impl_replay_l0 → List (Nat × SV)
  | (y0, y1, _, _, _, _, _) => [(27, (.one ⟨false, [(.val (.int IntKind.i64 y0))]⟩)), (26, (.one ⟨false, [(.val (.int IntKind.i64 y1))]⟩)), (25, (.one ⟨false, [(.ref 0)]⟩)), (9, (.one ⟨false, [(.ref 1)]⟩)), (2, (.one ⟨false, [(.ptr 2 0)]⟩)), (8, (.one ⟨false, [(.ref 3)]⟩))]

def JE_impl_replay_l0 : X_impl_replay_l0 → List (Nat × Entry)
  | (_, _, y2, y3, y4, y5, y6) => [(0, (.row false 129 (CTy.pair (CTy.int IntKind.i64) (CTy.pair (CTy.int IntKind.i64) (CTy.int IntKind.i64))) y2)), (1, (.row true 2 (CTy.int IntKind.i64) y3)), (2, (.box 26 [(.val (.int IntKind.i64 y4)), (.ref 4)])), (3, (.row true 26 (CTy.pair (CTy.int IntKind.i64) (CTy.sl (2 : Nat) (CTy.int IntKind.i64))) y5)), (4, (.row false 2 (CTy.int IntKind.i64) y6))]

def XL_impl_replay_l0 : Nat → X_impl_replay_l0 → List (Nat × SV)
  | 0, (_, _, _, _, _, _, _) => [(4, (.one ⟨false, [(.ref 5)]⟩)), (5, (.one ⟨false, [(.ref 6)]⟩)), (6, (.one ⟨false, [(.val (.int IntKind.i64 (5 : Int)))]⟩))]
  | _, (_, _, _, _, _, _, _) => [(8, (.one ⟨false, [(.ref 3)]⟩))]

def XE_impl_replay_l0 : Nat → X_impl_replay_l0 → List (Nat × Entry)
  | 0, (y0, _, y2, y3, y4, y5, y6) => [(0, (.row false 129 (CTy.pair (CTy.int IntKind.i64) (CTy.pair (CTy.int IntKind.i64) (CTy.int IntKind.i64))) y2)), (1, (.row true 2 (CTy.int IntKind.i64) (impl_replay_l0_6 y0 y2 y3 y4 y6))), (2, (.box 26 [(.val (.int IntKind.i64 (impl_replay_l0_7 y0 y2 y3 y4 y6))), (.ref 7)])), (3, (.row true 26 (CTy.pair (CTy.int IntKind.i64) (CTy.sl (2 : Nat) (CTy.int IntKind.i64))) y5)), (4, (.row false 2 (CTy.int IntKind.i64) y6)), (5, (.row true 26 (CTy.pair (CTy.int IntKind.i64) (CTy.sl (2 : Nat) (CTy.int IntKind.i64))) [])), (6, (.row true 2 (CTy.int IntKind.i64) [])), (7, (.row false 2 (CTy.int IntKind.i64) (impl_replay_l0_8 y0 y2 y3 y4 y6)))]
  | _, (_, _, y2, y3, y4, y5, y6) => [(0, (.row false 129 (CTy.pair (CTy.int IntKind.i64) (CTy.pair (CTy.int IntKind.i64) (CTy.int IntKind.i64))) y2)), (1, (.row true 2 (CTy.int IntKind.i64) y3)), (2, (.box 26 [(.val (.int IntKind.i64 y4)), (.ref 4)])), (3, (.row true 26 (CTy.pair (CTy.int IntKind.i64) (CTy.sl (2 : Nat) (CTy.int IntKind.i64))) y5)), (4, (.row false 2 (CTy.int IntKind.i64) y6))]

def lt_impl_replay_l0 : X_impl_replay_l0 → LT X_impl_replay_l0
  | (y0, y1, y2, y3, y4, y5, y6) => .ite (impl_replay_l0_0 y0 y1) (.need [(impl_replay_l0_1 y0), (impl_replay_l0_2 y0 y2), (impl_replay_l0_3 y0 y2)] (.need [(impl_replay_l0_4 y0 y2 y3 y4 y6)] (.ite (impl_replay_l0_5 y0 y2 y3 y4 y6) (.ext 0 [(0, 0), (1, 1), (2, 2), (3, 3), (4, 4), (5, 640), (6, 704), (7, 512)]) (.need [(impl_replay_l0_9 y0 y2 y3 y4 y5 y6), (impl_replay_l0_10 y0 y2 y3 y4 y5 y6)] (.nrm ((impl_replay_l0_11 y0), y1, y2, (impl_replay_l0_6 y0 y2 y3 y4 y6), (impl_replay_l0_7 y0 y2 y3 y4 y6), (impl_replay_l0_12 y0 y2 y3 y4 y5 y6), (impl_replay_l0_8 y0 y2 y3 y4 y6)) [(0, 0), (1, 1), (2, 2), (3, 832), (4, 512)]))))) (.ext 1 [(0, 0), (1, 1), (2, 2), (3, 3), (4, 4)])

def rd_impl_replay_l0 (s : St) : Option X_impl_replay_l0 :=
  (match s.look 27 with
  | some ⟨none, (.one ⟨false, [(.val (.int IntKind.i64 y0))]⟩)⟩ =>
  (match s.look 26 with
  | some ⟨none, (.one ⟨false, [(.val (.int IntKind.i64 y1))]⟩)⟩ =>
  (match s.look 25 with
  | some ⟨none, (.one ⟨false, [(.ref 1)]⟩)⟩ =>
  (match s.look 9 with
  | some ⟨none, (.one ⟨false, [(.ref 1344)]⟩)⟩ =>
  (match s.look 2 with
  | some ⟨none, (.one ⟨false, [(.ptr 192 0)]⟩)⟩ =>
  (match s.look 8 with
  | some ⟨none, (.one ⟨false, [(.ref 1088)]⟩)⟩ =>
  (match s.ent 1 with
  | some (.row false 129 (CTy.pair (CTy.int IntKind.i64) (CTy.pair (CTy.int IntKind.i64) (CTy.int IntKind.i64))) y2) =>
  (match s.ent 1344 with
  | some (.row true 2 (CTy.int IntKind.i64) y3) =>
  (match s.ent 192 with
  | some (.box 26 [(.val (.int IntKind.i64 y4)), (.ref 896)]) =>
  (match s.ent 1088 with
  | some (.row true 26 (CTy.pair (CTy.int IntKind.i64) (CTy.sl (2 : Nat) (CTy.int IntKind.i64))) y5) =>
  (match s.ent 896 with
  | some (.row false 2 (CTy.int IntKind.i64) y6) =>
  some (y0, y1, y2, y3, y4, y5, y6)
  | _ => none)
  | _ => none)
  | _ => none)
  | _ => none)
  | _ => none)
  | _ => none)
  | _ => none)
  | _ => none)
  | _ => none)
  | _ => none)
  | _ => none)

def lp_impl_replay_l0 : Lp X_impl_replay_l0 where
  h := ⟨[28, 29, 30, 11, 31, 32, 33, 34, 4, 5, 6, 35, 36, 37, 38, 8, 39, 27], [0, 1, 2], [3, 4], [5, 6, 7]⟩
  JL := JL_impl_replay_l0
  JE := JE_impl_replay_l0
  XL := XL_impl_replay_l0
  XE := XE_impl_replay_l0
  q := fun j => match j with | 0 => .ret | _ => .exit 0
  tags := [0, 1]
  lt := lt_impl_replay_l0
  fuel := fun (y0, y1, y2, y3, y4, y5, y6) => y0.natAbs + y1.natAbs + y2.length + y3.length + y4.natAbs + y5.length + y6.length
  fix := fun (_, y1, y2, _, _, _, _) (y0, _, _, y3, y4, y5, y6) => (y0, y1, y2, y3, y4, y5, y6)
  σ := [(0, 1), (1, 1344), (2, 192), (3, 1088), (4, 896)]
  rd := rd_impl_replay_l0

theorem lpok_impl_replay_l0 : LoopOk Try.prog (fun k => Nat.blt k Try.f112.ntmps) lp_impl_replay_l0.F (loopAt Try.f112 0) := by
  refine Lp.ok (tbl := [n_impl_replayCode, PF.lend n_impl_replayCode, PF.fz n_impl_replayCode, p_impl_replayStep, PF.lend p_impl_replayStep, PF.fz p_impl_replayStep, p_loop_example_g00916_impl_Traffic_clone, PF.lend p_loop_example_g00916_impl_Traffic_clone, PF.fz p_loop_example_g00916_impl_Traffic_clone, p_impl_replayStep_q1700, PF.lend p_impl_replayStep_q1700, PF.fz p_impl_replayStep_q1700]) (lf := []) hmix lp_impl_replay_l0 (by kernel_rfl) (LOk.nil _) (fun _ => rfl) (fun j _ => by unfold lp_impl_replay_l0; match j with | 0 => rfl | _ + 1 => rfl) ?_ ?_ ?_ ?_ (fun _ => rfl) ?_
  · intro x; obtain ⟨y0, y1, y2, y3, y4, y5, y6⟩ := x; kernel_rfl
  · intro x; obtain ⟨y0, y1, y2, y3, y4, y5, y6⟩ := x; kernel_rfl
  · intro s x h
    have h : rd_impl_replay_l0 s = some x := h
    unfold rd_impl_replay_l0 at h
    repeat' split at h
    all_goals cases h
    exact ⟨absS_cons (by assumption) rfl (absS_cons (by assumption) rfl (absS_cons (by assumption) rfl (absS_cons (by assumption) rfl (absS_cons (by assumption) rfl (absS_cons (by assumption) rfl (rfl)))))), absE_cons rfl (by assumption) rfl (absE_cons rfl (by assumption) rfl (absE_cons rfl (by assumption) rfl (absE_cons rfl (by assumption) rfl (absE_cons rfl (by assumption) rfl (rfl)))))⟩
  · intro x; obtain ⟨y0, y1, y2, y3, y4, y5, y6⟩ := x; kernel_rfl
  · intro x z; obtain ⟨y0, y1, y2, y3, y4, y5, y6⟩ := x; exact (And.intro (And.intro trivial rfl) trivial)

def impl_replay_a0 (x0 : Int) (x1 : List Int) (x2 : List (Int × Int × Int)) : Bool :=
  rvPre x0 x1 x2 != (0 : Int)

def impl_replay_a1 (x0 : Int) (x1 : List Int) (x2 : List (Int × Int × Int)) : Int × Int × List (Int × Int × Int) × List Int × Int × List (Int × List Int) × List Int :=
  ((0 : Int), (↑(List.length x2) : Int), x2, List.replicate (Int.toNat x0) (0 : Int), x0, [(x0, x1)], x1)

def impl_replay_a2 (x0 : Int) (x1 : List Int) (x2 : List (Int × Int × Int)) : Bool :=
  Nat.beq (Prod.fst (Lp.res lp_impl_replay_l0 (impl_replay_a1 x0 x1 x2))) (0 : Nat)

def impl_replay_a3 (x0 : Int) (x1 : List Int) (x2 : List (Int × Int × Int)) : List Int × Int × List (Int × List Int) × List Int :=
  Prod.snd (Prod.snd (Prod.snd (Prod.snd (Lp.res lp_impl_replay_l0 (impl_replay_a1 x0 x1 x2)))))

def impl_replay_0 (x0 : Int) (x1 : List Int) (x2 : List (Int × Int × Int)) : Int :=
  bif impl_replay_a0 x0 x1 x2 then rvPre x0 x1 x2 else bif impl_replay_a2 x0 x1 x2 then (5 : Int) else (0 : Int)

def impl_replay_1 (x0 : Int) (x1 : List Int) (x2 : List (Int × Int × Int)) : List (Int × (List Int)) :=
  bif impl_replay_a0 x0 x1 x2 then [] else bif impl_replay_a2 x0 x1 x2 then [] else Prod.fst (Prod.snd (Prod.snd (impl_replay_a3 x0 x1 x2)))

def impl_replay_2 (x0 : Int) (x1 : List Int) (x2 : List (Int × Int × Int)) : List Int :=
  bif impl_replay_a0 x0 x1 x2 then [] else bif impl_replay_a2 x0 x1 x2 then [] else Prod.fst (impl_replay_a3 x0 x1 x2)

def impl_replay_3 (x0 : Int) (x1 : List Int) (x2 : List (Int × Int × Int)) : Bool :=
  allT
  [impl_replay_a0 x0 x1 x2 || loop_example_g00916_impl_Traffic_clone_0 x1, impl_replay_a0 x0 x1 x2 || leI (0 : Int) x0,
    impl_replay_a0 x0 x1 x2 || leI x0 x0, impl_replay_a0 x0 x1 x2 || leI ((↑(8 : Nat) : Int) * x0) (281474976710656 : Int),
    impl_replay_a0 x0 x1 x2 || leI x0 (9223372036854775807 : Int), impl_replay_a0 x0 x1 x2 || Lp.fin lp_impl_replay_l0 (impl_replay_a1 x0 x1 x2)]

def F_impl_replay : List SV → List Entry → Option Out
  | [.one ⟨true, [.val (.int .i64 x0), .ref 0]⟩, .one ⟨false, [.ref 1]⟩], [.row false 2 (.int .i64) x1, .row false 129 (.pair (.int .i64) (.pair (.int .i64) (.int .i64))) x2] => some ⟨(.tup [⟨false, [(.ref 2)]⟩, ⟨false, [(.ref 3)]⟩, ⟨false, [(.val (.int IntKind.i64 (impl_replay_0 x0 x1 x2)))]⟩]), [(.row false 2 (CTy.int IntKind.i64) x1), (.row false 129 (CTy.pair (CTy.int IntKind.i64) (CTy.pair (CTy.int IntKind.i64) (CTy.int IntKind.i64))) x2)], [(.row true 26 (CTy.pair (CTy.int IntKind.i64) (CTy.sl (2 : Nat) (CTy.int IntKind.i64))) (impl_replay_1 x0 x1 x2)), (.row true 2 (CTy.int IntKind.i64) (impl_replay_2 x0 x1 x2))], [(impl_replay_3 x0 x1 x2)]⟩
  | _, _ => none

def p_impl_replay : PF Try.prog := PF.ofG Try.prog [n_impl_replayCode, PF.lend n_impl_replayCode, PF.fz n_impl_replayCode, p_impl_replayStep, PF.lend p_impl_replayStep, PF.fz p_impl_replayStep, p_loop_example_g00916_impl_Traffic_clone, PF.lend p_loop_example_g00916_impl_Traffic_clone, PF.fz p_loop_example_g00916_impl_Traffic_clone, p_impl_replayStep_q1700, PF.lend p_impl_replayStep_q1700, PF.fz p_impl_replayStep_q1700] [lp_impl_replay_l0.F] hmix 112 Try.f112 Try.func112 (LOk.fnT (l := [loopAt Try.f112 0]) (by kernel_rfl) (.cons lpok_impl_replay_l0 (.nil _))) F_impl_replay (by
  intro vs es r h; unfold F_impl_replay at h; split at h
  · cases h; kernel_rfl
  · cases h)

end Go.SX

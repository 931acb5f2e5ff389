/- What functions of the program come to, row by row (made by a program of the workplace). -/
import Derived.Test.YtjncnnpdaeociaaTXh
import Derived.Test.YtjncnnpdaeociaaProg
import Derived.Test.YtjncnnpdaeociaaNu
namespace Go.SX
open Go.Proofs
set_option maxRecDepth 100000

abbrev X_spec_DrawRunMoves_l0 := Int × Int × Int × Int × Int × List Int × List Int × List Int × List Int

def spec_DrawRunMoves_l0_a0 (y1 : Int) (y2 : Int) (y4 : Int) (y6 : List Int) (y7 : List Int) (y8 : List Int) : Bool :=
  bif isSf y4 y8 then ltI (0 : Int) (nxV (16 : Int) (dtA y1 y2 y7 y6) (dtS y1 y2 y7 y6) y6) else false

def spec_DrawRunMoves_l0_a1 (y1 : Int) (y2 : Int) (y4 : Int) (y6 : List Int) (y7 : List Int) (y8 : List Int) : Int :=
  bif isSf y4 y8 && true then nxA (16 : Int) (dtA y1 y2 y7 y6) y6 else dtA y1 y2 y7 y6

def spec_DrawRunMoves_l0_a2 (y1 : Int) (y2 : Int) (y4 : Int) (y6 : List Int) (y7 : List Int) (y8 : List Int) : Int :=
  bif isSf y4 y8 && true then nxS (16 : Int) (dtA y1 y2 y7 y6) (dtS y1 y2 y7 y6) y6 else dtS y1 y2 y7 y6

def spec_DrawRunMoves_l0_a3 (y1 : Int) (y2 : Int) (y4 : Int) (y6 : List Int) (y7 : List Int) (y8 : List Int) : Int :=
  nxV (↑(List.length (spec_l10Allowed_0 y4 y8)) : Int) (spec_DrawRunMoves_l0_a1 y1 y2 y4 y6 y7 y8) (spec_DrawRunMoves_l0_a2 y1 y2 y4 y6 y7 y8) y6

def spec_DrawRunMoves_l0_a4 (y1 : Int) (y2 : Int) (y4 : Int) (y6 : List Int) (y7 : List Int) (y8 : List Int) : Int :=
  Option.getD (spec_l10Allowed_0 y4 y8)[Int.toNat (spec_DrawRunMoves_l0_a3 y1 y2 y4 y6 y7 y8)]? (0 : Int)

def spec_DrawRunMoves_l0_0 (y0 : Int) : Bool :=
  ltI (0 : Int) y0

def spec_DrawRunMoves_l0_1 (y1 : Int) (y2 : Int) (y6 : List Int) : Bool :=
  srcOk y1 y2 y6

def spec_DrawRunMoves_l0_2 (y1 : Int) (y2 : Int) (y4 : Int) (y6 : List Int) (y7 : List Int) (y8 : List Int) : Bool :=
  !(isSf y4 y8 && true) || srcOk (dtA y1 y2 y7 y6) (dtS y1 y2 y7 y6) y6

def spec_DrawRunMoves_l0_3 (y1 : Int) (y2 : Int) (y4 : Int) (y6 : List Int) (y7 : List Int) (y8 : List Int) : Bool :=
  !spec_DrawRunMoves_l0_a0 y1 y2 y4 y6 y7 y8 || spec_l10Allowed_1 y4 y8

def spec_DrawRunMoves_l0_4 (y1 : Int) (y2 : Int) (y4 : Int) (y6 : List Int) (y7 : List Int) (y8 : List Int) : Bool :=
  spec_DrawRunMoves_l0_a0 y1 y2 y4 y6 y7 y8

def spec_DrawRunMoves_l0_5 (y4 : Int) (y8 : List Int) : Bool :=
  (↑(List.length (spec_l10Allowed_0 y4 y8)) : Int) == (0 : Int)

def spec_DrawRunMoves_l0_6 (y1 : Int) (y2 : Int) (y4 : Int) (y6 : List Int) (y7 : List Int) (y8 : List Int) : Int :=
  spec_DrawRunMoves_l0_a1 y1 y2 y4 y6 y7 y8

def spec_DrawRunMoves_l0_7 (y1 : Int) (y2 : Int) (y4 : Int) (y6 : List Int) (y7 : List Int) (y8 : List Int) : Int :=
  spec_DrawRunMoves_l0_a2 y1 y2 y4 y6 y7 y8

def spec_DrawRunMoves_l0_8 (y1 : Int) (y2 : Int) (y4 : Int) (y6 : List Int) (y7 : List Int) (y8 : List Int) : Bool :=
  srcOk (spec_DrawRunMoves_l0_a1 y1 y2 y4 y6 y7 y8) (spec_DrawRunMoves_l0_a2 y1 y2 y4 y6 y7 y8) y6

def spec_DrawRunMoves_l0_9 (y1 : Int) (y2 : Int) (y4 : Int) (y6 : List Int) (y7 : List Int) (y8 : List Int) : Bool :=
  leI (0 : Int) (spec_DrawRunMoves_l0_a3 y1 y2 y4 y6 y7 y8)

def spec_DrawRunMoves_l0_10 (y1 : Int) (y2 : Int) (y4 : Int) (y6 : List Int) (y7 : List Int) (y8 : List Int) : Bool :=
  ltI (spec_DrawRunMoves_l0_a3 y1 y2 y4 y6 y7 y8) (↑(List.length (spec_l10Allowed_0 y4 y8)) : Int)

def spec_DrawRunMoves_l0_11 (y1 : Int) (y2 : Int) (y4 : Int) (y6 : List Int) (y7 : List Int) (y8 : List Int) : Bool :=
  ltN (Int.toNat (spec_DrawRunMoves_l0_a3 y1 y2 y4 y6 y7 y8)) (List.length (spec_l10Allowed_0 y4 y8))

def spec_DrawRunMoves_l0_12 (y1 : Int) (y2 : Int) (y4 : Int) (y6 : List Int) (y7 : List Int) (y8 : List Int) : Bool :=
  mvOk y4 y8 (spec_DrawRunMoves_l0_a4 y1 y2 y4 y6 y7 y8)

def spec_DrawRunMoves_l0_13 (y1 : Int) (y2 : Int) (y4 : Int) (y5 : List Int) (y6 : List Int) (y7 : List Int) (y8 : List Int) : Bool :=
  leN (List.length y5 + List.length [spec_DrawRunMoves_l0_a4 y1 y2 y4 y6 y7 y8]) (9223372036854775807 : Nat)

def spec_DrawRunMoves_l0_14 (y1 : Int) (y2 : Int) (y4 : Int) (y5 : List Int) (y6 : List Int) (y7 : List Int) (y8 : List Int) : Bool :=
  leN ((List.length y5 + List.length [spec_DrawRunMoves_l0_a4 y1 y2 y4 y6 y7 y8]) * (8 : Nat)) (140737488355328 : Nat)

def spec_DrawRunMoves_l0_15 (y0 : Int) : Int :=
  IntKind.wrap IntKind.i64 (y0 - (1 : Int))

def spec_DrawRunMoves_l0_16 (y1 : Int) (y2 : Int) (y4 : Int) (y6 : List Int) (y7 : List Int) (y8 : List Int) : Int :=
  nxA (↑(List.length (spec_l10Allowed_0 y4 y8)) : Int) (spec_DrawRunMoves_l0_a1 y1 y2 y4 y6 y7 y8) y6

def spec_DrawRunMoves_l0_17 (y1 : Int) (y2 : Int) (y4 : Int) (y6 : List Int) (y7 : List Int) (y8 : List Int) : Int :=
  nxS (↑(List.length (spec_l10Allowed_0 y4 y8)) : Int) (spec_DrawRunMoves_l0_a1 y1 y2 y4 y6 y7 y8) (spec_DrawRunMoves_l0_a2 y1 y2 y4 y6 y7 y8) y6

def spec_DrawRunMoves_l0_18 (y1 : Int) (y2 : Int) (y4 : Int) (y5 : List Int) (y6 : List Int) (y7 : List Int) (y8 : List Int) : List Int :=
  y5 ++ [spec_DrawRunMoves_l0_a4 y1 y2 y4 y6 y7 y8]

def spec_DrawRunMoves_l0_19 (y1 : Int) (y2 : Int) (y4 : Int) (y6 : List Int) (y7 : List Int) (y8 : List Int) : List Int :=
  movL y4 y8 (spec_DrawRunMoves_l0_a4 y1 y2 y4 y6 y7 y8)

def spec_DrawRunMoves_l0_20 (y1 : Int) (y2 : Int) (y5 : List Int) (y6 : List Int) (y7 : List Int) : Bool :=
  leN (List.length y5 + List.length [dtV y1 y2 y7 y6]) (9223372036854775807 : Nat)

def spec_DrawRunMoves_l0_21 (y1 : Int) (y2 : Int) (y5 : List Int) (y6 : List Int) (y7 : List Int) : Bool :=
  leN ((List.length y5 + List.length [dtV y1 y2 y7 y6]) * (8 : Nat)) (140737488355328 : Nat)

def spec_DrawRunMoves_l0_22 (y1 : Int) (y2 : Int) (y5 : List Int) (y6 : List Int) (y7 : List Int) : List Int :=
  y5 ++ [dtV y1 y2 y7 y6]

def JL_spec_DrawRunMoves_l0 : X_spec_DrawRunMoves_l0 → List (Nat × SV)
  | (y0, _, _, _, _, _, _, _, _) => [(8, (.one ⟨false, [(.val (.int IntKind.i64 y0))]⟩)), (4, (.one ⟨false, [(.ptr 0 0)]⟩)), (5, (.one ⟨false, [(.ptr 1 0)]⟩)), (7, (.one ⟨false, [(.ptr 2 0)]⟩)), (6, (.one ⟨false, [(.ref 3)]⟩))]

def JE_spec_DrawRunMoves_l0 : X_spec_DrawRunMoves_l0 → List (Nat × Entry)
  | (_, y1, y2, y3, y4, y5, y6, y7, y8) => [(0, (.box 139 [(.ref 4), (.val (.int IntKind.i64 y1)), (.val (.int IntKind.i64 y2))])), (1, (.box 26 [(.val (.int IntKind.i64 y3)), (.ref 5)])), (2, (.box 26 [(.val (.int IntKind.i64 y4)), (.ref 6)])), (4, (.row false 5 (CTy.int IntKind.u8) y6)), (5, (.row false 2 (CTy.int IntKind.i64) y7)), (3, (.row true 2 (CTy.int IntKind.i64) y5)), (6, (.row false 2 (CTy.int IntKind.i64) y8))]

def XL_spec_DrawRunMoves_l0 : Nat → X_spec_DrawRunMoves_l0 → List (Nat × SV)
  | 0, (_, _, _, _, _, _, _, _, _) => [(6, (.one ⟨false, [(.ref 3)]⟩))]
  | _, (_, _, _, _, _, _, _, _, _) => [(6, (.one ⟨false, [(.ref 3)]⟩))]

def XE_spec_DrawRunMoves_l0 : Nat → X_spec_DrawRunMoves_l0 → List (Nat × Entry)
  | 0, (_, y1, y2, y3, y4, y5, y6, y7, y8) => [(0, (.box 139 [(.ref 4), (.val (.int IntKind.i64 (spec_DrawRunMoves_l0_6 y1 y2 y4 y6 y7 y8))), (.val (.int IntKind.i64 (spec_DrawRunMoves_l0_7 y1 y2 y4 y6 y7 y8)))])), (1, (.box 26 [(.val (.int IntKind.i64 y3)), (.ref 5)])), (2, (.box 26 [(.val (.int IntKind.i64 y4)), (.ref 6)])), (3, (.row true 2 (CTy.int IntKind.i64) y5)), (4, (.row false 5 (CTy.int IntKind.u8) y6)), (5, (.row false 2 (CTy.int IntKind.i64) y7)), (6, (.row false 2 (CTy.int IntKind.i64) y8))]
  | _, (_, y1, y2, y3, y4, y5, y6, y7, y8) => [(0, (.box 139 [(.ref 4), (.val (.int IntKind.i64 y1)), (.val (.int IntKind.i64 y2))])), (1, (.box 26 [(.val (.int IntKind.i64 y3)), (.ref 5)])), (2, (.box 26 [(.val (.int IntKind.i64 y4)), (.ref 6)])), (3, (.row true 2 (CTy.int IntKind.i64) y5)), (4, (.row false 5 (CTy.int IntKind.u8) y6)), (5, (.row false 2 (CTy.int IntKind.i64) y7)), (6, (.row false 2 (CTy.int IntKind.i64) y8))]

def lt_spec_DrawRunMoves_l0 : X_spec_DrawRunMoves_l0 → LT X_spec_DrawRunMoves_l0
  | (y0, y1, y2, y3, y4, y5, y6, y7, y8) => .ite (spec_DrawRunMoves_l0_0 y0) (.need [(spec_DrawRunMoves_l0_1 y1 y2 y6)] (.need [(spec_DrawRunMoves_l0_2 y1 y2 y4 y6 y7 y8)] (.need [(spec_DrawRunMoves_l0_3 y1 y2 y4 y6 y7 y8)] (.ite (spec_DrawRunMoves_l0_4 y1 y2 y4 y6 y7 y8) (.ite (spec_DrawRunMoves_l0_5 y4 y8) (.ext 0 [(0, 0), (1, 1), (2, 2), (3, 3), (4, 4), (5, 5), (6, 6)]) (.need [(spec_DrawRunMoves_l0_8 y1 y2 y4 y6 y7 y8), (spec_DrawRunMoves_l0_9 y1 y2 y4 y6 y7 y8), (spec_DrawRunMoves_l0_10 y1 y2 y4 y6 y7 y8), (spec_DrawRunMoves_l0_11 y1 y2 y4 y6 y7 y8)] (.need [(spec_DrawRunMoves_l0_12 y1 y2 y4 y6 y7 y8)] (.need [(spec_DrawRunMoves_l0_13 y1 y2 y4 y5 y6 y7 y8), (spec_DrawRunMoves_l0_14 y1 y2 y4 y5 y6 y7 y8)] (.nrm ((spec_DrawRunMoves_l0_15 y0), (spec_DrawRunMoves_l0_16 y1 y2 y4 y6 y7 y8), (spec_DrawRunMoves_l0_17 y1 y2 y4 y6 y7 y8), y3, y4, (spec_DrawRunMoves_l0_18 y1 y2 y4 y5 y6 y7 y8), y6, y7, (spec_DrawRunMoves_l0_19 y1 y2 y4 y6 y7 y8)) [(0, 0), (1, 1), (2, 2), (3, 2240), (4, 4), (5, 5), (6, 1920)]))))) (.need [(spec_DrawRunMoves_l0_20 y1 y2 y5 y6 y7), (spec_DrawRunMoves_l0_21 y1 y2 y5 y6 y7)] (.nrm ((spec_DrawRunMoves_l0_15 y0), (spec_DrawRunMoves_l0_6 y1 y2 y4 y6 y7 y8), (spec_DrawRunMoves_l0_7 y1 y2 y4 y6 y7 y8), y3, y4, (spec_DrawRunMoves_l0_22 y1 y2 y5 y6 y7), y6, y7, y8) [(0, 0), (1, 1), (2, 2), (3, 1088), (4, 4), (5, 5), (6, 6)])))))) (.ext 1 [(0, 0), (1, 1), (2, 2), (3, 3), (4, 4), (5, 5), (6, 6)])

def rd_spec_DrawRunMoves_l0 (s : St) : Option X_spec_DrawRunMoves_l0 :=
  (match s.look 8 with
  | some ⟨none, (.one ⟨false, [(.val (.int IntKind.i64 y0))]⟩)⟩ =>
  (match s.look 4 with
  | some ⟨none, (.one ⟨false, [(.ptr 320 0)]⟩)⟩ =>
  (match s.look 5 with
  | some ⟨none, (.one ⟨false, [(.ptr 576 0)]⟩)⟩ =>
  (match s.look 7 with
  | some ⟨none, (.one ⟨false, [(.ptr 896 0)]⟩)⟩ =>
  (match s.look 6 with
  | some ⟨none, (.one ⟨false, [(.ref 704)]⟩)⟩ =>
  (match s.ent 320 with
  | some (.box 139 [(.ref 0), (.val (.int IntKind.i64 y1)), (.val (.int IntKind.i64 y2))]) =>
  (match s.ent 576 with
  | some (.box 26 [(.val (.int IntKind.i64 y3)), (.ref 512)]) =>
  (match s.ent 896 with
  | some (.box 26 [(.val (.int IntKind.i64 y4)), (.ref 1792)]) =>
  (match s.ent 0 with
  | some (.row false 5 (CTy.int IntKind.u8) y6) =>
  (match s.ent 512 with
  | some (.row false 2 (CTy.int IntKind.i64) y7) =>
  (match s.ent 704 with
  | some (.row true 2 (CTy.int IntKind.i64) y5) =>
  (match s.ent 1792 with
  | some (.row false 2 (CTy.int IntKind.i64) y8) =>
  some (y0, y1, y2, y3, y4, y5, y6, y7, y8)
  | _ => none)
  | _ => none)
  | _ => none)
  | _ => none)
  | _ => none)
  | _ => none)
  | _ => none)
  | _ => none)
  | _ => none)
  | _ => none)
  | _ => none)
  | _ => none)

def lp_spec_DrawRunMoves_l0 : Lp X_spec_DrawRunMoves_l0 where
  h := ⟨[19, 20, 23, 24, 25, 9, 26, 27, 28, 29, 30, 31, 32, 33, 34, 10, 35, 36, 37, 38, 39, 40, 41, 42, 43, 44, 45, 46, 47, 48, 49, 50, 51, 6, 21, 22, 8], [0, 1, 2, 4, 5], [3, 6], []⟩
  JL := JL_spec_DrawRunMoves_l0
  JE := JE_spec_DrawRunMoves_l0
  XL := XL_spec_DrawRunMoves_l0
  XE := XE_spec_DrawRunMoves_l0
  q := fun j => match j with | 0 => .exit 0 | _ => .exit 0
  tags := [0, 1]
  lt := lt_spec_DrawRunMoves_l0
  fuel := fun (y0, y1, y2, y3, y4, y5, y6, y7, y8) => y0.natAbs + y1.natAbs + y2.natAbs + y3.natAbs + y4.natAbs + y5.length + y6.length + y7.length + y8.length
  fix := fun (_, _, _, y3, y4, _, y6, y7, _) (y0, y1, y2, _, _, y5, _, _, y8) => (y0, y1, y2, y3, y4, y5, y6, y7, y8)
  σ := [(0, 320), (1, 576), (2, 896), (4, 0), (5, 512), (3, 704), (6, 1792)]
  rd := rd_spec_DrawRunMoves_l0
  fz := [2]

theorem lpok_spec_DrawRunMoves_l0 : LoopOk Try.prog (fun k => Nat.blt k Try.f48.ntmps) lp_spec_DrawRunMoves_l0.F (loopAt Try.f48 0) := by
  refine Lp.ok (tbl := [n_spec_l01Next, PF.lend n_spec_l01Next, PF.fz n_spec_l01Next, n_spec_l10DrawTrain, PF.lend n_spec_l10DrawTrain, PF.fz n_spec_l10DrawTrain, n_spec_IsSafeTraffic, PF.lend n_spec_IsSafeTraffic, PF.fz n_spec_IsSafeTraffic, n_spec_l10Move, PF.lend n_spec_l10Move, PF.fz n_spec_l10Move, n_spec_l01From, PF.lend n_spec_l01From, PF.fz n_spec_l01From, p_spec_l10Allowed, PF.lend p_spec_l10Allowed, PF.fz p_spec_l10Allowed, n_spec_l10Draw, PF.lend n_spec_l10Draw, PF.fz n_spec_l10Draw]) (lf := []) hmix lp_spec_DrawRunMoves_l0 (by kernel_rfl) (LOk.nil _) (fun _ => rfl) (fun j _ => by unfold lp_spec_DrawRunMoves_l0; match j with | 0 => rfl | _ + 1 => rfl) ?_ ?_ ?_ ?_ (fun _ => rfl) ?_
  · intro x; obtain ⟨y0, y1, y2, y3, y4, y5, y6, y7, y8⟩ := x; kernel_rfl
  · intro x; obtain ⟨y0, y1, y2, y3, y4, y5, y6, y7, y8⟩ := x; kernel_rfl
  · intro s x h
    have h : rd_spec_DrawRunMoves_l0 s = some x := h
    unfold rd_spec_DrawRunMoves_l0 at h
    repeat' split at h
    all_goals cases h
    exact ⟨absS_cons (by assumption) rfl (absS_cons (by assumption) rfl (absS_cons (by assumption) rfl (absS_cons (by assumption) rfl (absS_cons (by assumption) rfl (rfl))))), absE_cons rfl (by assumption) rfl (absE_cons rfl (by assumption) rfl (absE_cons rfl (by assumption) rfl (absE_cons rfl (by assumption) rfl (absE_cons rfl (by assumption) rfl (absE_cons rfl (by assumption) rfl (absE_cons rfl (by assumption) rfl (rfl)))))))⟩
  · intro x; obtain ⟨y0, y1, y2, y3, y4, y5, y6, y7, y8⟩ := x; kernel_rfl
  · intro x z; obtain ⟨y0, y1, y2, y3, y4, y5, y6, y7, y8⟩ := x; exact (And.intro (And.intro (And.intro trivial rfl) rfl) trivial)

def spec_DrawRunMoves_a0 (x0 : List Int) : Int × Int × Int × Int × Int × List Int × List Int × List Int × List Int :=
  (nxV (14 : Int) (spec_l10Draw_1 (0 : Int) (frS x0) x0) (spec_l10Draw_2 (0 : Int) (frS x0) x0) x0,
  nxA (14 : Int) (spec_l10Draw_1 (0 : Int) (frS x0) x0) x0,
  nxS (14 : Int) (spec_l10Draw_1 (0 : Int) (frS x0) x0) (spec_l10Draw_2 (0 : Int) (frS x0) x0) x0, spec_l10Draw_0 (0 : Int) (frS x0) x0,
  spec_l10Draw_0 (0 : Int) (frS x0) x0, [], x0, spec_l10Draw_3 (0 : Int) (frS x0) x0, spec_l10Draw_3 (0 : Int) (frS x0) x0)

def spec_DrawRunMoves_a1 (x0 : List Int) : Bool :=
  Nat.beq (Prod.fst (Lp.res lp_spec_DrawRunMoves_l0 (spec_DrawRunMoves_a0 x0))) (0 : Nat)

def spec_DrawRunMoves_a2 (x0 : List Int) : Int × Int × Int × Int × List Int × List Int × List Int × List Int :=
  Prod.snd (Prod.snd (Lp.res lp_spec_DrawRunMoves_l0 (spec_DrawRunMoves_a0 x0)))

def spec_DrawRunMoves_a3 (x0 : List Int) : Int :=
  Prod.fst (spec_DrawRunMoves_a2 x0)

def spec_DrawRunMoves_a4 (x0 : List Int) : Int × Int × Int × List Int × List Int × List Int × List Int :=
  Prod.snd (spec_DrawRunMoves_a2 x0)

def spec_DrawRunMoves_a5 (x0 : List Int) : Int :=
  Prod.fst (spec_DrawRunMoves_a4 x0)

def spec_DrawRunMoves_a6 (x0 : List Int) : List Int × List Int × List Int × List Int :=
  Prod.snd (Prod.snd (Prod.snd (spec_DrawRunMoves_a4 x0)))

def spec_DrawRunMoves_a7 (x0 : List Int) : List Int :=
  Prod.snd (Prod.snd (Prod.snd (spec_DrawRunMoves_a6 x0)))

def spec_DrawRunMoves_a8 (x0 : List Int) : Int :=
  spec_DrawRunMoves_l0_6 (spec_DrawRunMoves_a3 x0) (spec_DrawRunMoves_a5 x0) (spec_l10Draw_0 (0 : Int) (frS x0) x0) x0
  (spec_l10Draw_3 (0 : Int) (frS x0) x0) (spec_DrawRunMoves_a7 x0)

def spec_DrawRunMoves_a9 (x0 : List Int) : Int :=
  spec_DrawRunMoves_l0_7 (spec_DrawRunMoves_a3 x0) (spec_DrawRunMoves_a5 x0) (spec_l10Draw_0 (0 : Int) (frS x0) x0) x0
  (spec_l10Draw_3 (0 : Int) (frS x0) x0) (spec_DrawRunMoves_a7 x0)

def spec_DrawRunMoves_a10 (x0 : List Int) : Bool :=
  nxV (60 : Int) (spec_DrawRunMoves_a8 x0) (spec_DrawRunMoves_a9 x0) x0 == (0 : Int)

def spec_DrawRunMoves_a11 (x0 : List Int) : Bool :=
  nxV (60 : Int) (spec_DrawRunMoves_a3 x0) (spec_DrawRunMoves_a5 x0) x0 == (0 : Int)

def spec_DrawRunMoves_a12 (x0 : List Int) : Int :=
  IntKind.wrap IntKind.i64
  ((200 : Int) +
    nxV (2 : Int) (nxA (60 : Int) (spec_DrawRunMoves_a8 x0) x0) (nxS (60 : Int) (spec_DrawRunMoves_a8 x0) (spec_DrawRunMoves_a9 x0) x0) x0)

def spec_DrawRunMoves_a13 (x0 : List Int) : List Int :=
  Prod.fst (spec_DrawRunMoves_a6 x0)

def spec_DrawRunMoves_a14 (x0 : List Int) : Int :=
  IntKind.wrap IntKind.i64
  ((200 : Int) +
    nxV (2 : Int) (nxA (60 : Int) (spec_DrawRunMoves_a3 x0) x0) (nxS (60 : Int) (spec_DrawRunMoves_a3 x0) (spec_DrawRunMoves_a5 x0) x0) x0)

def spec_DrawRunMoves_0 (x0 : List Int) : Int :=
  bif spec_DrawRunMoves_a1 x0 then bif spec_DrawRunMoves_a10 x0 then spec_l10Draw_0 (0 : Int) (frS x0) x0 else spec_l10Draw_0 (0 : Int) (frS x0) x0
  else bif spec_DrawRunMoves_a11 x0 then spec_l10Draw_0 (0 : Int) (frS x0) x0 else spec_l10Draw_0 (0 : Int) (frS x0) x0

def spec_DrawRunMoves_1 (x0 : List Int) : List Int :=
  bif spec_DrawRunMoves_a1 x0 then bif spec_DrawRunMoves_a10 x0 then spec_l10Draw_3 (0 : Int) (frS x0) x0 else spec_l10Draw_3 (0 : Int) (frS x0) x0
  else bif spec_DrawRunMoves_a11 x0 then spec_l10Draw_3 (0 : Int) (frS x0) x0 else spec_l10Draw_3 (0 : Int) (frS x0) x0

def spec_DrawRunMoves_2 (x0 : List Int) : List Int :=
  bif spec_DrawRunMoves_a1 x0 then
  bif spec_DrawRunMoves_a10 x0 then List.replicate (Int.toNat (spec_DrawRunMoves_a12 x0)) (0 : Int) else spec_DrawRunMoves_a13 x0
  else bif spec_DrawRunMoves_a11 x0 then List.replicate (Int.toNat (spec_DrawRunMoves_a14 x0)) (0 : Int) else spec_DrawRunMoves_a13 x0

def spec_DrawRunMoves_3 (x0 : List Int) : Bool :=
  allT
  [srcOk (0 : Int) (0 : Int) x0, srcOk (0 : Int) (frS x0) x0, srcOk (spec_l10Draw_1 (0 : Int) (frS x0) x0) (spec_l10Draw_2 (0 : Int) (frS x0) x0) x0,
    Lp.fin lp_spec_DrawRunMoves_l0 (spec_DrawRunMoves_a0 x0),
    !spec_DrawRunMoves_a1 x0 || srcOk (spec_DrawRunMoves_a8 x0) (spec_DrawRunMoves_a9 x0) x0,
    !spec_DrawRunMoves_a1 x0 ||
      (!spec_DrawRunMoves_a10 x0 ||
        srcOk (nxA (60 : Int) (spec_DrawRunMoves_a8 x0) x0) (nxS (60 : Int) (spec_DrawRunMoves_a8 x0) (spec_DrawRunMoves_a9 x0) x0) x0),
    !spec_DrawRunMoves_a1 x0 || (!spec_DrawRunMoves_a10 x0 || leI (0 : Int) (spec_DrawRunMoves_a12 x0)),
    !spec_DrawRunMoves_a1 x0 || (!spec_DrawRunMoves_a10 x0 || leI (spec_DrawRunMoves_a12 x0) (spec_DrawRunMoves_a12 x0)),
    !spec_DrawRunMoves_a1 x0 || (!spec_DrawRunMoves_a10 x0 || leI ((↑(8 : Nat) : Int) * spec_DrawRunMoves_a12 x0) (281474976710656 : Int)),
    !spec_DrawRunMoves_a1 x0 || (!spec_DrawRunMoves_a10 x0 || leI (spec_DrawRunMoves_a12 x0) (9223372036854775807 : Int)),
    spec_DrawRunMoves_a1 x0 || srcOk (spec_DrawRunMoves_a3 x0) (spec_DrawRunMoves_a5 x0) x0,
    spec_DrawRunMoves_a1 x0 ||
      (!spec_DrawRunMoves_a11 x0 ||
        srcOk (nxA (60 : Int) (spec_DrawRunMoves_a3 x0) x0) (nxS (60 : Int) (spec_DrawRunMoves_a3 x0) (spec_DrawRunMoves_a5 x0) x0) x0),
    spec_DrawRunMoves_a1 x0 || (!spec_DrawRunMoves_a11 x0 || leI (0 : Int) (spec_DrawRunMoves_a14 x0)),
    spec_DrawRunMoves_a1 x0 || (!spec_DrawRunMoves_a11 x0 || leI (spec_DrawRunMoves_a14 x0) (spec_DrawRunMoves_a14 x0)),
    spec_DrawRunMoves_a1 x0 || (!spec_DrawRunMoves_a11 x0 || leI ((↑(8 : Nat) : Int) * spec_DrawRunMoves_a14 x0) (281474976710656 : Int)),
    spec_DrawRunMoves_a1 x0 || (!spec_DrawRunMoves_a11 x0 || leI (spec_DrawRunMoves_a14 x0) (9223372036854775807 : Int))]

def F_spec_DrawRunMoves : List SV → List Entry → Option Out
  | [.one ⟨false, [.ref 0]⟩], [.row false 5 (.int .u8) x0] => some ⟨(.tup [⟨true, [(.val (.int IntKind.i64 (spec_DrawRunMoves_0 x0))), (.ref 1)]⟩, ⟨false, [(.ref 2)]⟩]), [(.row false 5 (CTy.int IntKind.u8) x0)], [(.row false 2 (CTy.int IntKind.i64) (spec_DrawRunMoves_1 x0)), (.row true 2 (CTy.int IntKind.i64) (spec_DrawRunMoves_2 x0))], [(spec_DrawRunMoves_3 x0)]⟩
  | _, _ => none

def p_spec_DrawRunMoves : PF Try.prog := PF.ofG Try.prog [n_spec_l01Next, PF.lend n_spec_l01Next, PF.fz n_spec_l01Next, n_spec_l10DrawTrain, PF.lend n_spec_l10DrawTrain, PF.fz n_spec_l10DrawTrain, n_spec_IsSafeTraffic, PF.lend n_spec_IsSafeTraffic, PF.fz n_spec_IsSafeTraffic, n_spec_l10Move, PF.lend n_spec_l10Move, PF.fz n_spec_l10Move, n_spec_l01From, PF.lend n_spec_l01From, PF.fz n_spec_l01From, p_spec_l10Allowed, PF.lend p_spec_l10Allowed, PF.fz p_spec_l10Allowed, n_spec_l10Draw, PF.lend n_spec_l10Draw, PF.fz n_spec_l10Draw] [(fun s => lp_spec_DrawRunMoves_l0.F (aliasS [(896, 1)] s))] hmix 48 Try.f48 Try.func48 (LOk.fnT (l := [loopAt Try.f48 0]) (by kernel_rfl) (.cons (lpok_spec_DrawRunMoves_l0.alias [(896, 1)]) (.nil _))) F_spec_DrawRunMoves (by
  intro vs es r h; unfold F_spec_DrawRunMoves at h; split at h
  · cases h; kernel_rfl
  · cases h)

abbrev X_spec_l25Draw_l0 := Int × List (Int × (Int × Int)) × Int × Int × Int × List Int × List Int

def spec_l25Draw_l0_a0 (y2 : Int) (y3 : Int) (y4 : Int) (y5 : List Int) (y6 : List Int) : List (Int × Int × Int) :=
  [(spec_l25DrawEvent_0 y4 y2 y3 y6 y5, spec_l25DrawEvent_1 y4 y2 y3 y6 y5, spec_l25DrawEvent_2 y4 y2 y3 y6 y5)]

def spec_l25Draw_l0_a1 (y1 : List (Int × (Int × Int))) (y2 : Int) (y3 : Int) (y4 : Int) (y5 : List Int) (y6 : List Int) : List (Int × Int × Int) :=
  y1 ++ spec_l25Draw_l0_a0 y2 y3 y4 y5 y6

def spec_l25Draw_l0_a2 (y1 : List (Int × (Int × Int))) (y2 : Int) (y3 : Int) (y4 : Int) (y5 : List Int) (y6 : List Int) : Bool :=
  spec_RunReplay_1 y4 y6 (spec_l25Draw_l0_a1 y1 y2 y3 y4 y5 y6) == (0 : Int)

def spec_l25Draw_l0_0 (y0 : Int) : Bool :=
  ltI (0 : Int) y0

def spec_l25Draw_l0_1 (y1 : List (Int × (Int × Int))) : Bool :=
  leN ((0 : Nat) + List.length y1) (9223372036854775807 : Nat)

def spec_l25Draw_l0_2 (y1 : List (Int × (Int × Int))) : Bool :=
  leN (((0 : Nat) + List.length y1) * (24 : Nat)) (140737488355328 : Nat)

def spec_l25Draw_l0_3 (y2 : Int) (y3 : Int) (y5 : List Int) : Bool :=
  srcOk y2 y3 y5

def spec_l25Draw_l0_4 (y1 : List (Int × (Int × Int))) (y2 : Int) (y3 : Int) (y4 : Int) (y5 : List Int) (y6 : List Int) : Bool :=
  leN (List.length y1 + List.length (spec_l25Draw_l0_a0 y2 y3 y4 y5 y6)) (9223372036854775807 : Nat)

def spec_l25Draw_l0_5 (y1 : List (Int × (Int × Int))) (y2 : Int) (y3 : Int) (y4 : Int) (y5 : List Int) (y6 : List Int) : Bool :=
  leN ((List.length y1 + List.length (spec_l25Draw_l0_a0 y2 y3 y4 y5 y6)) * (24 : Nat)) (140737488355328 : Nat)

def spec_l25Draw_l0_6 (y1 : List (Int × (Int × Int))) (y2 : Int) (y3 : Int) (y4 : Int) (y5 : List Int) (y6 : List Int) : Bool :=
  !(!spec_l25Draw_l0_a2 y1 y2 y3 y4 y5 y6 && true) || srcOk (spec_l25DrawEvent_3 y4 y2 y3 y6 y5) (spec_l25DrawEvent_4 y4 y2 y3 y6 y5) y5

def spec_l25Draw_l0_7 (y1 : List (Int × (Int × Int))) (y2 : Int) (y3 : Int) (y4 : Int) (y5 : List Int) (y6 : List Int) : Bool :=
  bif spec_l25Draw_l0_a2 y1 y2 y3 y4 y5 y6 then true
  else nxV (60 : Int) (spec_l25DrawEvent_3 y4 y2 y3 y6 y5) (spec_l25DrawEvent_4 y4 y2 y3 y6 y5) y5 == (0 : Int)

def spec_l25Draw_l0_8 (y0 : Int) : Int :=
  IntKind.wrap IntKind.i64 (y0 - (1 : Int))

def spec_l25Draw_l0_9 (y1 : List (Int × (Int × Int))) (y2 : Int) (y3 : Int) (y4 : Int) (y5 : List Int) (y6 : List Int) : List (Int × (Int × Int)) :=
  spec_l25Draw_l0_a1 y1 y2 y3 y4 y5 y6

def spec_l25Draw_l0_10 (y1 : List (Int × (Int × Int))) (y2 : Int) (y3 : Int) (y4 : Int) (y5 : List Int) (y6 : List Int) : Int :=
  bif !spec_l25Draw_l0_a2 y1 y2 y3 y4 y5 y6 && true then nxA (60 : Int) (spec_l25DrawEvent_3 y4 y2 y3 y6 y5) y5 else spec_l25DrawEvent_3 y4 y2 y3 y6 y5

def spec_l25Draw_l0_11 (y1 : List (Int × (Int × Int))) (y2 : Int) (y3 : Int) (y4 : Int) (y5 : List Int) (y6 : List Int) : Int :=
  bif !spec_l25Draw_l0_a2 y1 y2 y3 y4 y5 y6 && true then nxS (60 : Int) (spec_l25DrawEvent_3 y4 y2 y3 y6 y5) (spec_l25DrawEvent_4 y4 y2 y3 y6 y5) y5
  else spec_l25DrawEvent_4 y4 y2 y3 y6 y5

def JL_spec_l25Draw_l0 : X_spec_l25Draw_l0 → List (Nat × SV)
  | (y0, _, _, _, _, _, _) => [(6, (.one ⟨false, [(.val (.int IntKind.i64 y0))]⟩)), (5, (.one ⟨false, [(.ref 0)]⟩)), (0, (.one ⟨false, [(.ptr 1 0)]⟩)), (4, (.one ⟨false, [(.ptr 2 0)]⟩))]

def JE_spec_l25Draw_l0 : X_spec_l25Draw_l0 → List (Nat × Entry)
  | (_, y1, y2, y3, y4, y5, y6) => [(1, (.box 139 [(.ref 3), (.val (.int IntKind.i64 y2)), (.val (.int IntKind.i64 y3))])), (2, (.box 26 [(.val (.int IntKind.i64 y4)), (.ref 4)])), (3, (.row false 5 (CTy.int IntKind.u8) y5)), (4, (.row true 2 (CTy.int IntKind.i64) y6)), (0, (.row true 129 (CTy.pair (CTy.int IntKind.i64) (CTy.pair (CTy.int IntKind.i64) (CTy.int IntKind.i64))) y1))]

def XL_spec_l25Draw_l0 : Nat → X_spec_l25Draw_l0 → List (Nat × SV)
  | _, (_, _, _, _, _, _, _) => [(5, (.one ⟨false, [(.ref 0)]⟩))]

def XE_spec_l25Draw_l0 : Nat → X_spec_l25Draw_l0 → List (Nat × Entry)
  | _, (_, y1, y2, y3, y4, y5, y6) => [(0, (.row true 129 (CTy.pair (CTy.int IntKind.i64) (CTy.pair (CTy.int IntKind.i64) (CTy.int IntKind.i64))) y1)), (1, (.box 139 [(.ref 3), (.val (.int IntKind.i64 y2)), (.val (.int IntKind.i64 y3))])), (2, (.box 26 [(.val (.int IntKind.i64 y4)), (.ref 4)])), (3, (.row false 5 (CTy.int IntKind.u8) y5)), (4, (.row true 2 (CTy.int IntKind.i64) y6))]

def lt_spec_l25Draw_l0 : X_spec_l25Draw_l0 → LT X_spec_l25Draw_l0
  | (y0, y1, y2, y3, y4, y5, y6) => .ite (spec_l25Draw_l0_0 y0) (.need [(spec_l25Draw_l0_1 y1), (spec_l25Draw_l0_2 y1), (spec_l25Draw_l0_3 y2 y3 y5), (spec_l25Draw_l0_4 y1 y2 y3 y4 y5 y6), (spec_l25Draw_l0_5 y1 y2 y3 y4 y5 y6)] (.need [(spec_l25Draw_l0_6 y1 y2 y3 y4 y5 y6)] (.ite (spec_l25Draw_l0_7 y1 y2 y3 y4 y5 y6) (.nrm ((spec_l25Draw_l0_8 y0), (spec_l25Draw_l0_9 y1 y2 y3 y4 y5 y6), (spec_l25Draw_l0_10 y1 y2 y3 y4 y5 y6), (spec_l25Draw_l0_11 y1 y2 y3 y4 y5 y6), y4, y5, y6) [(0, 640), (1, 1), (2, 2), (3, 3), (4, 4)]) (.nrm ((spec_l25Draw_l0_8 y0), y1, (spec_l25Draw_l0_10 y1 y2 y3 y4 y5 y6), (spec_l25Draw_l0_11 y1 y2 y3 y4 y5 y6), y4, y5, y6) [(0, 0), (1, 1), (2, 2), (3, 3), (4, 4)])))) (.ext 0 [(0, 0), (1, 1), (2, 2), (3, 3), (4, 4)])

def rd_spec_l25Draw_l0 (s : St) : Option X_spec_l25Draw_l0 :=
  (match s.look 6 with
  | some ⟨none, (.one ⟨false, [(.val (.int IntKind.i64 y0))]⟩)⟩ =>
  (match s.look 5 with
  | some ⟨none, (.one ⟨false, [(.ref 576)]⟩)⟩ =>
  (match s.look 0 with
  | some ⟨none, (.one ⟨false, [(.ptr 0 0)]⟩)⟩ =>
  (match s.look 4 with
  | some ⟨none, (.one ⟨false, [(.ptr 448 0)]⟩)⟩ =>
  (match s.ent 0 with
  | some (.box 139 [(.ref 1), (.val (.int IntKind.i64 y2)), (.val (.int IntKind.i64 y3))]) =>
  (match s.ent 448 with
  | some (.box 26 [(.val (.int IntKind.i64 y4)), (.ref 384)]) =>
  (match s.ent 1 with
  | some (.row false 5 (CTy.int IntKind.u8) y5) =>
  (match s.ent 384 with
  | some (.row true 2 (CTy.int IntKind.i64) y6) =>
  (match s.ent 576 with
  | some (.row true 129 (CTy.pair (CTy.int IntKind.i64) (CTy.pair (CTy.int IntKind.i64) (CTy.int IntKind.i64))) y1) =>
  some (y0, y1, y2, y3, y4, y5, y6)
  | _ => none)
  | _ => none)
  | _ => none)
  | _ => none)
  | _ => none)
  | _ => none)
  | _ => none)
  | _ => none)
  | _ => none)

def lp_spec_l25Draw_l0 : Lp X_spec_l25Draw_l0 where
  h := ⟨[16, 17, 20, 21, 22, 23, 24, 25, 26, 27, 7, 29, 30, 31, 28, 32, 33, 34, 8, 9, 10, 35, 36, 37, 38, 39, 40, 41, 42, 5, 18, 19, 6], [1, 2, 3, 4], [0], []⟩
  JL := JL_spec_l25Draw_l0
  JE := JE_spec_l25Draw_l0
  XL := XL_spec_l25Draw_l0
  XE := XE_spec_l25Draw_l0
  q := fun j => match j with | _ => .exit 0
  tags := [0]
  lt := lt_spec_l25Draw_l0
  fuel := fun (y0, y1, y2, y3, y4, y5, y6) => y0.natAbs + y1.length + y2.natAbs + y3.natAbs + y4.natAbs + y5.length + y6.length
  fix := fun (_, _, _, _, y4, y5, y6) (y0, y1, y2, y3, _, _, _) => (y0, y1, y2, y3, y4, y5, y6)
  σ := [(1, 0), (2, 448), (3, 1), (4, 384), (0, 576)]
  rd := rd_spec_l25Draw_l0

theorem lpok_spec_l25Draw_l0 : LoopOk Try.prog (fun k => Nat.blt k Try.f118.ntmps) lp_spec_l25Draw_l0.F (loopAt Try.f118 0) := by
  refine Lp.ok (tbl := [n_spec_l01Next, PF.lend n_spec_l01Next, PF.fz n_spec_l01Next, n_spec_l25DrawEvent, PF.lend n_spec_l25DrawEvent, PF.fz n_spec_l25DrawEvent, p_spec_RunReplay, PF.lend p_spec_RunReplay, PF.fz p_spec_RunReplay, n_spec_l10Draw, PF.lend n_spec_l10Draw, PF.fz n_spec_l10Draw]) (lf := []) hmix lp_spec_l25Draw_l0 (by kernel_rfl) (LOk.nil _) (fun _ => rfl) (fun _ _ => rfl) ?_ ?_ ?_ ?_ (fun _ => rfl) ?_
  · intro x; obtain ⟨y0, y1, y2, y3, y4, y5, y6⟩ := x; kernel_rfl
  · intro x; obtain ⟨y0, y1, y2, y3, y4, y5, y6⟩ := x; kernel_rfl
  · intro s x h
    have h : rd_spec_l25Draw_l0 s = some x := h
    unfold rd_spec_l25Draw_l0 at h
    repeat' split at h
    all_goals cases h
    exact ⟨absS_cons (by assumption) rfl (absS_cons (by assumption) rfl (absS_cons (by assumption) rfl (absS_cons (by assumption) rfl (rfl)))), absE_cons rfl (by assumption) rfl (absE_cons rfl (by assumption) rfl (absE_cons rfl (by assumption) rfl (absE_cons rfl (by assumption) rfl (absE_cons rfl (by assumption) rfl (rfl)))))⟩
  · intro x; obtain ⟨y0, y1, y2, y3, y4, y5, y6⟩ := x; kernel_rfl
  · intro x z; obtain ⟨y0, y1, y2, y3, y4, y5, y6⟩ := x; exact (And.intro (And.intro rfl rfl) trivial)

def spec_l25Draw_a0 (x0 : Int) (x1 : Int) (x2 : List Int) : Int × List (Int × Int × Int) × Int × Int × Int × List Int × List Int :=
  (nxV (14 : Int) (spec_l10Draw_1 x0 x1 x2) (spec_l10Draw_2 x0 x1 x2) x2, [], nxA (14 : Int) (spec_l10Draw_1 x0 x1 x2) x2,
  nxS (14 : Int) (spec_l10Draw_1 x0 x1 x2) (spec_l10Draw_2 x0 x1 x2) x2, spec_l10Draw_0 x0 x1 x2, x2, spec_l10Draw_3 x0 x1 x2)

def spec_l25Draw_a1 (x0 : Int) (x1 : Int) (x2 : List Int) : List (Int × Int × Int) × Int × Int × Int × List Int × List Int :=
  Prod.snd (Prod.snd (Lp.res lp_spec_l25Draw_l0 (spec_l25Draw_a0 x0 x1 x2)))

def spec_l25Draw_a2 (x0 : Int) (x1 : Int) (x2 : List Int) : Int × Int × Int × List Int × List Int :=
  Prod.snd (spec_l25Draw_a1 x0 x1 x2)

def spec_l25Draw_a3 (x0 : Int) (x1 : Int) (x2 : List Int) : Int :=
  Prod.fst (spec_l25Draw_a2 x0 x1 x2)

def spec_l25Draw_a4 (x0 : Int) (x1 : Int) (x2 : List Int) : Int :=
  Prod.fst (Prod.snd (spec_l25Draw_a2 x0 x1 x2))

def spec_l25Draw_a5 (x0 : Int) (x1 : Int) (x2 : List Int) : Bool :=
  nxV (60 : Int) (spec_l25Draw_a3 x0 x1 x2) (spec_l25Draw_a4 x0 x1 x2) x2 == (0 : Int)

def spec_l25Draw_a6 (x0 : Int) (x1 : Int) (x2 : List Int) : Int :=
  nxS (60 : Int) (spec_l25Draw_a3 x0 x1 x2) (spec_l25Draw_a4 x0 x1 x2) x2

def spec_l25Draw_a7 (x0 : Int) (x1 : Int) (x2 : List Int) : Int :=
  IntKind.wrap IntKind.i64 ((200 : Int) + nxV (2 : Int) (nxA (60 : Int) (spec_l25Draw_a3 x0 x1 x2) x2) (spec_l25Draw_a6 x0 x1 x2) x2)

def spec_l25Draw_0 (x0 : Int) (x1 : Int) (x2 : List Int) : Int :=
  bif spec_l25Draw_a5 x0 x1 x2 then spec_l10Draw_0 x0 x1 x2 else spec_l10Draw_0 x0 x1 x2

def spec_l25Draw_1 (x0 : Int) (x1 : Int) (x2 : List Int) : Int :=
  bif spec_l25Draw_a5 x0 x1 x2 then nxA (2 : Int) (nxA (60 : Int) (spec_l25Draw_a3 x0 x1 x2) x2) x2 else nxA (60 : Int) (spec_l25Draw_a3 x0 x1 x2) x2

def spec_l25Draw_2 (x0 : Int) (x1 : Int) (x2 : List Int) : Int :=
  bif spec_l25Draw_a5 x0 x1 x2 then nxS (2 : Int) (nxA (60 : Int) (spec_l25Draw_a3 x0 x1 x2) x2) (spec_l25Draw_a6 x0 x1 x2) x2
  else spec_l25Draw_a6 x0 x1 x2

def spec_l25Draw_3 (x0 : Int) (x1 : Int) (x2 : List Int) : List Int :=
  bif spec_l25Draw_a5 x0 x1 x2 then spec_l10Draw_3 x0 x1 x2 else spec_l10Draw_3 x0 x1 x2

def spec_l25Draw_4 (x0 : Int) (x1 : Int) (x2 : List Int) : List (Int × (Int × Int)) :=
  bif spec_l25Draw_a5 x0 x1 x2 then List.replicate (Int.toNat (spec_l25Draw_a7 x0 x1 x2)) ((0 : Int), (0 : Int), (0 : Int))
  else Prod.fst (spec_l25Draw_a1 x0 x1 x2)

def spec_l25Draw_5 (x0 : Int) (x1 : Int) (x2 : List Int) : Bool :=
  allT
  [srcOk x0 x1 x2, srcOk (spec_l10Draw_1 x0 x1 x2) (spec_l10Draw_2 x0 x1 x2) x2, Lp.fin lp_spec_l25Draw_l0 (spec_l25Draw_a0 x0 x1 x2),
    srcOk (spec_l25Draw_a3 x0 x1 x2) (spec_l25Draw_a4 x0 x1 x2) x2,
    !spec_l25Draw_a5 x0 x1 x2 || srcOk (nxA (60 : Int) (spec_l25Draw_a3 x0 x1 x2) x2) (spec_l25Draw_a6 x0 x1 x2) x2,
    !spec_l25Draw_a5 x0 x1 x2 || leI (0 : Int) (spec_l25Draw_a7 x0 x1 x2),
    !spec_l25Draw_a5 x0 x1 x2 || leI (spec_l25Draw_a7 x0 x1 x2) (spec_l25Draw_a7 x0 x1 x2),
    !spec_l25Draw_a5 x0 x1 x2 || leI ((↑(24 : Nat) : Int) * spec_l25Draw_a7 x0 x1 x2) (281474976710656 : Int),
    !spec_l25Draw_a5 x0 x1 x2 || leI (spec_l25Draw_a7 x0 x1 x2) (9223372036854775807 : Int)]

def F_spec_l25Draw : List SV → List Entry → Option Out
  | [.one ⟨false, [.ptr 0 0]⟩], [.box 139 [.ref 1, .val (.int .i64 x0), .val (.int .i64 x1)], .row false 5 (.int .u8) x2] => some ⟨(.tup [⟨true, [(.val (.int IntKind.i64 (spec_l25Draw_0 x0 x1 x2))), (.ref 2)]⟩, ⟨false, [(.ref 3)]⟩]), [(.box 139 [(.ref 1), (.val (.int IntKind.i64 (spec_l25Draw_1 x0 x1 x2))), (.val (.int IntKind.i64 (spec_l25Draw_2 x0 x1 x2)))]), (.row false 5 (CTy.int IntKind.u8) x2)], [(.row true 2 (CTy.int IntKind.i64) (spec_l25Draw_3 x0 x1 x2)), (.row true 129 (CTy.pair (CTy.int IntKind.i64) (CTy.pair (CTy.int IntKind.i64) (CTy.int IntKind.i64))) (spec_l25Draw_4 x0 x1 x2))], [(spec_l25Draw_5 x0 x1 x2)]⟩
  | _, _ => none

def p_spec_l25Draw : PF Try.prog := PF.ofG Try.prog [n_spec_l01Next, PF.lend n_spec_l01Next, PF.fz n_spec_l01Next, n_spec_l25DrawEvent, PF.lend n_spec_l25DrawEvent, PF.fz n_spec_l25DrawEvent, p_spec_RunReplay, PF.lend p_spec_RunReplay, PF.fz p_spec_RunReplay, n_spec_l10Draw, PF.lend n_spec_l10Draw, PF.fz n_spec_l10Draw] [lp_spec_l25Draw_l0.F] hmix 118 Try.f118 Try.func118 (LOk.fnT (l := [loopAt Try.f118 0]) (by kernel_rfl) (.cons lpok_spec_l25Draw_l0 (.nil _))) F_spec_l25Draw (by
  intro vs es r h; unfold F_spec_l25Draw at h; split at h
  · cases h; kernel_rfl
  · cases h)

def spec_DrawRunReplay_0 (x0 : List Int) : Int :=
  spec_l25Draw_0 (0 : Int) (frS x0) x0

def spec_DrawRunReplay_1 (x0 : List Int) : List Int :=
  spec_l25Draw_3 (0 : Int) (frS x0) x0

def spec_DrawRunReplay_2 (x0 : List Int) : List (Int × (Int × Int)) :=
  spec_l25Draw_4 (0 : Int) (frS x0) x0

def spec_DrawRunReplay_3 (x0 : List Int) : Bool :=
  allT [srcOk (0 : Int) (0 : Int) x0, spec_l25Draw_5 (0 : Int) (frS x0) x0]

def F_spec_DrawRunReplay : List SV → List Entry → Option Out
  | [.one ⟨false, [.ref 0]⟩], [.row false 5 (.int .u8) x0] => some ⟨(.tup [⟨true, [(.val (.int IntKind.i64 (spec_DrawRunReplay_0 x0))), (.ref 1)]⟩, ⟨false, [(.ref 2)]⟩]), [(.row false 5 (CTy.int IntKind.u8) x0)], [(.row true 2 (CTy.int IntKind.i64) (spec_DrawRunReplay_1 x0)), (.row true 129 (CTy.pair (CTy.int IntKind.i64) (CTy.pair (CTy.int IntKind.i64) (CTy.int IntKind.i64))) (spec_DrawRunReplay_2 x0))], [(spec_DrawRunReplay_3 x0)]⟩
  | _, _ => none

def p_spec_DrawRunReplay : PF Try.prog := PF.ofG Try.prog [p_spec_l25Draw, PF.lend p_spec_l25Draw, PF.fz p_spec_l25Draw, n_spec_l01From, PF.lend n_spec_l01From, PF.fz n_spec_l01From] [] hmix 66 Try.f66 Try.func66 (fun c _ => LOk.nil c) F_spec_DrawRunReplay (by
  intro vs es r h; unfold F_spec_DrawRunReplay at h; split at h
  · cases h; kernel_rfl
  · cases h)

end Go.SX

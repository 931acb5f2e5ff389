/- What functions of the program come to, row by row (made by a program of the workplace). -/
import Derived.Test.YtjncnnpdaeociaaTXh
import Derived.Test.YtjncnnpdaeociaaProg
import Derived.Test.YtjncnnpdaeociaaNu
namespace Go.SX
open Go.Proofs
set_option maxRecDepth 100000

abbrev X_spec_l11DrawRun_l0 := Int × Int × Int × Int × Int × List (Int × (Int × Int)) × List Int × List Int × List Int × List Int

def spec_l11DrawRun_l0_a0 (y1 : Int) (y2 : Int) (y4 : Int) (y5 : List (Int × (Int × Int))) (y7 : List Int) (y8 : List Int) (y9 : List Int) : Bool :=
  !permB y4 y9 (chanL y4 y9 y5 (0 : Int)) (chanL y4 y9 y5 (1 : Int)) (nxV (↑(List.length y8) : Int) y1 y2 y7)

def spec_l11DrawRun_l0_a1 (y1 : Int) (y2 : Int) (y7 : List Int) (y8 : List Int) : List Int :=
  [nxV (↑(List.length y8) : Int) y1 y2 y7]

def spec_l11DrawRun_l0_0 (y0 : Int) : Bool :=
  ltI (0 : Int) y0

def spec_l11DrawRun_l0_1 (y1 : Int) (y2 : Int) (y7 : List Int) : Bool :=
  srcOk y1 y2 y7

def spec_l11DrawRun_l0_2 (y4 : Int) (y5 : List (Int × (Int × Int))) (y9 : List Int) : Bool :=
  isT y4 y9 && inFs y4 y5

def spec_l11DrawRun_l0_3 (y1 : Int) (y2 : Int) (y4 : Int) (y5 : List (Int × (Int × Int))) (y7 : List Int) (y8 : List Int) (y9 : List Int) : Bool :=
  permOk y4 y9 (chanL y4 y9 y5 (0 : Int)) (chanL y4 y9 y5 (1 : Int)) (nxV (↑(List.length y8) : Int) y1 y2 y7)

def spec_l11DrawRun_l0_4 (y1 : Int) (y2 : Int) (y4 : Int) (y5 : List (Int × (Int × Int))) (y7 : List Int) (y8 : List Int) (y9 : List Int) : Bool :=
  !(spec_l11DrawRun_l0_a0 y1 y2 y4 y5 y7 y8 y9 && true) || srcOk (nxA (↑(List.length y8) : Int) y1 y7) (nxS (↑(List.length y8) : Int) y1 y2 y7) y7

def spec_l11DrawRun_l0_5 (y1 : Int) (y2 : Int) (y4 : Int) (y5 : List (Int × (Int × Int))) (y7 : List Int) (y8 : List Int) (y9 : List Int) : Bool :=
  bif spec_l11DrawRun_l0_a0 y1 y2 y4 y5 y7 y8 y9 then
  ltI (0 : Int) (nxV (20 : Int) (nxA (↑(List.length y8) : Int) y1 y7) (nxS (↑(List.length y8) : Int) y1 y2 y7) y7)
  else false

def spec_l11DrawRun_l0_6 (y0 : Int) : Int :=
  IntKind.wrap IntKind.i64 (y0 - (1 : Int))

def spec_l11DrawRun_l0_7 (y1 : Int) (y2 : Int) (y4 : Int) (y5 : List (Int × (Int × Int))) (y7 : List Int) (y8 : List Int) (y9 : List Int) : Int :=
  bif spec_l11DrawRun_l0_a0 y1 y2 y4 y5 y7 y8 y9 && true then nxA (20 : Int) (nxA (↑(List.length y8) : Int) y1 y7) y7
  else nxA (↑(List.length y8) : Int) y1 y7

def spec_l11DrawRun_l0_8 (y1 : Int) (y2 : Int) (y4 : Int) (y5 : List (Int × (Int × Int))) (y7 : List Int) (y8 : List Int) (y9 : List Int) : Int :=
  bif spec_l11DrawRun_l0_a0 y1 y2 y4 y5 y7 y8 y9 && true then
  nxS (20 : Int) (nxA (↑(List.length y8) : Int) y1 y7) (nxS (↑(List.length y8) : Int) y1 y2 y7) y7
  else nxS (↑(List.length y8) : Int) y1 y2 y7

def spec_l11DrawRun_l0_9 (y1 : Int) (y2 : Int) (y6 : List Int) (y7 : List Int) (y8 : List Int) : Bool :=
  leN (List.length y6 + List.length (spec_l11DrawRun_l0_a1 y1 y2 y7 y8)) (9223372036854775807 : Nat)

def spec_l11DrawRun_l0_10 (y1 : Int) (y2 : Int) (y6 : List Int) (y7 : List Int) (y8 : List Int) : Bool :=
  leN ((List.length y6 + List.length (spec_l11DrawRun_l0_a1 y1 y2 y7 y8)) * (8 : Nat)) (140737488355328 : Nat)

def spec_l11DrawRun_l0_11 (y1 : Int) (y2 : Int) (y4 : Int) (y7 : List Int) (y8 : List Int) (y9 : List Int) : Bool :=
  mvOk y4 y9 (nxV (↑(List.length y8) : Int) y1 y2 y7)

def spec_l11DrawRun_l0_12 (y1 : Int) (y2 : Int) (y6 : List Int) (y7 : List Int) (y8 : List Int) : List Int :=
  y6 ++ spec_l11DrawRun_l0_a1 y1 y2 y7 y8

def spec_l11DrawRun_l0_13 (y1 : Int) (y2 : Int) (y4 : Int) (y7 : List Int) (y8 : List Int) (y9 : List Int) : List Int :=
  movL y4 y9 (nxV (↑(List.length y8) : Int) y1 y2 y7)

def JL_spec_l11DrawRun_l0 : X_spec_l11DrawRun_l0 → List (Nat × SV)
  | (y0, _, _, _, _, _, _, _, _, _) => [(9, (.one ⟨false, [(.val (.int IntKind.i64 y0))]⟩)), (0, (.one ⟨false, [(.ptr 0 0)]⟩)), (5, (.one ⟨false, [(.ptr 1 0)]⟩)), (8, (.one ⟨false, [(.ptr 2 0)]⟩)), (6, (.one ⟨false, [(.ref 3)]⟩)), (7, (.one ⟨false, [(.ref 4)]⟩))]

def JE_spec_l11DrawRun_l0 : X_spec_l11DrawRun_l0 → List (Nat × Entry)
  | (_, y1, y2, y3, y4, y5, y6, y7, y8, y9) => [(0, (.box 139 [(.ref 5), (.val (.int IntKind.i64 y1)), (.val (.int IntKind.i64 y2))])), (1, (.box 26 [(.val (.int IntKind.i64 y3)), (.ref 6)])), (2, (.box 26 [(.val (.int IntKind.i64 y4)), (.ref 7)])), (3, (.row true 118 (CTy.pair (CTy.int IntKind.i64) (CTy.pair (CTy.int IntKind.i64) (CTy.int IntKind.i64))) y5)), (5, (.row false 5 (CTy.int IntKind.u8) y7)), (6, (.row false 2 (CTy.int IntKind.i64) y8)), (4, (.row true 2 (CTy.int IntKind.i64) y6)), (7, (.row false 2 (CTy.int IntKind.i64) y9))]

def XL_spec_l11DrawRun_l0 : Nat → X_spec_l11DrawRun_l0 → List (Nat × SV)
  | _, (_, _, _, _, _, _, _, _, _, _) => [(7, (.one ⟨false, [(.ref 4)]⟩))]

def XE_spec_l11DrawRun_l0 : Nat → X_spec_l11DrawRun_l0 → List (Nat × Entry)
  | _, (_, y1, y2, y3, y4, y5, y6, y7, y8, y9) => [(0, (.box 139 [(.ref 5), (.val (.int IntKind.i64 y1)), (.val (.int IntKind.i64 y2))])), (1, (.box 26 [(.val (.int IntKind.i64 y3)), (.ref 6)])), (2, (.box 26 [(.val (.int IntKind.i64 y4)), (.ref 7)])), (3, (.row true 118 (CTy.pair (CTy.int IntKind.i64) (CTy.pair (CTy.int IntKind.i64) (CTy.int IntKind.i64))) y5)), (4, (.row true 2 (CTy.int IntKind.i64) y6)), (5, (.row false 5 (CTy.int IntKind.u8) y7)), (6, (.row false 2 (CTy.int IntKind.i64) y8)), (7, (.row false 2 (CTy.int IntKind.i64) y9))]

def lt_spec_l11DrawRun_l0 : X_spec_l11DrawRun_l0 → LT X_spec_l11DrawRun_l0
  | (y0, y1, y2, y3, y4, y5, y6, y7, y8, y9) => .ite (spec_l11DrawRun_l0_0 y0) (.need [(spec_l11DrawRun_l0_1 y1 y2 y7)] (.need [(spec_l11DrawRun_l0_2 y4 y5 y9), (spec_l11DrawRun_l0_3 y1 y2 y4 y5 y7 y8 y9), (spec_l11DrawRun_l0_4 y1 y2 y4 y5 y7 y8 y9)] (.ite (spec_l11DrawRun_l0_5 y1 y2 y4 y5 y7 y8 y9) (.nrm ((spec_l11DrawRun_l0_6 y0), (spec_l11DrawRun_l0_7 y1 y2 y4 y5 y7 y8 y9), (spec_l11DrawRun_l0_8 y1 y2 y4 y5 y7 y8 y9), y3, y4, y5, y6, y7, y8, y9) [(0, 0), (1, 1), (2, 2), (3, 3), (4, 4), (5, 5), (6, 6), (7, 7)]) (.need [(spec_l11DrawRun_l0_9 y1 y2 y6 y7 y8), (spec_l11DrawRun_l0_10 y1 y2 y6 y7 y8)] (.need [(spec_l11DrawRun_l0_11 y1 y2 y4 y7 y8 y9)] (.nrm ((spec_l11DrawRun_l0_6 y0), (spec_l11DrawRun_l0_7 y1 y2 y4 y5 y7 y8 y9), (spec_l11DrawRun_l0_8 y1 y2 y4 y5 y7 y8 y9), y3, y4, y5, (spec_l11DrawRun_l0_12 y1 y2 y6 y7 y8), y7, y8, (spec_l11DrawRun_l0_13 y1 y2 y4 y7 y8 y9)) [(0, 0), (1, 1), (2, 2), (3, 3), (4, 1536), (5, 5), (6, 6), (7, 1792)])))))) (.ext 0 [(0, 0), (1, 1), (2, 2), (3, 3), (4, 4), (5, 5), (6, 6), (7, 7)])

def rd_spec_l11DrawRun_l0 (s : St) : Option X_spec_l11DrawRun_l0 :=
  (match s.look 9 with
  | some ⟨none, (.one ⟨false, [(.val (.int IntKind.i64 y0))]⟩)⟩ =>
  (match s.look 0 with
  | some ⟨none, (.one ⟨false, [(.ptr 0 0)]⟩)⟩ =>
  (match s.look 5 with
  | some ⟨none, (.one ⟨false, [(.ptr 512 0)]⟩)⟩ =>
  (match s.look 8 with
  | some ⟨none, (.one ⟨false, [(.ptr 1792 0)]⟩)⟩ =>
  (match s.look 6 with
  | some ⟨none, (.one ⟨false, [(.ref 832)]⟩)⟩ =>
  (match s.look 7 with
  | some ⟨none, (.one ⟨false, [(.ref 960)]⟩)⟩ =>
  (match s.ent 0 with
  | some (.box 139 [(.ref 1), (.val (.int IntKind.i64 y1)), (.val (.int IntKind.i64 y2))]) =>
  (match s.ent 512 with
  | some (.box 26 [(.val (.int IntKind.i64 y3)), (.ref 448)]) =>
  (match s.ent 1792 with
  | some (.box 26 [(.val (.int IntKind.i64 y4)), (.ref 2688)]) =>
  (match s.ent 832 with
  | some (.row true 118 (CTy.pair (CTy.int IntKind.i64) (CTy.pair (CTy.int IntKind.i64) (CTy.int IntKind.i64))) y5) =>
  (match s.ent 1 with
  | some (.row false 5 (CTy.int IntKind.u8) y7) =>
  (match s.ent 448 with
  | some (.row false 2 (CTy.int IntKind.i64) y8) =>
  (match s.ent 960 with
  | some (.row true 2 (CTy.int IntKind.i64) y6) =>
  (match s.ent 2688 with
  | some (.row false 2 (CTy.int IntKind.i64) y9) =>
  some (y0, y1, y2, y3, y4, y5, y6, y7, y8, y9)
  | _ => none)
  | _ => none)
  | _ => none)
  | _ => none)
  | _ => none)
  | _ => none)
  | _ => none)
  | _ => none)
  | _ => none)
  | _ => none)
  | _ => none)
  | _ => none)
  | _ => none)
  | _ => none)

def lp_spec_l11DrawRun_l0 : Lp X_spec_l11DrawRun_l0 where
  h := ⟨[34, 35, 38, 39, 40, 41, 42, 10, 43, 44, 45, 46, 47, 48, 49, 50, 51, 52, 53, 54, 55, 56, 57, 58, 7, 59, 60, 61, 36, 37, 9], [0, 1, 2, 3, 5, 6], [4, 7], []⟩
  JL := JL_spec_l11DrawRun_l0
  JE := JE_spec_l11DrawRun_l0
  XL := XL_spec_l11DrawRun_l0
  XE := XE_spec_l11DrawRun_l0
  q := fun j => match j with | _ => .exit 0
  tags := [0]
  lt := lt_spec_l11DrawRun_l0
  fuel := fun (y0, y1, y2, y3, y4, y5, y6, y7, y8, y9) => y0.natAbs + y1.natAbs + y2.natAbs + y3.natAbs + y4.natAbs + y5.length + y6.length + y7.length + y8.length + y9.length
  fix := fun (_, _, _, y3, y4, y5, _, y7, y8, _) (y0, y1, y2, _, _, _, y6, _, _, y9) => (y0, y1, y2, y3, y4, y5, y6, y7, y8, y9)
  σ := [(0, 0), (1, 512), (2, 1792), (3, 832), (5, 1), (6, 448), (4, 960), (7, 2688)]
  rd := rd_spec_l11DrawRun_l0
  fz := [2]

theorem lpok_spec_l11DrawRun_l0 : LoopOk Try.prog (fun k => Nat.blt k Try.f115.ntmps) lp_spec_l11DrawRun_l0.F (loopAt Try.f115 0) := by
  refine Lp.ok (tbl := [n_spec_l01Next, PF.lend n_spec_l01Next, PF.fz n_spec_l01Next, n_spec_l01Pick, PF.lend n_spec_l01Pick, PF.fz n_spec_l01Pick, n_spec_AreFaults, PF.lend n_spec_AreFaults, PF.fz n_spec_AreFaults, n_spec_l11Permits, PF.lend n_spec_l11Permits, PF.fz n_spec_l11Permits, n_spec_l11Report, PF.lend n_spec_l11Report, PF.fz n_spec_l11Report, n_spec_l11DrawFaults, PF.lend n_spec_l11DrawFaults, PF.fz n_spec_l11DrawFaults, n_spec_IsTraffic, PF.lend n_spec_IsTraffic, PF.fz n_spec_IsTraffic, n_spec_l10Move, PF.lend n_spec_l10Move, PF.fz n_spec_l10Move, n_spec_l10Draw, PF.lend n_spec_l10Draw, PF.fz n_spec_l10Draw]) (lf := []) hmix lp_spec_l11DrawRun_l0 (by kernel_rfl) (LOk.nil _) (fun _ => rfl) (fun _ _ => rfl) ?_ ?_ ?_ ?_ (fun _ => rfl) ?_
  · intro x; obtain ⟨y0, y1, y2, y3, y4, y5, y6, y7, y8, y9⟩ := x; kernel_rfl
  · intro x; obtain ⟨y0, y1, y2, y3, y4, y5, y6, y7, y8, y9⟩ := x; kernel_rfl
  · intro s x h
    have h : rd_spec_l11DrawRun_l0 s = some x := h
    unfold rd_spec_l11DrawRun_l0 at h
    repeat' split at h
    all_goals cases h
    exact ⟨absS_cons (by assumption) rfl (absS_cons (by assumption) rfl (absS_cons (by assumption) rfl (absS_cons (by assumption) rfl (absS_cons (by assumption) rfl (absS_cons (by assumption) rfl (rfl)))))), absE_cons rfl (by assumption) rfl (absE_cons rfl (by assumption) rfl (absE_cons rfl (by assumption) rfl (absE_cons rfl (by assumption) rfl (absE_cons rfl (by assumption) rfl (absE_cons rfl (by assumption) rfl (absE_cons rfl (by assumption) rfl (absE_cons rfl (by assumption) rfl (rfl))))))))⟩
  · intro x; obtain ⟨y0, y1, y2, y3, y4, y5, y6, y7, y8, y9⟩ := x; kernel_rfl
  · intro x z; obtain ⟨y0, y1, y2, y3, y4, y5, y6, y7, y8, y9⟩ := x; exact (And.intro (And.intro rfl rfl) trivial)

def spec_l11DrawRun_a0 (x0 : Int) (x1 : Int) (x2 : List Int) : List (Int × Int × Int) :=
  spec_l11DrawFaults_2 (spec_l10Draw_0 x0 x1 x2) (spec_l10Draw_1 x0 x1 x2) (spec_l10Draw_2 x0 x1 x2) x2

def spec_l11DrawRun_a1 (x0 : Int) (x1 : Int) (x2 : List Int) : Bool :=
  bif !isT (spec_l10Draw_0 x0 x1 x2) (spec_l10Draw_3 x0 x1 x2) then true
  else !(inR (spec_l10Draw_0 x0 x1 x2) (2 : Int) (8 : Int) && okFs (spec_l10Draw_0 x0 x1 x2) (spec_l11DrawRun_a0 x0 x1 x2))

def spec_l11DrawRun_a2 (x0 : Int) (x1 : Int) (x2 : List Int) : Int :=
  spec_l11DrawFaults_0 (spec_l10Draw_0 x0 x1 x2) (spec_l10Draw_1 x0 x1 x2) (spec_l10Draw_2 x0 x1 x2) x2

def spec_l11DrawRun_a3 (x0 : Int) (x1 : Int) (x2 : List Int) : Int :=
  spec_l11DrawFaults_1 (spec_l10Draw_0 x0 x1 x2) (spec_l10Draw_1 x0 x1 x2) (spec_l10Draw_2 x0 x1 x2) x2

def spec_l11DrawRun_a4 (x0 : Int) (x1 : Int) (x2 : List Int) : Bool :=
  !!isT (spec_l10Draw_0 x0 x1 x2) (spec_l10Draw_3 x0 x1 x2) && true

def spec_l11DrawRun_a5 (x0 : Int) (x1 : Int) (x2 : List Int) : List (Int × Int × Int) :=
  bif spec_l11DrawRun_a4 x0 x1 x2 then spec_l11DrawRun_a0 x0 x1 x2 else spec_l11DrawRun_a0 x0 x1 x2

def spec_l11DrawRun_a6 (x0 : Int) (x1 : Int) (x2 : List Int) : Int × Int × Int × Int × Int × List (Int × Int × Int) × List Int × List Int × List Int × List Int :=
  (nxV (16 : Int) (spec_l11DrawRun_a2 x0 x1 x2) (spec_l11DrawRun_a3 x0 x1 x2) x2, nxA (16 : Int) (spec_l11DrawRun_a2 x0 x1 x2) x2,
  nxS (16 : Int) (spec_l11DrawRun_a2 x0 x1 x2) (spec_l11DrawRun_a3 x0 x1 x2) x2, spec_l10Draw_0 x0 x1 x2, spec_l10Draw_0 x0 x1 x2,
  spec_l11DrawRun_a5 x0 x1 x2, [], x2, spec_l10Draw_3 x0 x1 x2, spec_l10Draw_3 x0 x1 x2)

def spec_l11DrawRun_a7 (x0 : Int) (x1 : Int) (x2 : List Int) : Int × Int × Int × Int × List (Int × Int × Int) × List Int × List Int × List Int × List Int :=
  Prod.snd (Prod.snd (Lp.res lp_spec_l11DrawRun_l0 (spec_l11DrawRun_a6 x0 x1 x2)))

def spec_l11DrawRun_a8 (x0 : Int) (x1 : Int) (x2 : List Int) : Int :=
  Prod.fst (spec_l11DrawRun_a7 x0 x1 x2)

def spec_l11DrawRun_a9 (x0 : Int) (x1 : Int) (x2 : List Int) : Int × Int × Int × List (Int × Int × Int) × List Int × List Int × List Int × List Int :=
  Prod.snd (spec_l11DrawRun_a7 x0 x1 x2)

def spec_l11DrawRun_a10 (x0 : Int) (x1 : Int) (x2 : List Int) : Int :=
  Prod.fst (spec_l11DrawRun_a9 x0 x1 x2)

def spec_l11DrawRun_a11 (x0 : Int) (x1 : Int) (x2 : List Int) : Int :=
  nxV (60 : Int) (spec_l11DrawRun_a8 x0 x1 x2) (spec_l11DrawRun_a10 x0 x1 x2) x2

def spec_l11DrawRun_a12 (x0 : Int) (x1 : Int) (x2 : List Int) : Bool :=
  spec_l11DrawRun_a11 x0 x1 x2 == (0 : Int)

def spec_l11DrawRun_a13 (x0 : Int) (x1 : Int) (x2 : List Int) : Bool :=
  spec_l11DrawRun_a11 x0 x1 x2 == (1 : Int)

def spec_l11DrawRun_a14 (x0 : Int) (x1 : Int) (x2 : List Int) : List Int :=
  [(-1 : Int), (↑(List.length (spec_l10Draw_3 x0 x1 x2)) : Int)]

def spec_l11DrawRun_a15 (x0 : Int) (x1 : Int) (x2 : List Int) : Int :=
  nxS (60 : Int) (spec_l11DrawRun_a8 x0 x1 x2) (spec_l11DrawRun_a10 x0 x1 x2) x2

def spec_l11DrawRun_a16 (x0 : Int) (x1 : Int) (x2 : List Int) : Int :=
  IntKind.wrap IntKind.i64 ((200 : Int) + nxV (2 : Int) (nxA (60 : Int) (spec_l11DrawRun_a8 x0 x1 x2) x2) (spec_l11DrawRun_a15 x0 x1 x2) x2)

def spec_l11DrawRun_a17 (x0 : Int) (x1 : Int) (x2 : List Int) : List Int :=
  Prod.fst (Prod.snd (Prod.snd (Prod.snd (Prod.snd (spec_l11DrawRun_a9 x0 x1 x2)))))

def spec_l11DrawRun_a18 (x0 : Int) (x1 : Int) (x2 : List Int) : List Int :=
  [pkV (nxA (60 : Int) (spec_l11DrawRun_a8 x0 x1 x2) x2) (spec_l11DrawRun_a15 x0 x1 x2) (spec_l11DrawRun_a14 x0 x1 x2) x2]

def spec_l11DrawRun_a19 (x0 : Int) (x1 : Int) (x2 : List Int) : Bool :=
  srcOk (nxA (60 : Int) (spec_l11DrawRun_a8 x0 x1 x2) x2) (spec_l11DrawRun_a15 x0 x1 x2) x2

def spec_l11DrawRun_0 (x0 : Int) (x1 : Int) (x2 : List Int) : Int :=
  bif spec_l11DrawRun_a1 x0 x1 x2 then spec_l10Draw_0 x0 x1 x2
  else
  bif spec_l11DrawRun_a12 x0 x1 x2 then spec_l10Draw_0 x0 x1 x2
  else bif spec_l11DrawRun_a13 x0 x1 x2 then spec_l10Draw_0 x0 x1 x2 else spec_l10Draw_0 x0 x1 x2

def spec_l11DrawRun_1 (x0 : Int) (x1 : Int) (x2 : List Int) : Int :=
  bif spec_l11DrawRun_a1 x0 x1 x2 then spec_l11DrawRun_a2 x0 x1 x2
  else
  bif spec_l11DrawRun_a12 x0 x1 x2 then nxA (2 : Int) (nxA (60 : Int) (spec_l11DrawRun_a8 x0 x1 x2) x2) x2
  else
    bif spec_l11DrawRun_a13 x0 x1 x2 then pkA (nxA (60 : Int) (spec_l11DrawRun_a8 x0 x1 x2) x2) (spec_l11DrawRun_a14 x0 x1 x2) x2
    else nxA (60 : Int) (spec_l11DrawRun_a8 x0 x1 x2) x2

def spec_l11DrawRun_2 (x0 : Int) (x1 : Int) (x2 : List Int) : Int :=
  bif spec_l11DrawRun_a1 x0 x1 x2 then spec_l11DrawRun_a3 x0 x1 x2
  else
  bif spec_l11DrawRun_a12 x0 x1 x2 then nxS (2 : Int) (nxA (60 : Int) (spec_l11DrawRun_a8 x0 x1 x2) x2) (spec_l11DrawRun_a15 x0 x1 x2) x2
  else
    bif spec_l11DrawRun_a13 x0 x1 x2 then
      pkS (nxA (60 : Int) (spec_l11DrawRun_a8 x0 x1 x2) x2) (spec_l11DrawRun_a15 x0 x1 x2) (spec_l11DrawRun_a14 x0 x1 x2) x2
    else spec_l11DrawRun_a15 x0 x1 x2

def spec_l11DrawRun_3 (x0 : Int) (x1 : Int) (x2 : List Int) : List Int :=
  bif spec_l11DrawRun_a1 x0 x1 x2 then spec_l10Draw_3 x0 x1 x2
  else
  bif spec_l11DrawRun_a12 x0 x1 x2 then spec_l10Draw_3 x0 x1 x2
  else bif spec_l11DrawRun_a13 x0 x1 x2 then spec_l10Draw_3 x0 x1 x2 else spec_l10Draw_3 x0 x1 x2

def spec_l11DrawRun_4 (x0 : Int) (x1 : Int) (x2 : List Int) : List (Int × (Int × Int)) :=
  bif spec_l11DrawRun_a1 x0 x1 x2 then spec_l11DrawRun_a5 x0 x1 x2
  else
  bif spec_l11DrawRun_a12 x0 x1 x2 then spec_l11DrawRun_a5 x0 x1 x2
  else bif spec_l11DrawRun_a13 x0 x1 x2 then spec_l11DrawRun_a5 x0 x1 x2 else spec_l11DrawRun_a5 x0 x1 x2

def spec_l11DrawRun_5 (x0 : Int) (x1 : Int) (x2 : List Int) : List Int :=
  bif spec_l11DrawRun_a1 x0 x1 x2 then [(0 : Int)]
  else
  bif spec_l11DrawRun_a12 x0 x1 x2 then List.replicate (Int.toNat (spec_l11DrawRun_a16 x0 x1 x2)) (0 : Int)
  else bif spec_l11DrawRun_a13 x0 x1 x2 then spec_l11DrawRun_a17 x0 x1 x2 ++ spec_l11DrawRun_a18 x0 x1 x2 else spec_l11DrawRun_a17 x0 x1 x2

def spec_l11DrawRun_6 (x0 : Int) (x1 : Int) (x2 : List Int) : List Int :=
  bif spec_l11DrawRun_a1 x0 x1 x2 then x2 else bif spec_l11DrawRun_a12 x0 x1 x2 then x2 else bif spec_l11DrawRun_a13 x0 x1 x2 then x2 else x2

def spec_l11DrawRun_7 (x0 : Int) (x1 : Int) (x2 : List Int) : Bool :=
  allT
  [srcOk x0 x1 x2, srcOk (spec_l10Draw_1 x0 x1 x2) (spec_l10Draw_2 x0 x1 x2) x2,
    !spec_l11DrawRun_a4 x0 x1 x2 || leN (List.length (spec_l11DrawRun_a0 x0 x1 x2)) (9223372036854775807 : Nat),
    spec_l11DrawRun_a1 x0 x1 x2 || srcOk (spec_l11DrawRun_a2 x0 x1 x2) (spec_l11DrawRun_a3 x0 x1 x2) x2,
    spec_l11DrawRun_a1 x0 x1 x2 || Lp.fin lp_spec_l11DrawRun_l0 (spec_l11DrawRun_a6 x0 x1 x2),
    spec_l11DrawRun_a1 x0 x1 x2 || srcOk (spec_l11DrawRun_a8 x0 x1 x2) (spec_l11DrawRun_a10 x0 x1 x2) x2,
    spec_l11DrawRun_a1 x0 x1 x2 || (!spec_l11DrawRun_a12 x0 x1 x2 || spec_l11DrawRun_a19 x0 x1 x2),
    spec_l11DrawRun_a1 x0 x1 x2 || (!spec_l11DrawRun_a12 x0 x1 x2 || leI (0 : Int) (spec_l11DrawRun_a16 x0 x1 x2)),
    spec_l11DrawRun_a1 x0 x1 x2 || (!spec_l11DrawRun_a12 x0 x1 x2 || leI (spec_l11DrawRun_a16 x0 x1 x2) (spec_l11DrawRun_a16 x0 x1 x2)),
    spec_l11DrawRun_a1 x0 x1 x2 || (!spec_l11DrawRun_a12 x0 x1 x2 || leI ((↑(8 : Nat) : Int) * spec_l11DrawRun_a16 x0 x1 x2) (281474976710656 : Int)),
    spec_l11DrawRun_a1 x0 x1 x2 || (!spec_l11DrawRun_a12 x0 x1 x2 || leI (spec_l11DrawRun_a16 x0 x1 x2) (9223372036854775807 : Int)),
    spec_l11DrawRun_a1 x0 x1 x2 ||
      (spec_l11DrawRun_a12 x0 x1 x2 ||
        (!spec_l11DrawRun_a13 x0 x1 x2 || spec_l11DrawRun_a19 x0 x1 x2 && leN (1 : Nat) (List.length (spec_l11DrawRun_a14 x0 x1 x2)))),
    spec_l11DrawRun_a1 x0 x1 x2 ||
      (spec_l11DrawRun_a12 x0 x1 x2 ||
        (!spec_l11DrawRun_a13 x0 x1 x2 ||
          leN (List.length (spec_l11DrawRun_a17 x0 x1 x2) + List.length (spec_l11DrawRun_a18 x0 x1 x2)) (9223372036854775807 : Nat))),
    spec_l11DrawRun_a1 x0 x1 x2 ||
      (spec_l11DrawRun_a12 x0 x1 x2 ||
        (!spec_l11DrawRun_a13 x0 x1 x2 ||
          leN ((List.length (spec_l11DrawRun_a17 x0 x1 x2) + List.length (spec_l11DrawRun_a18 x0 x1 x2)) * (8 : Nat)) (140737488355328 : Nat)))]

def F_spec_l11DrawRun : List SV → List Entry → Option Out
  | [.one ⟨false, [.ptr 0 0]⟩], [.box 139 [.ref 1, .val (.int .i64 x0), .val (.int .i64 x1)], .row false 5 (.int .u8) x2] => some ⟨(.tup [⟨true, [(.val (.int IntKind.i64 (spec_l11DrawRun_0 x0 x1 x2))), (.ref 2)]⟩, ⟨false, [(.ref 3)]⟩, ⟨false, [(.ref 4)]⟩]), [(.box 139 [(.ref 5), (.val (.int IntKind.i64 (spec_l11DrawRun_1 x0 x1 x2))), (.val (.int IntKind.i64 (spec_l11DrawRun_2 x0 x1 x2)))]), (.row false 5 (CTy.int IntKind.u8) x2)], [(.row false 2 (CTy.int IntKind.i64) (spec_l11DrawRun_3 x0 x1 x2)), (.row false 118 (CTy.pair (CTy.int IntKind.i64) (CTy.pair (CTy.int IntKind.i64) (CTy.int IntKind.i64))) (spec_l11DrawRun_4 x0 x1 x2)), (.row false 2 (CTy.int IntKind.i64) (spec_l11DrawRun_5 x0 x1 x2)), (.row false 5 (CTy.int IntKind.u8) (spec_l11DrawRun_6 x0 x1 x2))], [(spec_l11DrawRun_7 x0 x1 x2)]⟩
  | _, _ => none

def p_spec_l11DrawRun : PF Try.prog := PF.ofG Try.prog [n_spec_l01Next, PF.lend n_spec_l01Next, PF.fz n_spec_l01Next, n_spec_l01Pick, PF.lend n_spec_l01Pick, PF.fz n_spec_l01Pick, n_spec_AreFaults, PF.lend n_spec_AreFaults, PF.fz n_spec_AreFaults, n_spec_l11Permits, PF.lend n_spec_l11Permits, PF.fz n_spec_l11Permits, n_spec_l11Report, PF.lend n_spec_l11Report, PF.fz n_spec_l11Report, n_spec_l11DrawFaults, PF.lend n_spec_l11DrawFaults, PF.fz n_spec_l11DrawFaults, n_spec_IsTraffic, PF.lend n_spec_IsTraffic, PF.fz n_spec_IsTraffic, n_spec_l10Move, PF.lend n_spec_l10Move, PF.fz n_spec_l10Move, n_spec_l10Draw, PF.lend n_spec_l10Draw, PF.fz n_spec_l10Draw] [(fun s => lp_spec_l11DrawRun_l0.F (aliasS [(1792, 1)] s))] hmix 115 Try.f115 Try.func115 (LOk.fnT (l := [loopAt Try.f115 0]) (by kernel_rfl) (.cons (lpok_spec_l11DrawRun_l0.alias [(1792, 1)]) (.nil _))) F_spec_l11DrawRun (by
  intro vs es r h; unfold F_spec_l11DrawRun at h; split at h
  · cases h; kernel_rfl
  · cases h)

def spec_DrawFirstCollision_0 (x0 : List Int) : Int :=
  spec_l11DrawRun_0 (0 : Int) (frS x0) x0

def spec_DrawFirstCollision_1 (x0 : List Int) : List Int :=
  spec_l11DrawRun_3 (0 : Int) (frS x0) x0

def spec_DrawFirstCollision_2 (x0 : List Int) : List (Int × (Int × Int)) :=
  spec_l11DrawRun_4 (0 : Int) (frS x0) x0

def spec_DrawFirstCollision_3 (x0 : List Int) : List Int :=
  spec_l11DrawRun_5 (0 : Int) (frS x0) x0

def spec_DrawFirstCollision_4 (x0 : List Int) : Bool :=
  allT [srcOk (0 : Int) (0 : Int) x0, spec_l11DrawRun_7 (0 : Int) (frS x0) x0]

def F_spec_DrawFirstCollision : List SV → List Entry → Option Out
  | [.one ⟨false, [.ref 0]⟩], [.row false 5 (.int .u8) x0] => some ⟨(.tup [⟨true, [(.val (.int IntKind.i64 (spec_DrawFirstCollision_0 x0))), (.ref 1)]⟩, ⟨false, [(.ref 2)]⟩, ⟨false, [(.ref 3)]⟩]), [(.row false 5 (CTy.int IntKind.u8) x0)], [(.row false 2 (CTy.int IntKind.i64) (spec_DrawFirstCollision_1 x0)), (.row false 118 (CTy.pair (CTy.int IntKind.i64) (CTy.pair (CTy.int IntKind.i64) (CTy.int IntKind.i64))) (spec_DrawFirstCollision_2 x0)), (.row false 2 (CTy.int IntKind.i64) (spec_DrawFirstCollision_3 x0))], [(spec_DrawFirstCollision_4 x0)]⟩
  | _, _ => none

def p_spec_DrawFirstCollision : PF Try.prog := PF.ofG Try.prog [p_spec_l11DrawRun, PF.lend p_spec_l11DrawRun, PF.fz p_spec_l11DrawRun, n_spec_l01From, PF.lend n_spec_l01From, PF.fz n_spec_l01From] [] hmix 64 Try.f64 Try.func64 (fun c _ => LOk.nil c) F_spec_DrawFirstCollision (by
  intro vs es r h; unfold F_spec_DrawFirstCollision at h; split at h
  · cases h; kernel_rfl
  · cases h)

end Go.SX

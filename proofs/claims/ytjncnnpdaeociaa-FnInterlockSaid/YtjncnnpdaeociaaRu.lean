/- What functions of the program come to, row by row (made by a program of the workplace). -/
import Derived.Test.YtjncnnpdaeociaaTXh
import Derived.Test.YtjncnnpdaeociaaProg
import Derived.Test.YtjncnnpdaeociaaNt
namespace Go.SX
open Go.Proofs
set_option maxRecDepth 100000

abbrev X_spec_l10Draw_l0 := Int × Int × Int × Int × Int × List Int × List Int

def spec_l10Draw_l0_a0 (y3 : Int) (y4 : Int) (y6 : List Int) : Int :=
  pkV y3 y4 [(0 : Int), (1 : Int), (1 : Int), (2 : Int)] y6

def spec_l10Draw_l0_a1 (y1 : Int) (y2 : Int) (y3 : Int) (y4 : Int) (y6 : List Int) : List Int :=
  [IntKind.wrap IntKind.i64 (IntKind.wrap IntKind.i64 ((3 : Int) * Int.tmod y1 y2) + spec_l10Draw_l0_a0 y3 y4 y6)]

def spec_l10Draw_l0_a2 (y3 : Int) (y6 : List Int) : Int :=
  pkA y3 [(0 : Int), (1 : Int), (1 : Int), (2 : Int)] y6

def spec_l10Draw_l0_a3 (y3 : Int) (y4 : Int) (y6 : List Int) : Int :=
  pkS y3 y4 [(0 : Int), (1 : Int), (1 : Int), (2 : Int)] y6

def spec_l10Draw_l0_0 (y0 : Int) : Bool :=
  ltI (0 : Int) y0

def spec_l10Draw_l0_1 (y3 : Int) (y4 : Int) (y6 : List Int) : Bool :=
  srcOk y3 y4 y6 && leN (1 : Nat) (List.length [(0 : Int), (1 : Int), (1 : Int), (2 : Int)])

def spec_l10Draw_l0_2 (y2 : Int) : Bool :=
  neI y2 (0 : Int)

def spec_l10Draw_l0_3 (y1 : Int) (y2 : Int) (y3 : Int) (y4 : Int) (y5 : List Int) (y6 : List Int) : Bool :=
  leN (List.length y5 + List.length (spec_l10Draw_l0_a1 y1 y2 y3 y4 y6)) (9223372036854775807 : Nat)

def spec_l10Draw_l0_4 (y1 : Int) (y2 : Int) (y3 : Int) (y4 : Int) (y5 : List Int) (y6 : List Int) : Bool :=
  leN ((List.length y5 + List.length (spec_l10Draw_l0_a1 y1 y2 y3 y4 y6)) * (8 : Nat)) (140737488355328 : Nat)

def spec_l10Draw_l0_5  : Bool :=
  neI (2 : Int) (0 : Int)

def spec_l10Draw_l0_6 (y3 : Int) (y4 : Int) (y6 : List Int) : Bool :=
  srcOk (spec_l10Draw_l0_a2 y3 y6) (spec_l10Draw_l0_a3 y3 y4 y6) y6

def spec_l10Draw_l0_7 (y0 : Int) : Int :=
  IntKind.wrap IntKind.i64 (y0 - (1 : Int))

def spec_l10Draw_l0_8 (y1 : Int) (y3 : Int) (y4 : Int) (y6 : List Int) : Int :=
  IntKind.wrap IntKind.i64
  (IntKind.wrap IntKind.i64
      (IntKind.wrap IntKind.i64 (y1 + (1 : Int)) + IntKind.wrap IntKind.i64 (Int.tdiv (spec_l10Draw_l0_a0 y3 y4 y6) (2 : Int))) +
    IntKind.wrap IntKind.i64 (Int.tdiv (nxV (3 : Int) (spec_l10Draw_l0_a2 y3 y6) (spec_l10Draw_l0_a3 y3 y4 y6) y6) (2 : Int)))

def spec_l10Draw_l0_9 (y3 : Int) (y6 : List Int) : Int :=
  nxA (3 : Int) (spec_l10Draw_l0_a2 y3 y6) y6

def spec_l10Draw_l0_10 (y3 : Int) (y4 : Int) (y6 : List Int) : Int :=
  nxS (3 : Int) (spec_l10Draw_l0_a2 y3 y6) (spec_l10Draw_l0_a3 y3 y4 y6) y6

def spec_l10Draw_l0_11 (y1 : Int) (y2 : Int) (y3 : Int) (y4 : Int) (y5 : List Int) (y6 : List Int) : List Int :=
  y5 ++ spec_l10Draw_l0_a1 y1 y2 y3 y4 y6

def JL_spec_l10Draw_l0 : X_spec_l10Draw_l0 → List (Nat × SV)
  | (y0, y1, y2, _, _, _, _) => [(6, (.one ⟨false, [(.val (.int IntKind.i64 y0))]⟩)), (0, (.one ⟨false, [(.ptr 0 0)]⟩)), (4, (.one ⟨false, [(.ref 1)]⟩)), (5, (.one ⟨false, [(.val (.int IntKind.i64 y1))]⟩)), (3, (.one ⟨false, [(.val (.int IntKind.i64 y2))]⟩))]

def JE_spec_l10Draw_l0 : X_spec_l10Draw_l0 → List (Nat × Entry)
  | (_, _, _, y3, y4, y5, y6) => [(0, (.box 139 [(.ref 2), (.val (.int IntKind.i64 y3)), (.val (.int IntKind.i64 y4))])), (2, (.row false 5 (CTy.int IntKind.u8) y6)), (1, (.row true 2 (CTy.int IntKind.i64) y5))]

def XL_spec_l10Draw_l0 : Nat → X_spec_l10Draw_l0 → List (Nat × SV)
  | _, (_, _, _, _, _, _, _) => [(4, (.one ⟨false, [(.ref 1)]⟩))]

def XE_spec_l10Draw_l0 : Nat → X_spec_l10Draw_l0 → List (Nat × Entry)
  | _, (_, _, _, y3, y4, y5, y6) => [(0, (.box 139 [(.ref 2), (.val (.int IntKind.i64 y3)), (.val (.int IntKind.i64 y4))])), (1, (.row true 2 (CTy.int IntKind.i64) y5)), (2, (.row false 5 (CTy.int IntKind.u8) y6))]

def lt_spec_l10Draw_l0 : X_spec_l10Draw_l0 → LT X_spec_l10Draw_l0
  | (y0, y1, y2, y3, y4, y5, y6) => .ite (spec_l10Draw_l0_0 y0) (.need [(spec_l10Draw_l0_1 y3 y4 y6)] (.need [(spec_l10Draw_l0_2 y2), (spec_l10Draw_l0_3 y1 y2 y3 y4 y5 y6), (spec_l10Draw_l0_4 y1 y2 y3 y4 y5 y6)] (.need [(spec_l10Draw_l0_5), (spec_l10Draw_l0_6 y3 y4 y6), (spec_l10Draw_l0_5)] (.nrm ((spec_l10Draw_l0_7 y0), (spec_l10Draw_l0_8 y1 y3 y4 y6), y2, (spec_l10Draw_l0_9 y3 y6), (spec_l10Draw_l0_10 y3 y4 y6), (spec_l10Draw_l0_11 y1 y2 y3 y4 y5 y6), y6) [(0, 0), (1, 960), (2, 2)])))) (.ext 0 [(0, 0), (1, 1), (2, 2)])

def rd_spec_l10Draw_l0 (s : St) : Option X_spec_l10Draw_l0 :=
  (match s.look 6 with
  | some ⟨none, (.one ⟨false, [(.val (.int IntKind.i64 y0))]⟩)⟩ =>
  (match s.look 0 with
  | some ⟨none, (.one ⟨false, [(.ptr 0 0)]⟩)⟩ =>
  (match s.look 4 with
  | some ⟨none, (.one ⟨false, [(.ref 512)]⟩)⟩ =>
  (match s.look 5 with
  | some ⟨none, (.one ⟨false, [(.val (.int IntKind.i64 y1))]⟩)⟩ =>
  (match s.look 3 with
  | some ⟨none, (.one ⟨false, [(.val (.int IntKind.i64 y2))]⟩)⟩ =>
  (match s.ent 0 with
  | some (.box 139 [(.ref 1), (.val (.int IntKind.i64 y3)), (.val (.int IntKind.i64 y4))]) =>
  (match s.ent 1 with
  | some (.row false 5 (CTy.int IntKind.u8) y6) =>
  (match s.ent 512 with
  | some (.row true 2 (CTy.int IntKind.i64) y5) =>
  some (y0, y1, y2, y3, y4, y5, y6)
  | _ => none)
  | _ => none)
  | _ => none)
  | _ => none)
  | _ => none)
  | _ => none)
  | _ => none)
  | _ => none)

def lp_spec_l10Draw_l0 : Lp X_spec_l10Draw_l0 where
  h := ⟨[20, 21, 24, 25, 26, 7, 27, 28, 29, 30, 31, 32, 33, 34, 35, 4, 36, 37, 38, 39, 40, 41, 42, 43, 44, 5, 22, 23, 6], [0, 2], [1], []⟩
  JL := JL_spec_l10Draw_l0
  JE := JE_spec_l10Draw_l0
  XL := XL_spec_l10Draw_l0
  XE := XE_spec_l10Draw_l0
  q := fun j => match j with | _ => .exit 0
  tags := [0]
  lt := lt_spec_l10Draw_l0
  fuel := fun (y0, y1, y2, y3, y4, y5, y6) => y0.natAbs + y1.natAbs + y2.natAbs + y3.natAbs + y4.natAbs + y5.length + y6.length
  fix := fun (_, _, y2, _, _, _, y6) (y0, y1, _, y3, y4, y5, _) => (y0, y1, y2, y3, y4, y5, y6)
  σ := [(0, 0), (2, 1), (1, 512)]
  rd := rd_spec_l10Draw_l0

theorem lpok_spec_l10Draw_l0 : LoopOk Try.prog (fun k => Nat.blt k Try.f96.ntmps) lp_spec_l10Draw_l0.F (loopAt Try.f96 0) := by
  refine Lp.ok (tbl := [n_spec_l01Next, PF.lend n_spec_l01Next, PF.fz n_spec_l01Next, n_spec_l01Pick, PF.lend n_spec_l01Pick, PF.fz n_spec_l01Pick]) (lf := []) hmix lp_spec_l10Draw_l0 (by kernel_rfl) (LOk.nil _) (fun _ => rfl) (fun _ _ => rfl) ?_ ?_ ?_ ?_ (fun _ => rfl) ?_
  · intro x; obtain ⟨y0, y1, y2, y3, y4, y5, y6⟩ := x; kernel_rfl
  · intro x; obtain ⟨y0, y1, y2, y3, y4, y5, y6⟩ := x; kernel_rfl
  · intro s x h
    have h : rd_spec_l10Draw_l0 s = some x := h
    unfold rd_spec_l10Draw_l0 at h
    repeat' split at h
    all_goals cases h
    exact ⟨absS_cons (by assumption) rfl (absS_cons (by assumption) rfl (absS_cons (by assumption) rfl (absS_cons (by assumption) rfl (absS_cons (by assumption) rfl (rfl))))), absE_cons rfl (by assumption) rfl (absE_cons rfl (by assumption) rfl (absE_cons rfl (by assumption) rfl (rfl)))⟩
  · intro x; obtain ⟨y0, y1, y2, y3, y4, y5, y6⟩ := x; kernel_rfl
  · intro x z; obtain ⟨y0, y1, y2, y3, y4, y5, y6⟩ := x; exact (And.intro rfl trivial)

def spec_l10Draw_a0 (x0 : Int) (x1 : Int) (x2 : List Int) : Int :=
  IntKind.wrap IntKind.i64 ((2 : Int) + nxV (5 : Int) x0 x1 x2)

def spec_l10Draw_a1 (x0 : Int) (x1 : Int) (x2 : List Int) : Int :=
  ifLt (spec_l10Draw_a0 x0 x1 x2) (4 : Int) (spec_l10Draw_a0 x0 x1 x2) (4 : Int)

def spec_l10Draw_a2 (x0 : Int) (x1 : Int) (x2 : List Int) : Int :=
  nxA (spec_l10Draw_a0 x0 x1 x2) (nxA (5 : Int) x0 x2) x2

def spec_l10Draw_a3 (x0 : Int) (x1 : Int) (x2 : List Int) : Int :=
  nxS (spec_l10Draw_a0 x0 x1 x2) (nxA (5 : Int) x0 x2) (nxS (5 : Int) x0 x1 x2) x2

def spec_l10Draw_a4 (x0 : Int) (x1 : Int) (x2 : List Int) : Int × Int × Int × Int × Int × List Int × List Int :=
  (IntKind.wrap IntKind.i64 ((1 : Int) + nxV (spec_l10Draw_a1 x0 x1 x2) (spec_l10Draw_a2 x0 x1 x2) (spec_l10Draw_a3 x0 x1 x2) x2),
  nxV (spec_l10Draw_a0 x0 x1 x2) (nxA (5 : Int) x0 x2) (nxS (5 : Int) x0 x1 x2) x2, spec_l10Draw_a0 x0 x1 x2,
  nxA (spec_l10Draw_a1 x0 x1 x2) (spec_l10Draw_a2 x0 x1 x2) x2,
  nxS (spec_l10Draw_a1 x0 x1 x2) (spec_l10Draw_a2 x0 x1 x2) (spec_l10Draw_a3 x0 x1 x2) x2, [], x2)

def spec_l10Draw_a5 (x0 : Int) (x1 : Int) (x2 : List Int) : Int × Int × List Int × List Int :=
  Prod.snd (Prod.snd (Prod.snd (Prod.snd (Lp.res lp_spec_l10Draw_l0 (spec_l10Draw_a4 x0 x1 x2)))))

def spec_l10Draw_a6 (x0 : Int) (x1 : Int) (x2 : List Int) : Int :=
  Prod.fst (spec_l10Draw_a5 x0 x1 x2)

def spec_l10Draw_a7 (x0 : Int) (x1 : Int) (x2 : List Int) : Int × List Int × List Int :=
  Prod.snd (spec_l10Draw_a5 x0 x1 x2)

def spec_l10Draw_a8 (x0 : Int) (x1 : Int) (x2 : List Int) : Int :=
  nxV (40 : Int) (spec_l10Draw_a6 x0 x1 x2) (Prod.fst (spec_l10Draw_a7 x0 x1 x2)) x2

def spec_l10Draw_a9 (x0 : Int) (x1 : Int) (x2 : List Int) : Bool :=
  spec_l10Draw_a8 x0 x1 x2 == (0 : Int)

def spec_l10Draw_a10 (x0 : Int) (x1 : Int) (x2 : List Int) : Int :=
  nxS (40 : Int) (spec_l10Draw_a6 x0 x1 x2) (Prod.fst (spec_l10Draw_a7 x0 x1 x2)) x2

def spec_l10Draw_a11 (x0 : Int) (x1 : Int) (x2 : List Int) : Bool :=
  spec_l10Draw_a8 x0 x1 x2 == (1 : Int)

def spec_l10Draw_a12 (x0 : Int) (x1 : Int) (x2 : List Int) : Bool :=
  spec_l10Draw_a8 x0 x1 x2 == (2 : Int)

def spec_l10Draw_a13 (x0 : Int) (x1 : Int) (x2 : List Int) : Bool :=
  spec_l10Draw_a8 x0 x1 x2 == (3 : Int)

def spec_l10Draw_a14 (x0 : Int) (x1 : Int) (x2 : List Int) : Int :=
  IntKind.wrap IntKind.i64 ((3 : Int) * spec_l10Draw_a0 x0 x1 x2)

def spec_l10Draw_a15 (x0 : Int) (x1 : Int) (x2 : List Int) : List Int :=
  [(-1 : Int), IntKind.wrap IntKind.i64 (spec_l10Draw_a14 x0 x1 x2 - (1 : Int)), spec_l10Draw_a14 x0 x1 x2]

def spec_l10Draw_a16 (x0 : Int) (x1 : Int) (x2 : List Int) : List Int :=
  Prod.fst (Prod.snd (spec_l10Draw_a7 x0 x1 x2))

def spec_l10Draw_a17 (x0 : Int) (x1 : Int) (x2 : List Int) : Int :=
  IntKind.wrap IntKind.i64 ((4 : Int) + nxV (2 : Int) (nxA (40 : Int) (spec_l10Draw_a6 x0 x1 x2) x2) (spec_l10Draw_a10 x0 x1 x2) x2)

def spec_l10Draw_a18 (x0 : Int) (x1 : Int) (x2 : List Int) : Bool :=
  srcOk (nxA (40 : Int) (spec_l10Draw_a6 x0 x1 x2) x2) (spec_l10Draw_a10 x0 x1 x2) x2

def spec_l10Draw_0 (x0 : Int) (x1 : Int) (x2 : List Int) : Int :=
  bif spec_l10Draw_a9 x0 x1 x2 then pkV (nxA (40 : Int) (spec_l10Draw_a6 x0 x1 x2) x2) (spec_l10Draw_a10 x0 x1 x2) [(1 : Int), (8 : Int), (9 : Int)] x2
  else
  bif spec_l10Draw_a11 x0 x1 x2 then spec_l10Draw_a0 x0 x1 x2
  else
    bif spec_l10Draw_a12 x0 x1 x2 then spec_l10Draw_a0 x0 x1 x2
    else bif spec_l10Draw_a13 x0 x1 x2 then spec_l10Draw_a0 x0 x1 x2 else spec_l10Draw_a0 x0 x1 x2

def spec_l10Draw_1 (x0 : Int) (x1 : Int) (x2 : List Int) : Int :=
  bif spec_l10Draw_a9 x0 x1 x2 then pkA (nxA (40 : Int) (spec_l10Draw_a6 x0 x1 x2) x2) [(1 : Int), (8 : Int), (9 : Int)] x2
  else
  bif spec_l10Draw_a11 x0 x1 x2 then pkA (nxA (40 : Int) (spec_l10Draw_a6 x0 x1 x2) x2) (spec_l10Draw_a15 x0 x1 x2) x2
  else
    bif spec_l10Draw_a12 x0 x1 x2 then nxA (2 : Int) (nxA (40 : Int) (spec_l10Draw_a6 x0 x1 x2) x2) x2
    else bif spec_l10Draw_a13 x0 x1 x2 then nxA (40 : Int) (spec_l10Draw_a6 x0 x1 x2) x2 else nxA (40 : Int) (spec_l10Draw_a6 x0 x1 x2) x2

def spec_l10Draw_2 (x0 : Int) (x1 : Int) (x2 : List Int) : Int :=
  bif spec_l10Draw_a9 x0 x1 x2 then pkS (nxA (40 : Int) (spec_l10Draw_a6 x0 x1 x2) x2) (spec_l10Draw_a10 x0 x1 x2) [(1 : Int), (8 : Int), (9 : Int)] x2
  else
  bif spec_l10Draw_a11 x0 x1 x2 then pkS (nxA (40 : Int) (spec_l10Draw_a6 x0 x1 x2) x2) (spec_l10Draw_a10 x0 x1 x2) (spec_l10Draw_a15 x0 x1 x2) x2
  else
    bif spec_l10Draw_a12 x0 x1 x2 then nxS (2 : Int) (nxA (40 : Int) (spec_l10Draw_a6 x0 x1 x2) x2) (spec_l10Draw_a10 x0 x1 x2) x2
    else bif spec_l10Draw_a13 x0 x1 x2 then spec_l10Draw_a10 x0 x1 x2 else spec_l10Draw_a10 x0 x1 x2

def spec_l10Draw_3 (x0 : Int) (x1 : Int) (x2 : List Int) : List Int :=
  bif spec_l10Draw_a9 x0 x1 x2 then spec_l10Draw_a16 x0 x1 x2
  else
  bif spec_l10Draw_a11 x0 x1 x2 then
    List.set (spec_l10Draw_a16 x0 x1 x2) (Int.toNat (0 : Int))
      (pkV (nxA (40 : Int) (spec_l10Draw_a6 x0 x1 x2) x2) (spec_l10Draw_a10 x0 x1 x2) (spec_l10Draw_a15 x0 x1 x2) x2)
  else
    bif spec_l10Draw_a12 x0 x1 x2 then List.replicate (Int.toNat (spec_l10Draw_a17 x0 x1 x2)) (0 : Int)
    else bif spec_l10Draw_a13 x0 x1 x2 then [] else spec_l10Draw_a16 x0 x1 x2

def spec_l10Draw_4 (x0 : Int) (x1 : Int) (x2 : List Int) : Bool :=
  allT
  [srcOk x0 x1 x2, srcOk (nxA (5 : Int) x0 x2) (nxS (5 : Int) x0 x1 x2) x2, srcOk (spec_l10Draw_a2 x0 x1 x2) (spec_l10Draw_a3 x0 x1 x2) x2,
    Lp.fin lp_spec_l10Draw_l0 (spec_l10Draw_a4 x0 x1 x2), srcOk (spec_l10Draw_a6 x0 x1 x2) (Prod.fst (spec_l10Draw_a7 x0 x1 x2)) x2,
    !spec_l10Draw_a9 x0 x1 x2 || spec_l10Draw_a18 x0 x1 x2 && leN (1 : Nat) (List.length [(1 : Int), (8 : Int), (9 : Int)]),
    spec_l10Draw_a9 x0 x1 x2 || (!spec_l10Draw_a11 x0 x1 x2 || spec_l10Draw_a18 x0 x1 x2 && leN (1 : Nat) (List.length (spec_l10Draw_a15 x0 x1 x2))),
    spec_l10Draw_a9 x0 x1 x2 || (!spec_l10Draw_a11 x0 x1 x2 || leI (0 : Int) (0 : Int)),
    spec_l10Draw_a9 x0 x1 x2 || (!spec_l10Draw_a11 x0 x1 x2 || ltI (0 : Int) (↑(List.length (spec_l10Draw_a16 x0 x1 x2)) : Int)),
    spec_l10Draw_a9 x0 x1 x2 || (!spec_l10Draw_a11 x0 x1 x2 || ltN (Int.toNat (0 : Int)) (List.length (spec_l10Draw_a16 x0 x1 x2))),
    spec_l10Draw_a9 x0 x1 x2 || (spec_l10Draw_a11 x0 x1 x2 || (!spec_l10Draw_a12 x0 x1 x2 || spec_l10Draw_a18 x0 x1 x2)),
    spec_l10Draw_a9 x0 x1 x2 || (spec_l10Draw_a11 x0 x1 x2 || (!spec_l10Draw_a12 x0 x1 x2 || leI (0 : Int) (spec_l10Draw_a17 x0 x1 x2))),
    spec_l10Draw_a9 x0 x1 x2 ||
      (spec_l10Draw_a11 x0 x1 x2 || (!spec_l10Draw_a12 x0 x1 x2 || leI (spec_l10Draw_a17 x0 x1 x2) (spec_l10Draw_a17 x0 x1 x2))),
    spec_l10Draw_a9 x0 x1 x2 ||
      (spec_l10Draw_a11 x0 x1 x2 || (!spec_l10Draw_a12 x0 x1 x2 || leI ((↑(8 : Nat) : Int) * spec_l10Draw_a17 x0 x1 x2) (281474976710656 : Int))),
    spec_l10Draw_a9 x0 x1 x2 ||
      (spec_l10Draw_a11 x0 x1 x2 || (!spec_l10Draw_a12 x0 x1 x2 || leI (spec_l10Draw_a17 x0 x1 x2) (9223372036854775807 : Int)))]

def F_spec_l10Draw : List SV → List Entry → Option Out
  | [.one ⟨false, [.ptr 0 0]⟩], [.box 139 [.ref 1, .val (.int .i64 x0), .val (.int .i64 x1)], .row false 5 (.int .u8) x2] => some ⟨(.one ⟨true, [(.val (.int IntKind.i64 (spec_l10Draw_0 x0 x1 x2))), (.ref 2)]⟩), [(.box 139 [(.ref 1), (.val (.int IntKind.i64 (spec_l10Draw_1 x0 x1 x2))), (.val (.int IntKind.i64 (spec_l10Draw_2 x0 x1 x2)))]), (.row false 5 (CTy.int IntKind.u8) x2)], [(.row true 2 (CTy.int IntKind.i64) (spec_l10Draw_3 x0 x1 x2))], [(spec_l10Draw_4 x0 x1 x2)]⟩
  | _, _ => none

def p_spec_l10Draw : PF Try.prog := PF.ofG Try.prog [n_spec_l01Next, PF.lend n_spec_l01Next, PF.fz n_spec_l01Next, n_spec_l01Pick, PF.lend n_spec_l01Pick, PF.fz n_spec_l01Pick] [lp_spec_l10Draw_l0.F] hmix 96 Try.f96 Try.func96 (LOk.fnT (l := [loopAt Try.f96 0]) (by kernel_rfl) (.cons lpok_spec_l10Draw_l0 (.nil _))) F_spec_l10Draw (by
  intro vs es r h; unfold F_spec_l10Draw at h; split at h
  · cases h; kernel_rfl
  · cases h)

abbrev X_spec_l11DrawFaults_l0 := Int × Int × Int × Int × List (Int × (Int × Int)) × List Int

def spec_l11DrawFaults_l0_a0 (y2 : Int) (y3 : Int) (y5 : List Int) : Bool :=
  nxV (6 : Int) y2 y3 y5 == (0 : Int)

def spec_l11DrawFaults_l0_a1 (y2 : Int) (y3 : Int) (y5 : List Int) : Bool :=
  srcOk (nxA (6 : Int) y2 y5) (nxS (6 : Int) y2 y3 y5) y5

def spec_l11DrawFaults_l0_a2 (y2 : Int) (y5 : List Int) : Int :=
  nxA (2 : Int) (nxA (6 : Int) y2 y5) y5

def spec_l11DrawFaults_l0_a3 (y2 : Int) (y3 : Int) (y5 : List Int) : Int :=
  nxS (2 : Int) (nxA (6 : Int) y2 y5) (nxS (6 : Int) y2 y3 y5) y5

def spec_l11DrawFaults_l0_a4 (y0 : Int) (y2 : Int) (y3 : Int) (y5 : List Int) : List (Int × Int × Int) :=
  [(y0, nxV (2 : Int) (nxA (6 : Int) y2 y5) (nxS (6 : Int) y2 y3 y5) y5,
    nxV (2 : Int) (spec_l11DrawFaults_l0_a2 y2 y5) (spec_l11DrawFaults_l0_a3 y2 y3 y5) y5)]

def spec_l11DrawFaults_l0_a5 (y2 : Int) (y3 : Int) (y5 : List Int) : Bool :=
  nxV (6 : Int) y2 y3 y5 == (1 : Int)

def spec_l11DrawFaults_l0_a6 (y2 : Int) (y3 : Int) (y5 : List Int) : Bool :=
  nxV (4 : Int) (nxA (6 : Int) y2 y5) (nxS (6 : Int) y2 y3 y5) y5 == (0 : Int)

def spec_l11DrawFaults_l0_a7 (y2 : Int) (y5 : List Int) : Int :=
  nxA (4 : Int) (nxA (6 : Int) y2 y5) y5

def spec_l11DrawFaults_l0_a8 (y2 : Int) (y3 : Int) (y5 : List Int) : Int :=
  nxS (4 : Int) (nxA (6 : Int) y2 y5) (nxS (6 : Int) y2 y3 y5) y5

def spec_l11DrawFaults_l0_a9 (y0 : Int) (y2 : Int) (y3 : Int) (y5 : List Int) : List (Int × Int × Int) :=
  [(y0, (0 : Int), (0 : Int)),
  (y0, (1 : Int),
    IntKind.wrap IntKind.i64 (Int.tdiv (nxV (3 : Int) (spec_l11DrawFaults_l0_a7 y2 y5) (spec_l11DrawFaults_l0_a8 y2 y3 y5) y5) (2 : Int)))]

def spec_l11DrawFaults_l0_0 (y0 : Int) (y1 : Int) : Bool :=
  bif ltI y0 y1 then ltI y0 (7 : Int) else false

def spec_l11DrawFaults_l0_1 (y2 : Int) (y3 : Int) (y5 : List Int) : Bool :=
  srcOk y2 y3 y5

def spec_l11DrawFaults_l0_2 (y2 : Int) (y3 : Int) (y5 : List Int) : Bool :=
  !spec_l11DrawFaults_l0_a0 y2 y3 y5 || spec_l11DrawFaults_l0_a1 y2 y3 y5

def spec_l11DrawFaults_l0_3 (y2 : Int) (y3 : Int) (y5 : List Int) : Bool :=
  !spec_l11DrawFaults_l0_a0 y2 y3 y5 || srcOk (spec_l11DrawFaults_l0_a2 y2 y5) (spec_l11DrawFaults_l0_a3 y2 y3 y5) y5

def spec_l11DrawFaults_l0_4 (y0 : Int) (y2 : Int) (y3 : Int) (y4 : List (Int × (Int × Int))) (y5 : List Int) : Bool :=
  !spec_l11DrawFaults_l0_a0 y2 y3 y5 || leN (List.length y4 + List.length (spec_l11DrawFaults_l0_a4 y0 y2 y3 y5)) (9223372036854775807 : Nat)

def spec_l11DrawFaults_l0_5 (y0 : Int) (y2 : Int) (y3 : Int) (y4 : List (Int × (Int × Int))) (y5 : List Int) : Bool :=
  !spec_l11DrawFaults_l0_a0 y2 y3 y5 || leN ((List.length y4 + List.length (spec_l11DrawFaults_l0_a4 y0 y2 y3 y5)) * (24 : Nat)) (140737488355328 : Nat)

def spec_l11DrawFaults_l0_6 (y2 : Int) (y3 : Int) (y5 : List Int) : Bool :=
  spec_l11DrawFaults_l0_a0 y2 y3 y5 || (!spec_l11DrawFaults_l0_a5 y2 y3 y5 || spec_l11DrawFaults_l0_a1 y2 y3 y5)

def spec_l11DrawFaults_l0_7 (y2 : Int) (y3 : Int) (y5 : List Int) : Bool :=
  spec_l11DrawFaults_l0_a0 y2 y3 y5 ||
  (!spec_l11DrawFaults_l0_a5 y2 y3 y5 ||
    (!spec_l11DrawFaults_l0_a6 y2 y3 y5 || srcOk (spec_l11DrawFaults_l0_a7 y2 y5) (spec_l11DrawFaults_l0_a8 y2 y3 y5) y5))

def spec_l11DrawFaults_l0_8 (y2 : Int) (y3 : Int) (y5 : List Int) : Bool :=
  spec_l11DrawFaults_l0_a0 y2 y3 y5 || (!spec_l11DrawFaults_l0_a5 y2 y3 y5 || (!spec_l11DrawFaults_l0_a6 y2 y3 y5 || neI (2 : Int) (0 : Int)))

def spec_l11DrawFaults_l0_9 (y0 : Int) (y2 : Int) (y3 : Int) (y4 : List (Int × (Int × Int))) (y5 : List Int) : Bool :=
  spec_l11DrawFaults_l0_a0 y2 y3 y5 ||
  (!spec_l11DrawFaults_l0_a5 y2 y3 y5 ||
    (!spec_l11DrawFaults_l0_a6 y2 y3 y5 || leN (List.length y4 + List.length (spec_l11DrawFaults_l0_a9 y0 y2 y3 y5)) (9223372036854775807 : Nat)))

def spec_l11DrawFaults_l0_10 (y0 : Int) (y2 : Int) (y3 : Int) (y4 : List (Int × (Int × Int))) (y5 : List Int) : Bool :=
  spec_l11DrawFaults_l0_a0 y2 y3 y5 ||
  (!spec_l11DrawFaults_l0_a5 y2 y3 y5 ||
    (!spec_l11DrawFaults_l0_a6 y2 y3 y5 ||
      leN ((List.length y4 + List.length (spec_l11DrawFaults_l0_a9 y0 y2 y3 y5)) * (24 : Nat)) (140737488355328 : Nat)))

def spec_l11DrawFaults_l0_11 (y2 : Int) (y3 : Int) (y5 : List Int) : Bool :=
  spec_l11DrawFaults_l0_a0 y2 y3 y5

def spec_l11DrawFaults_l0_12 (y0 : Int) : Int :=
  IntKind.wrap IntKind.i64 (y0 + (1 : Int))

def spec_l11DrawFaults_l0_13 (y2 : Int) (y5 : List Int) : Int :=
  nxA (2 : Int) (spec_l11DrawFaults_l0_a2 y2 y5) y5

def spec_l11DrawFaults_l0_14 (y2 : Int) (y3 : Int) (y5 : List Int) : Int :=
  nxS (2 : Int) (spec_l11DrawFaults_l0_a2 y2 y5) (spec_l11DrawFaults_l0_a3 y2 y3 y5) y5

def spec_l11DrawFaults_l0_15 (y0 : Int) (y2 : Int) (y3 : Int) (y4 : List (Int × (Int × Int))) (y5 : List Int) : List (Int × (Int × Int)) :=
  y4 ++ spec_l11DrawFaults_l0_a4 y0 y2 y3 y5

def spec_l11DrawFaults_l0_16 (y2 : Int) (y3 : Int) (y5 : List Int) : Bool :=
  spec_l11DrawFaults_l0_a5 y2 y3 y5

def spec_l11DrawFaults_l0_17 (y2 : Int) (y3 : Int) (y5 : List Int) : Bool :=
  spec_l11DrawFaults_l0_a6 y2 y3 y5

def spec_l11DrawFaults_l0_18 (y2 : Int) (y5 : List Int) : Int :=
  nxA (3 : Int) (spec_l11DrawFaults_l0_a7 y2 y5) y5

def spec_l11DrawFaults_l0_19 (y2 : Int) (y3 : Int) (y5 : List Int) : Int :=
  nxS (3 : Int) (spec_l11DrawFaults_l0_a7 y2 y5) (spec_l11DrawFaults_l0_a8 y2 y3 y5) y5

def spec_l11DrawFaults_l0_20 (y0 : Int) (y2 : Int) (y3 : Int) (y4 : List (Int × (Int × Int))) (y5 : List Int) : List (Int × (Int × Int)) :=
  y4 ++ spec_l11DrawFaults_l0_a9 y0 y2 y3 y5

def spec_l11DrawFaults_l0_21 (y2 : Int) (y5 : List Int) : Int :=
  spec_l11DrawFaults_l0_a7 y2 y5

def spec_l11DrawFaults_l0_22 (y2 : Int) (y3 : Int) (y5 : List Int) : Int :=
  spec_l11DrawFaults_l0_a8 y2 y3 y5

def spec_l11DrawFaults_l0_23 (y2 : Int) (y5 : List Int) : Int :=
  nxA (6 : Int) y2 y5

def spec_l11DrawFaults_l0_24 (y2 : Int) (y3 : Int) (y5 : List Int) : Int :=
  nxS (6 : Int) y2 y3 y5

def JL_spec_l11DrawFaults_l0 : X_spec_l11DrawFaults_l0 → List (Nat × SV)
  | (y0, y1, _, _, _, _) => [(6, (.one ⟨false, [(.val (.int IntKind.i64 y0))]⟩)), (1, (.one ⟨false, [(.val (.int IntKind.i64 y1))]⟩)), (0, (.one ⟨false, [(.ptr 0 0)]⟩)), (5, (.one ⟨false, [(.ref 1)]⟩))]

def JE_spec_l11DrawFaults_l0 : X_spec_l11DrawFaults_l0 → List (Nat × Entry)
  | (_, _, y2, y3, y4, y5) => [(0, (.box 139 [(.ref 2), (.val (.int IntKind.i64 y2)), (.val (.int IntKind.i64 y3))])), (2, (.row false 5 (CTy.int IntKind.u8) y5)), (1, (.row true 118 (CTy.pair (CTy.int IntKind.i64) (CTy.pair (CTy.int IntKind.i64) (CTy.int IntKind.i64))) y4))]

def XL_spec_l11DrawFaults_l0 : Nat → X_spec_l11DrawFaults_l0 → List (Nat × SV)
  | _, (_, _, _, _, _, _) => [(5, (.one ⟨false, [(.ref 1)]⟩))]

def XE_spec_l11DrawFaults_l0 : Nat → X_spec_l11DrawFaults_l0 → List (Nat × Entry)
  | _, (_, _, y2, y3, y4, y5) => [(0, (.box 139 [(.ref 2), (.val (.int IntKind.i64 y2)), (.val (.int IntKind.i64 y3))])), (1, (.row true 118 (CTy.pair (CTy.int IntKind.i64) (CTy.pair (CTy.int IntKind.i64) (CTy.int IntKind.i64))) y4)), (2, (.row false 5 (CTy.int IntKind.u8) y5))]

def lt_spec_l11DrawFaults_l0 : X_spec_l11DrawFaults_l0 → LT X_spec_l11DrawFaults_l0
  | (y0, y1, y2, y3, y4, y5) => .ite (spec_l11DrawFaults_l0_0 y0 y1) (.need [(spec_l11DrawFaults_l0_1 y2 y3 y5)] (.need [(spec_l11DrawFaults_l0_2 y2 y3 y5), (spec_l11DrawFaults_l0_3 y2 y3 y5), (spec_l11DrawFaults_l0_4 y0 y2 y3 y4 y5), (spec_l11DrawFaults_l0_5 y0 y2 y3 y4 y5), (spec_l11DrawFaults_l0_6 y2 y3 y5), (spec_l11DrawFaults_l0_7 y2 y3 y5), (spec_l11DrawFaults_l0_8 y2 y3 y5), (spec_l11DrawFaults_l0_9 y0 y2 y3 y4 y5), (spec_l11DrawFaults_l0_10 y0 y2 y3 y4 y5)] (.ite (spec_l11DrawFaults_l0_11 y2 y3 y5) (.nrm ((spec_l11DrawFaults_l0_12 y0), y1, (spec_l11DrawFaults_l0_13 y2 y5), (spec_l11DrawFaults_l0_14 y2 y3 y5), (spec_l11DrawFaults_l0_15 y0 y2 y3 y4 y5), y5) [(0, 0), (1, 1280), (2, 2)]) (.ite (spec_l11DrawFaults_l0_16 y2 y3 y5) (.ite (spec_l11DrawFaults_l0_17 y2 y3 y5) (.nrm ((spec_l11DrawFaults_l0_12 y0), y1, (spec_l11DrawFaults_l0_18 y2 y5), (spec_l11DrawFaults_l0_19 y2 y3 y5), (spec_l11DrawFaults_l0_20 y0 y2 y3 y4 y5), y5) [(0, 0), (1, 1664), (2, 2)]) (.nrm ((spec_l11DrawFaults_l0_12 y0), y1, (spec_l11DrawFaults_l0_21 y2 y5), (spec_l11DrawFaults_l0_22 y2 y3 y5), y4, y5) [(0, 0), (1, 1), (2, 2)])) (.nrm ((spec_l11DrawFaults_l0_12 y0), y1, (spec_l11DrawFaults_l0_23 y2 y5), (spec_l11DrawFaults_l0_24 y2 y3 y5), y4, y5) [(0, 0), (1, 1), (2, 2)]))))) (.ext 0 [(0, 0), (1, 1), (2, 2)])

def rd_spec_l11DrawFaults_l0 (s : St) : Option X_spec_l11DrawFaults_l0 :=
  (match s.look 6 with
  | some ⟨none, (.one ⟨false, [(.val (.int IntKind.i64 y0))]⟩)⟩ =>
  (match s.look 1 with
  | some ⟨none, (.one ⟨false, [(.val (.int IntKind.i64 y1))]⟩)⟩ =>
  (match s.look 0 with
  | some ⟨none, (.one ⟨false, [(.ptr 0 0)]⟩)⟩ =>
  (match s.look 5 with
  | some ⟨none, (.one ⟨false, [(.ref 256)]⟩)⟩ =>
  (match s.ent 0 with
  | some (.box 139 [(.ref 1), (.val (.int IntKind.i64 y2)), (.val (.int IntKind.i64 y3))]) =>
  (match s.ent 1 with
  | some (.row false 5 (CTy.int IntKind.u8) y5) =>
  (match s.ent 256 with
  | some (.row true 118 (CTy.pair (CTy.int IntKind.i64) (CTy.pair (CTy.int IntKind.i64) (CTy.int IntKind.i64))) y4) =>
  some (y0, y1, y2, y3, y4, y5)
  | _ => none)
  | _ => none)
  | _ => none)
  | _ => none)
  | _ => none)
  | _ => none)
  | _ => none)

def lp_spec_l11DrawFaults_l0 : Lp X_spec_l11DrawFaults_l0 where
  h := ⟨[9, 10, 11, 12, 13, 14, 15, 18, 19, 21, 20, 22, 23, 24, 25, 26, 27, 28, 29, 30, 5, 32, 31, 33, 34, 35, 36, 37, 38, 39, 40, 41, 42, 43, 44, 45, 16, 17, 6], [0, 2], [1], []⟩
  JL := JL_spec_l11DrawFaults_l0
  JE := JE_spec_l11DrawFaults_l0
  XL := XL_spec_l11DrawFaults_l0
  XE := XE_spec_l11DrawFaults_l0
  q := fun j => match j with | _ => .exit 0
  tags := [0]
  lt := lt_spec_l11DrawFaults_l0
  fuel := fun (y0, y1, y2, y3, y4, y5) => y0.natAbs + y1.natAbs + y2.natAbs + y3.natAbs + y4.length + y5.length
  fix := fun (_, y1, _, _, _, y5) (y0, _, y2, y3, y4, _) => (y0, y1, y2, y3, y4, y5)
  σ := [(0, 0), (2, 1), (1, 256)]
  rd := rd_spec_l11DrawFaults_l0

theorem lpok_spec_l11DrawFaults_l0 : LoopOk Try.prog (fun k => Nat.blt k Try.f147.ntmps) lp_spec_l11DrawFaults_l0.F (loopAt Try.f147 0) := by
  refine Lp.ok (tbl := [n_spec_l01Next, PF.lend n_spec_l01Next, PF.fz n_spec_l01Next, n_spec_l01Pick, PF.lend n_spec_l01Pick, PF.fz n_spec_l01Pick]) (lf := []) hmix lp_spec_l11DrawFaults_l0 (by kernel_rfl) (LOk.nil _) (fun _ => rfl) (fun _ _ => rfl) ?_ ?_ ?_ ?_ (fun _ => rfl) ?_
  · intro x; obtain ⟨y0, y1, y2, y3, y4, y5⟩ := x; kernel_rfl
  · intro x; obtain ⟨y0, y1, y2, y3, y4, y5⟩ := x; kernel_rfl
  · intro s x h
    have h : rd_spec_l11DrawFaults_l0 s = some x := h
    unfold rd_spec_l11DrawFaults_l0 at h
    repeat' split at h
    all_goals cases h
    exact ⟨absS_cons (by assumption) rfl (absS_cons (by assumption) rfl (absS_cons (by assumption) rfl (absS_cons (by assumption) rfl (rfl)))), absE_cons rfl (by assumption) rfl (absE_cons rfl (by assumption) rfl (absE_cons rfl (by assumption) rfl (rfl)))⟩
  · intro x; obtain ⟨y0, y1, y2, y3, y4, y5⟩ := x; kernel_rfl
  · intro x z; obtain ⟨y0, y1, y2, y3, y4, y5⟩ := x; exact (And.intro (And.intro rfl (And.intro (And.intro rfl rfl) rfl)) trivial)

abbrev X_spec_l11DrawFaults_l1 := Int × Int × Int × List (Int × (Int × Int)) × List Int

def spec_l11DrawFaults_l1_a0 (y0 : Int) : List (Int × Int × Int) :=
  [(IntKind.wrap IntKind.i64 (Int.tdiv y0 (2 : Int)), Int.tmod y0 (2 : Int), (1 : Int))]

def spec_l11DrawFaults_l1_0 (y1 : Int) (y2 : Int) (y4 : List Int) : Bool :=
  srcOk y1 y2 y4

def spec_l11DrawFaults_l1_1 (y0 : Int) (y1 : Int) (y2 : Int) (y4 : List Int) : Bool :=
  ltI y0 (IntKind.wrap IntKind.i64 ((8 : Int) + nxV (2 : Int) y1 y2 y4))

def spec_l11DrawFaults_l1_2  : Bool :=
  neI (2 : Int) (0 : Int)

def spec_l11DrawFaults_l1_3 (y0 : Int) (y3 : List (Int × (Int × Int))) : Bool :=
  leN (List.length y3 + List.length (spec_l11DrawFaults_l1_a0 y0)) (9223372036854775807 : Nat)

def spec_l11DrawFaults_l1_4 (y0 : Int) (y3 : List (Int × (Int × Int))) : Bool :=
  leN ((List.length y3 + List.length (spec_l11DrawFaults_l1_a0 y0)) * (24 : Nat)) (140737488355328 : Nat)

def spec_l11DrawFaults_l1_5 (y0 : Int) : Int :=
  IntKind.wrap IntKind.i64 (y0 + (1 : Int))

def spec_l11DrawFaults_l1_6 (y1 : Int) (y4 : List Int) : Int :=
  nxA (2 : Int) y1 y4

def spec_l11DrawFaults_l1_7 (y1 : Int) (y2 : Int) (y4 : List Int) : Int :=
  nxS (2 : Int) y1 y2 y4

def spec_l11DrawFaults_l1_8 (y0 : Int) (y3 : List (Int × (Int × Int))) : List (Int × (Int × Int)) :=
  y3 ++ spec_l11DrawFaults_l1_a0 y0

def JL_spec_l11DrawFaults_l1 : X_spec_l11DrawFaults_l1 → List (Nat × SV)
  | (y0, _, _, _, _) => [(7, (.one ⟨false, [(.val (.int IntKind.i64 y0))]⟩)), (0, (.one ⟨false, [(.ptr 0 0)]⟩)), (5, (.one ⟨false, [(.ref 1)]⟩))]

def JE_spec_l11DrawFaults_l1 : X_spec_l11DrawFaults_l1 → List (Nat × Entry)
  | (_, y1, y2, y3, y4) => [(0, (.box 139 [(.ref 2), (.val (.int IntKind.i64 y1)), (.val (.int IntKind.i64 y2))])), (2, (.row false 5 (CTy.int IntKind.u8) y4)), (1, (.row true 118 (CTy.pair (CTy.int IntKind.i64) (CTy.pair (CTy.int IntKind.i64) (CTy.int IntKind.i64))) y3))]

def XL_spec_l11DrawFaults_l1 : Nat → X_spec_l11DrawFaults_l1 → List (Nat × SV)
  | _, (_, _, _, _, _) => [(5, (.one ⟨false, [(.ref 1)]⟩))]

def XE_spec_l11DrawFaults_l1 : Nat → X_spec_l11DrawFaults_l1 → List (Nat × Entry)
  | _, (_, y1, y2, y3, y4) => [(0, (.box 139 [(.ref 2), (.val (.int IntKind.i64 (spec_l11DrawFaults_l1_6 y1 y4))), (.val (.int IntKind.i64 (spec_l11DrawFaults_l1_7 y1 y2 y4)))])), (1, (.row true 118 (CTy.pair (CTy.int IntKind.i64) (CTy.pair (CTy.int IntKind.i64) (CTy.int IntKind.i64))) y3)), (2, (.row false 5 (CTy.int IntKind.u8) y4))]

def lt_spec_l11DrawFaults_l1 : X_spec_l11DrawFaults_l1 → LT X_spec_l11DrawFaults_l1
  | (y0, y1, y2, y3, y4) => .need [(spec_l11DrawFaults_l1_0 y1 y2 y4)] (.ite (spec_l11DrawFaults_l1_1 y0 y1 y2 y4) (.need [(spec_l11DrawFaults_l1_2), (spec_l11DrawFaults_l1_2), (spec_l11DrawFaults_l1_3 y0 y3), (spec_l11DrawFaults_l1_4 y0 y3)] (.nrm ((spec_l11DrawFaults_l1_5 y0), (spec_l11DrawFaults_l1_6 y1 y4), (spec_l11DrawFaults_l1_7 y1 y2 y4), (spec_l11DrawFaults_l1_8 y0 y3), y4) [(0, 0), (1, 832), (2, 2)])) (.ext 0 [(0, 0), (1, 1), (2, 2)]))

def rd_spec_l11DrawFaults_l1 (s : St) : Option X_spec_l11DrawFaults_l1 :=
  (match s.look 7 with
  | some ⟨none, (.one ⟨false, [(.val (.int IntKind.i64 y0))]⟩)⟩ =>
  (match s.look 0 with
  | some ⟨none, (.one ⟨false, [(.ptr 0 0)]⟩)⟩ =>
  (match s.look 5 with
  | some ⟨none, (.one ⟨false, [(.ref 896)]⟩)⟩ =>
  (match s.ent 0 with
  | some (.box 139 [(.ref 1), (.val (.int IntKind.i64 y1)), (.val (.int IntKind.i64 y2))]) =>
  (match s.ent 1 with
  | some (.row false 5 (CTy.int IntKind.u8) y4) =>
  (match s.ent 896 with
  | some (.row true 118 (CTy.pair (CTy.int IntKind.i64) (CTy.pair (CTy.int IntKind.i64) (CTy.int IntKind.i64))) y3) =>
  some (y0, y1, y2, y3, y4)
  | _ => none)
  | _ => none)
  | _ => none)
  | _ => none)
  | _ => none)
  | _ => none)

def lp_spec_l11DrawFaults_l1 : Lp X_spec_l11DrawFaults_l1 where
  h := ⟨[66, 67, 68, 69, 70, 73, 74, 75, 76, 77, 78, 79, 80, 5, 71, 72, 7], [0, 2], [1], []⟩
  JL := JL_spec_l11DrawFaults_l1
  JE := JE_spec_l11DrawFaults_l1
  XL := XL_spec_l11DrawFaults_l1
  XE := XE_spec_l11DrawFaults_l1
  q := fun j => match j with | _ => .exit 4
  tags := [0]
  lt := lt_spec_l11DrawFaults_l1
  fuel := fun (y0, y1, y2, y3, y4) => y0.natAbs + y1.natAbs + y2.natAbs + y3.length + y4.length
  fix := fun (_, _, _, _, y4) (y0, y1, y2, y3, _) => (y0, y1, y2, y3, y4)
  σ := [(0, 0), (2, 1), (1, 896)]
  rd := rd_spec_l11DrawFaults_l1

theorem lpok_spec_l11DrawFaults_l1 : LoopOk Try.prog (fun k => Nat.blt k Try.f147.ntmps) lp_spec_l11DrawFaults_l1.F (loopAt Try.f147 1) := by
  refine Lp.ok (tbl := [n_spec_l01Next, PF.lend n_spec_l01Next, PF.fz n_spec_l01Next, n_spec_l01Pick, PF.lend n_spec_l01Pick, PF.fz n_spec_l01Pick]) (lf := []) hmix lp_spec_l11DrawFaults_l1 (by kernel_rfl) (LOk.nil _) (fun _ => rfl) (fun _ _ => rfl) ?_ ?_ ?_ ?_ (fun _ => rfl) ?_
  · intro x; obtain ⟨y0, y1, y2, y3, y4⟩ := x; kernel_rfl
  · intro x; obtain ⟨y0, y1, y2, y3, y4⟩ := x; kernel_rfl
  · intro s x h
    have h : rd_spec_l11DrawFaults_l1 s = some x := h
    unfold rd_spec_l11DrawFaults_l1 at h
    repeat' split at h
    all_goals cases h
    exact ⟨absS_cons (by assumption) rfl (absS_cons (by assumption) rfl (absS_cons (by assumption) rfl (rfl))), absE_cons rfl (by assumption) rfl (absE_cons rfl (by assumption) rfl (absE_cons rfl (by assumption) rfl (rfl)))⟩
  · intro x; obtain ⟨y0, y1, y2, y3, y4⟩ := x; kernel_rfl
  · intro x z; obtain ⟨y0, y1, y2, y3, y4⟩ := x; exact (And.intro rfl trivial)

def spec_l11DrawFaults_a0 (x3 : List Int) : List (Int × Int × Int) × List Int :=
  ([], x3)

def spec_l11DrawFaults_a1 (x0 : Int) (x1 : Int) (x2 : Int) (x3 : List Int) : Int × Int × Int × Int × List (Int × Int × Int) × List Int :=
  ((0 : Int), x0, x1, x2, spec_l11DrawFaults_a0 x3)

def spec_l11DrawFaults_a2 (x0 : Int) (x1 : Int) (x2 : Int) (x3 : List Int) : Int × Int × List (Int × Int × Int) × List Int :=
  Prod.snd (Prod.snd (Prod.snd (Lp.res lp_spec_l11DrawFaults_l0 (spec_l11DrawFaults_a1 x0 x1 x2 x3))))

def spec_l11DrawFaults_a3 (x0 : Int) (x1 : Int) (x2 : Int) (x3 : List Int) : Int :=
  Prod.fst (spec_l11DrawFaults_a2 x0 x1 x2 x3)

def spec_l11DrawFaults_a4 (x0 : Int) (x1 : Int) (x2 : Int) (x3 : List Int) : Int × List (Int × Int × Int) × List Int :=
  Prod.snd (spec_l11DrawFaults_a2 x0 x1 x2 x3)

def spec_l11DrawFaults_a5 (x0 : Int) (x1 : Int) (x2 : Int) (x3 : List Int) : Int :=
  Prod.fst (spec_l11DrawFaults_a4 x0 x1 x2 x3)

def spec_l11DrawFaults_a6 (x0 : Int) (x1 : Int) (x2 : Int) (x3 : List Int) : Int :=
  nxV (40 : Int) (spec_l11DrawFaults_a3 x0 x1 x2 x3) (spec_l11DrawFaults_a5 x0 x1 x2 x3) x3

def spec_l11DrawFaults_a7 (x0 : Int) (x1 : Int) (x2 : Int) (x3 : List Int) : Bool :=
  spec_l11DrawFaults_a6 x0 x1 x2 x3 == (0 : Int)

def spec_l11DrawFaults_a8 (x0 : Int) : List Int :=
  [(-1 : Int), (0 : Int), x0]

def spec_l11DrawFaults_a9 (x0 : Int) (x1 : Int) (x2 : Int) (x3 : List Int) : Int :=
  pkA (nxA (40 : Int) (spec_l11DrawFaults_a3 x0 x1 x2 x3) x3) (spec_l11DrawFaults_a8 x0) x3

def spec_l11DrawFaults_a10 (x0 : Int) (x1 : Int) (x2 : Int) (x3 : List Int) : Int :=
  pkA (spec_l11DrawFaults_a9 x0 x1 x2 x3) [(0 : Int), (1 : Int), (2 : Int)] x3

def spec_l11DrawFaults_a11 (x0 : Int) (x1 : Int) (x2 : Int) (x3 : List Int) : Bool :=
  spec_l11DrawFaults_a6 x0 x1 x2 x3 == (1 : Int)

def spec_l11DrawFaults_a12 (x0 : Int) (x1 : Int) (x2 : Int) (x3 : List Int) : Int :=
  nxS (40 : Int) (spec_l11DrawFaults_a3 x0 x1 x2 x3) (spec_l11DrawFaults_a5 x0 x1 x2 x3) x3

def spec_l11DrawFaults_a13 (x0 : Int) (x1 : Int) (x2 : Int) (x3 : List Int) : Int × Int × Int × List (Int × Int × Int) × List Int :=
  ((0 : Int), nxA (40 : Int) (spec_l11DrawFaults_a3 x0 x1 x2 x3) x3, spec_l11DrawFaults_a12 x0 x1 x2 x3, spec_l11DrawFaults_a0 x3)

def spec_l11DrawFaults_a14 (x0 : Int) (x1 : Int) (x2 : Int) (x3 : List Int) : Int × Int × List (Int × Int × Int) × List Int :=
  Prod.snd (Prod.snd (Lp.res lp_spec_l11DrawFaults_l1 (spec_l11DrawFaults_a13 x0 x1 x2 x3)))

def spec_l11DrawFaults_a15 (x0 : Int) (x1 : Int) (x2 : Int) (x3 : List Int) : Int :=
  Prod.fst (spec_l11DrawFaults_a14 x0 x1 x2 x3)

def spec_l11DrawFaults_a16 (x0 : Int) (x1 : Int) (x2 : Int) (x3 : List Int) : Int :=
  pkS (nxA (40 : Int) (spec_l11DrawFaults_a3 x0 x1 x2 x3) x3) (spec_l11DrawFaults_a12 x0 x1 x2 x3) (spec_l11DrawFaults_a8 x0) x3

def spec_l11DrawFaults_a17 (x0 : Int) (x1 : Int) (x2 : Int) (x3 : List Int) : Int :=
  pkS (spec_l11DrawFaults_a9 x0 x1 x2 x3) (spec_l11DrawFaults_a16 x0 x1 x2 x3) [(0 : Int), (1 : Int), (2 : Int)] x3

def spec_l11DrawFaults_a18 (x0 : Int) (x1 : Int) (x2 : Int) (x3 : List Int) : Int × List (Int × Int × Int) × List Int :=
  Prod.snd (spec_l11DrawFaults_a14 x0 x1 x2 x3)

def spec_l11DrawFaults_a19 (x0 : Int) (x1 : Int) (x2 : Int) (x3 : List Int) : List (Int × Int × Int) :=
  Prod.fst (Prod.snd (spec_l11DrawFaults_a4 x0 x1 x2 x3))

def spec_l11DrawFaults_a20 (x0 : Int) (x1 : Int) (x2 : Int) (x3 : List Int) : List (Int × Int × Int) :=
  [(pkV (nxA (40 : Int) (spec_l11DrawFaults_a3 x0 x1 x2 x3) x3) (spec_l11DrawFaults_a12 x0 x1 x2 x3) (spec_l11DrawFaults_a8 x0) x3,
    pkV (spec_l11DrawFaults_a9 x0 x1 x2 x3) (spec_l11DrawFaults_a16 x0 x1 x2 x3) [(0 : Int), (1 : Int), (2 : Int)] x3,
    nxV (3 : Int) (spec_l11DrawFaults_a10 x0 x1 x2 x3) (spec_l11DrawFaults_a17 x0 x1 x2 x3) x3)]

def spec_l11DrawFaults_0 (x0 : Int) (x1 : Int) (x2 : Int) (x3 : List Int) : Int :=
  bif spec_l11DrawFaults_a7 x0 x1 x2 x3 then nxA (3 : Int) (spec_l11DrawFaults_a10 x0 x1 x2 x3) x3
  else
  bif spec_l11DrawFaults_a11 x0 x1 x2 x3 then spec_l11DrawFaults_l1_6 (spec_l11DrawFaults_a15 x0 x1 x2 x3) x3
  else nxA (40 : Int) (spec_l11DrawFaults_a3 x0 x1 x2 x3) x3

def spec_l11DrawFaults_1 (x0 : Int) (x1 : Int) (x2 : Int) (x3 : List Int) : Int :=
  bif spec_l11DrawFaults_a7 x0 x1 x2 x3 then nxS (3 : Int) (spec_l11DrawFaults_a10 x0 x1 x2 x3) (spec_l11DrawFaults_a17 x0 x1 x2 x3) x3
  else
  bif spec_l11DrawFaults_a11 x0 x1 x2 x3 then
    spec_l11DrawFaults_l1_7 (spec_l11DrawFaults_a15 x0 x1 x2 x3) (Prod.fst (spec_l11DrawFaults_a18 x0 x1 x2 x3)) x3
  else spec_l11DrawFaults_a12 x0 x1 x2 x3

def spec_l11DrawFaults_2 (x0 : Int) (x1 : Int) (x2 : Int) (x3 : List Int) : List (Int × (Int × Int)) :=
  bif spec_l11DrawFaults_a7 x0 x1 x2 x3 then spec_l11DrawFaults_a19 x0 x1 x2 x3 ++ spec_l11DrawFaults_a20 x0 x1 x2 x3
  else bif spec_l11DrawFaults_a11 x0 x1 x2 x3 then Prod.fst (Prod.snd (spec_l11DrawFaults_a18 x0 x1 x2 x3)) else spec_l11DrawFaults_a19 x0 x1 x2 x3

def spec_l11DrawFaults_3 (x0 : Int) (x1 : Int) (x2 : Int) (x3 : List Int) : Bool :=
  allT
  [Lp.fin lp_spec_l11DrawFaults_l0 (spec_l11DrawFaults_a1 x0 x1 x2 x3),
    srcOk (spec_l11DrawFaults_a3 x0 x1 x2 x3) (spec_l11DrawFaults_a5 x0 x1 x2 x3) x3,
    !spec_l11DrawFaults_a7 x0 x1 x2 x3 ||
      srcOk (nxA (40 : Int) (spec_l11DrawFaults_a3 x0 x1 x2 x3) x3) (spec_l11DrawFaults_a12 x0 x1 x2 x3) x3 &&
        leN (1 : Nat) (List.length (spec_l11DrawFaults_a8 x0)),
    !spec_l11DrawFaults_a7 x0 x1 x2 x3 ||
      srcOk (spec_l11DrawFaults_a9 x0 x1 x2 x3) (spec_l11DrawFaults_a16 x0 x1 x2 x3) x3 &&
        leN (1 : Nat) (List.length [(0 : Int), (1 : Int), (2 : Int)]),
    !spec_l11DrawFaults_a7 x0 x1 x2 x3 || srcOk (spec_l11DrawFaults_a10 x0 x1 x2 x3) (spec_l11DrawFaults_a17 x0 x1 x2 x3) x3,
    !spec_l11DrawFaults_a7 x0 x1 x2 x3 ||
      leN (List.length (spec_l11DrawFaults_a19 x0 x1 x2 x3) + List.length (spec_l11DrawFaults_a20 x0 x1 x2 x3)) (9223372036854775807 : Nat),
    !spec_l11DrawFaults_a7 x0 x1 x2 x3 ||
      leN ((List.length (spec_l11DrawFaults_a19 x0 x1 x2 x3) + List.length (spec_l11DrawFaults_a20 x0 x1 x2 x3)) * (24 : Nat))
        (140737488355328 : Nat),
    spec_l11DrawFaults_a7 x0 x1 x2 x3 ||
      (!spec_l11DrawFaults_a11 x0 x1 x2 x3 || Lp.fin lp_spec_l11DrawFaults_l1 (spec_l11DrawFaults_a13 x0 x1 x2 x3))]

def F_spec_l11DrawFaults : List SV → List Entry → Option Out
  | [.one ⟨false, [.ptr 0 0]⟩, .one ⟨false, [.val (.int .i64 x0)]⟩], [.box 139 [.ref 1, .val (.int .i64 x1), .val (.int .i64 x2)], .row false 5 (.int .u8) x3] => some ⟨(.one ⟨false, [(.ref 2)]⟩), [(.box 139 [(.ref 1), (.val (.int IntKind.i64 (spec_l11DrawFaults_0 x0 x1 x2 x3))), (.val (.int IntKind.i64 (spec_l11DrawFaults_1 x0 x1 x2 x3)))]), (.row false 5 (CTy.int IntKind.u8) x3)], [(.row true 118 (CTy.pair (CTy.int IntKind.i64) (CTy.pair (CTy.int IntKind.i64) (CTy.int IntKind.i64))) (spec_l11DrawFaults_2 x0 x1 x2 x3))], [(spec_l11DrawFaults_3 x0 x1 x2 x3)]⟩
  | _, _ => none

def p_spec_l11DrawFaults : PF Try.prog := PF.ofG Try.prog [n_spec_l01Next, PF.lend n_spec_l01Next, PF.fz n_spec_l01Next, n_spec_l01Pick, PF.lend n_spec_l01Pick, PF.fz n_spec_l01Pick] [lp_spec_l11DrawFaults_l0.F, lp_spec_l11DrawFaults_l1.F] hmix 147 Try.f147 Try.func147 (LOk.fnT (l := [loopAt Try.f147 0, loopAt Try.f147 1]) (by kernel_rfl) (.cons lpok_spec_l11DrawFaults_l0 (.cons lpok_spec_l11DrawFaults_l1 (.nil _)))) F_spec_l11DrawFaults (by
  intro vs es r h; unfold F_spec_l11DrawFaults at h; split at h
  · cases h; kernel_rfl
  · cases h)

end Go.SX

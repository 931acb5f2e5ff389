/- What functions of the program come to, row by row (made by a program of the workplace). -/
import Derived.Test.YtjncnnpdaeociaaTXh
import Derived.Test.YtjncnnpdaeociaaProg
import Derived.Test.YtjncnnpdaeociaaNt
namespace Go.SX
open Go.Proofs
set_option maxRecDepth 100000

abbrev X_spec_l10Draw_l0 := Int × Int × Int × Int × Int × List Int × List Int

def spec_l10Draw_l0_a0 (y3 : Int) (y4 : Int) (y6 : List Int) : Int :=
  pkV y3 y4 [(0 : Int), (1 : Int), (1 : Int), (2 : Int)] y6

def spec_l10Draw_l0_a1 (y1 : Int) (y2 : Int) (y3 : Int) (y4 : Int) (y6 : List Int) : List Int :=
  [IntKind.wrap IntKind.i64 (IntKind.wrap IntKind.i64 ((3 : Int) * Int.tmod y1 y2) + spec_l10Draw_l0_a0 y3 y4 y6)]

def spec_l10Draw_l0_a2 (y3 : Int) (y6 : List Int) : Int :=
  pkA y3 [(0 : Int), (1 : Int), (1 : Int), (2 : Int)] y6

def spec_l10Draw_l0_a3 (y3 : Int) (y4 : Int) (y6 : List Int) : Int :=
  pkS y3 y4 [(0 : Int), (1 : Int), (1 : Int), (2 : Int)] y6

def spec_l10Draw_l0_0 (y0 : Int) : Bool :=
  ltI (0 : Int) y0

def spec_l10Draw_l0_1 (y3 : Int) (y4 : Int) (y6 : List Int) : Bool :=
  srcOk y3 y4 y6 && leN (1 : Nat) (List.length [(0 : Int), (1 : Int), (1 : Int), (2 : Int)])

def spec_l10Draw_l0_2 (y2 : Int) : Bool :=
  neI y2 (0 : Int)

def spec_l10Draw_l0_3 (y1 : Int) (y2 : Int) (y3 : Int) (y4 : Int) (y5 : List Int) (y6 : List Int) : Bool :=
  leN (List.length y5 + List.length (spec_l10Draw_l0_a1 y1 y2 y3 y4 y6)) (9223372036854775807 : Nat)

def spec_l10Draw_l0_4 (y1 : Int) (y2 : Int) (y3 : Int) (y4 : Int) (y5 : List Int) (y6 : List Int) : Bool :=
  leN ((List.length y5 + List.length (spec_l10Draw_l0_a1 y1 y2 y3 y4 y6)) * (8 : Nat)) (140737488355328 : Nat)

def spec_l10Draw_l0_5  : Bool :=
  neI (2 : Int) (0 : Int)

def spec_l10Draw_l0_6 (y3 : Int) (y4 : Int) (y6 : List Int) : Bool :=
  srcOk (spec_l10Draw_l0_a2 y3 y6) (spec_l10Draw_l0_a3 y3 y4 y6) y6

def spec_l10Draw_l0_7 (y0 : Int) : Int :=
  IntKind.wrap IntKind.i64 (y0 - (1 : Int))

def spec_l10Draw_l0_8 (y1 : Int) (y3 : Int) (y4 : Int) (y6 : List Int) : Int :=
  IntKind.wrap IntKind.i64
  (IntKind.wrap IntKind.i64
      (IntKind.wrap IntKind.i64 (y1 + (1 : Int)) + IntKind.wrap IntKind.i64 (Int.tdiv (spec_l10Draw_l0_a0 y3 y4 y6) (2 : Int))) +
    IntKind.wrap IntKind.i64 (Int.tdiv (nxV (3 : Int) (spec_l10Draw_l0_a2 y3 y6) (spec_l10Draw_l0_a3 y3 y4 y6) y6) (2 : Int)))

def spec_l10Draw_l0_9 (y3 : Int) (y6 : List Int) : Int :=
  nxA (3 : Int) (spec_l10Draw_l0_a2 y3 y6) y6

def spec_l10Draw_l0_10 (y3 : Int) (y4 : Int) (y6 : List Int) : Int :=
  nxS (3 : Int) (spec_l10Draw_l0_a2 y3 y6) (spec_l10Draw_l0_a3 y3 y4 y6) y6

def spec_l10Draw_l0_11 (y1 : Int) (y2 : Int) (y3 : Int) (y4 : Int) (y5 : List Int) (y6 : List Int) : List Int :=
  y5 ++ spec_l10Draw_l0_a1 y1 y2 y3 y4 y6

def JL_spec_l10Draw_l0 : X_spec_l10Draw_l0 → List (Nat × SV)
  | (y0, y1, y2, _, _, _, _) => [(6, (.one ⟨false, [(.val (.int IntKind.i64 y0))]⟩)), (0, (.one ⟨false, [(.ptr 0 0)]⟩)), (4, (.one ⟨false, [(.ref 1)]⟩)), (5, (.one ⟨false, [(.val (.int IntKind.i64 y1))]⟩)), (3, (.one ⟨false, [(.val (.int IntKind.i64 y2))]⟩))]

def JE_spec_l10Draw_l0 : X_spec_l10Draw_l0 → List (Nat × Entry)
  | (_, _, _, y3, y4, y5, y6) => [(0, (.box 139 [(.ref 2), (.val (.int IntKind.i64 y3)), (.val (.int IntKind.i64 y4))])), (2, (.row false 5 (CTy.int IntKind.u8) y6)), (1, (.row true 2 (CTy.int IntKind.i64) y5))]

def XL_spec_l10Draw_l0 : Nat → X_spec_l10Draw_l0 → List (Nat × SV)
  | _, (_, _, _, _, _, _, _) => [(4, (.one ⟨false, [(.ref 1)]⟩))]

def XE_spec_l10Draw_l0 : Nat → X_spec_l10Draw_l0 → List (Nat × Entry)
  | _, (_, _, _, y3, y4, y5, y6) => [(0, (.box 139 [(.ref 2), (.val (.int IntKind.i64 y3)), (.val (.int IntKind.i64 y4))])), (1, (.row true 2 (CTy.int IntKind.i64) y5)), (2, (.row false 5 (CTy.int IntKind.u8) y6))]

def lt_spec_l10Draw_l0 : X_spec_l10Draw_l0 → LT X_spec_l10Draw_l0
  | (y0, y1, y2, y3, y4, y5, y6) => .ite (spec_l10Draw_l0_0 y0) (.need [(spec_l10Draw_l0_1 y3 y4 y6)] (.need [(spec_l10Draw_l0_2 y2), (spec_l10Draw_l0_3 y1 y2 y3 y4 y5 y6), (spec_l10Draw_l0_4 y1 y2 y3 y4 y5 y6)] (.need [(spec_l10Draw_l0_5), (spec_l10Draw_l0_6 y3 y4 y6), (spec_l10Draw_l0_5)] (.nrm ((spec_l10Draw_l0_7 y0), (spec_l10Draw_l0_8 y1 y3 y4 y6), y2, (spec_l10Draw_l0_9 y3 y6), (spec_l10Draw_l0_10 y3 y4 y6), (spec_l10Draw_l0_11 y1 y2 y3 y4 y5 y6), y6) [(0, 0), (1, 960), (2, 2)])))) (.ext 0 [(0, 0), (1, 1), (2, 2)])

def rd_spec_l10Draw_l0 (s : St) : Option X_spec_l10Draw_l0 :=
  (match s.look 6 with
  | some ⟨none, (.one ⟨false, [(.val (.int IntKind.i64 y0))]⟩)⟩ =>
  (match s.look 0 with
  | some ⟨none, (.one ⟨false, [(.ptr 0 0)]⟩)⟩ =>
  (match s.look 4 with
  | some ⟨none, (.one ⟨false, [(.ref 512)]⟩)⟩ =>
  (match s.look 5 with
  | some ⟨none, (.one ⟨false, [(.val (.int IntKind.i64 y1))]⟩)⟩ =>
  (match s.look 3 with
  | some ⟨none, (.one ⟨false, [(.val (.int IntKind.i64 y2))]⟩)⟩ =>
  (match s.ent 0 with
  | some (.box 139 [(.ref 1), (.val (.int IntKind.i64 y3)), (.val (.int IntKind.i64 y4))]) =>
  (match s.ent 1 with
  | some (.row false 5 (CTy.int IntKind.u8) y6) =>
  (match s.ent 512 with
  | some (.row true 2 (CTy.int IntKind.i64) y5) =>
  some (y0, y1, y2, y3, y4, y5, y6)
  | _ => none)
  | _ => none)
  | _ => none)
  | _ => none)
  | _ => none)
  | _ => none)
  | _ => none)
  | _ => none)

def lp_spec_l10Draw_l0 : Lp X_spec_l10Draw_l0 where
  h := ⟨[20, 21, 24, 25, 26, 7, 27, 28, 29, 30, 31, 32, 33, 34, 35, 4, 36, 37, 38, 39, 40, 41, 42, 43, 44, 5, 22, 23, 6], [0, 2], [1], []⟩
  JL := JL_spec_l10Draw_l0
  JE := JE_spec_l10Draw_l0
  XL := XL_spec_l10Draw_l0
  XE := XE_spec_l10Draw_l0
  q := fun j => match j with | _ => .exit 0
  tags := [0]
  lt := lt_spec_l10Draw_l0
  fuel := fun (y0, y1, y2, y3, y4, y5, y6) => y0.natAbs + y1.natAbs + y2.natAbs + y3.natAbs + y4.natAbs + y5.length + y6.length
  fix := fun (_, _, y2, _, _, _, y6) (y0, y1, _, y3, y4, y5, _) => (y0, y1, y2, y3, y4, y5, y6)
  σ := [(0, 0), (2, 1), (1, 512)]
  rd := rd_spec_l10Draw_l0

theorem lpok_spec_l10Draw_l0 : LoopOk Try.prog (fun k => Nat.blt k Try.f96.ntmps) lp_spec_l10Draw_l0.F (loopAt Try.f96 0) := by
  refine Lp.ok (tbl := [n_spec_l01Next, PF.lend n_spec_l01Next, PF.fz n_spec_l01Next, n_spec_l01Pick, PF.lend n_spec_l01Pick, PF.fz n_spec_l01Pick]) (lf := []) hmix lp_spec_l10Draw_l0 (by kernel_rfl) (LOk.nil _) (fun _ => rfl) (fun _ _ => rfl) ?_ ?_ ?_ ?_ (fun _ => rfl) ?_
  · intro x; obtain ⟨y0, y1, y2, y3, y4, y5, y6⟩ := x; kernel_rfl
  · intro x; obtain ⟨y0, y1, y2, y3, y4, y5, y6⟩ := x; kernel_rfl
  · intro s x h
    have h : rd_spec_l10Draw_l0 s = some x := h
    unfold rd_spec_l10Draw_l0 at h
    repeat' split at h
    all_goals cases h
    exact ⟨absS_cons (by assumption) rfl (absS_cons (by assumption) rfl (absS_cons (by assumption) rfl (absS_cons (by assumption) rfl (absS_cons (by assumption) rfl (rfl))))), absE_cons rfl (by assumption) rfl (absE_cons rfl (by assumption) rfl (absE_cons rfl (by assumption) rfl (rfl)))⟩
  · intro x; obtain ⟨y0, y1, y2, y3, y4, y5, y6⟩ := x; kernel_rfl
  · intro x z; obtain ⟨y0, y1, y2, y3, y4, y5, y6⟩ := x; exact (And.intro rfl trivial)

def spec_l10Draw_a0 (x0 : Int) (x1 : Int) (x2 : List Int) : Int :=
  IntKind.wrap IntKind.i64 ((2 : Int) + nxV (5 : Int) x0 x1 x2)

def spec_l10Draw_a1 (x0 : Int) (x1 : Int) (x2 : List Int) : Int :=
  ifLt (spec_l10Draw_a0 x0 x1 x2) (4 : Int) (spec_l10Draw_a0 x0 x1 x2) (4 : Int)

def spec_l10Draw_a2 (x0 : Int) (x1 : Int) (x2 : List Int) : Int :=
  nxA (spec_l10Draw_a0 x0 x1 x2) (nxA (5 : Int) x0 x2) x2

def spec_l10Draw_a3 (x0 : Int) (x1 : Int) (x2 : List Int) : Int :=
  nxS (spec_l10Draw_a0 x0 x1 x2) (nxA (5 : Int) x0 x2) (nxS (5 : Int) x0 x1 x2) x2

def spec_l10Draw_a4 (x0 : Int) (x1 : Int) (x2 : List Int) : Int × Int × Int × Int × Int × List Int × List Int :=
  (IntKind.wrap IntKind.i64 ((1 : Int) + nxV (spec_l10Draw_a1 x0 x1 x2) (spec_l10Draw_a2 x0 x1 x2) (spec_l10Draw_a3 x0 x1 x2) x2),
  nxV (spec_l10Draw_a0 x0 x1 x2) (nxA (5 : Int) x0 x2) (nxS (5 : Int) x0 x1 x2) x2, spec_l10Draw_a0 x0 x1 x2,
  nxA (spec_l10Draw_a1 x0 x1 x2) (spec_l10Draw_a2 x0 x1 x2) x2,
  nxS (spec_l10Draw_a1 x0 x1 x2) (spec_l10Draw_a2 x0 x1 x2) (spec_l10Draw_a3 x0 x1 x2) x2, [], x2)

def spec_l10Draw_a5 (x0 : Int) (x1 : Int) (x2 : List Int) : Int × Int × List Int × List Int :=
  Prod.snd (Prod.snd (Prod.snd (Prod.snd (Lp.res lp_spec_l10Draw_l0 (spec_l10Draw_a4 x0 x1 x2)))))

def spec_l10Draw_a6 (x0 : Int) (x1 : Int) (x2 : List Int) : Int :=
  Prod.fst (spec_l10Draw_a5 x0 x1 x2)

def spec_l10Draw_a7 (x0 : Int) (x1 : Int) (x2 : List Int) : Int × List Int × List Int :=
  Prod.snd (spec_l10Draw_a5 x0 x1 x2)

def spec_l10Draw_a8 (x0 : Int) (x1 : Int) (x2 : List Int) : Int :=
  nxV (40 : Int) (spec_l10Draw_a6 x0 x1 x2) (Prod.fst (spec_l10Draw_a7 x0 x1 x2)) x2

def spec_l10Draw_a9 (x0 : Int) (x1 : Int) (x2 : List Int) : Bool :=
  spec_l10Draw_a8 x0 x1 x2 == (0 : Int)

def spec_l10Draw_a10 (x0 : Int) (x1 : Int) (x2 : List Int) : Int :=
  nxS (40 : Int) (spec_l10Draw_a6 x0 x1 x2) (Prod.fst (spec_l10Draw_a7 x0 x1 x2)) x2

def spec_l10Draw_a11 (x0 : Int) (x1 : Int) (x2 : List Int) : Bool :=
  spec_l10Draw_a8 x0 x1 x2 == (1 : Int)

def spec_l10Draw_a12 (x0 : Int) (x1 : Int) (x2 : List Int) : Bool :=
  spec_l10Draw_a8 x0 x1 x2 == (2 : Int)

def spec_l10Draw_a13 (x0 : Int) (x1 : Int) (x2 : List Int) : Bool :=
  spec_l10Draw_a8 x0 x1 x2 == (3 : Int)

def spec_l10Draw_a14 (x0 : Int) (x1 : Int) (x2 : List Int) : Int :=
  IntKind.wrap IntKind.i64 ((3 : Int) * spec_l10Draw_a0 x0 x1 x2)

def spec_l10Draw_a15 (x0 : Int) (x1 : Int) (x2 : List Int) : List Int :=
  [(-1 : Int), IntKind.wrap IntKind.i64 (spec_l10Draw_a14 x0 x1 x2 - (1 : Int)), spec_l10Draw_a14 x0 x1 x2]

def spec_l10Draw_a16 (x0 : Int) (x1 : Int) (x2 : List Int) : List Int :=
  Prod.fst (Prod.snd (spec_l10Draw_a7 x0 x1 x2))

def spec_l10Draw_a17 (x0 : Int) (x1 : Int) (x2 : List Int) : Int :=
  IntKind.wrap IntKind.i64 ((4 : Int) + nxV (2 : Int) (nxA (40 : Int) (spec_l10Draw_a6 x0 x1 x2) x2) (spec_l10Draw_a10 x0 x1 x2) x2)

def spec_l10Draw_a18 (x0 : Int) (x1 : Int) (x2 : List Int) : Bool :=
  srcOk (nxA (40 : Int) (spec_l10Draw_a6 x0 x1 x2) x2) (spec_l10Draw_a10 x0 x1 x2) x2

def spec_l10Draw_0 (x0 : Int) (x1 : Int) (x2 : List Int) : Int :=
  bif spec_l10Draw_a9 x0 x1 x2 then pkV (nxA (40 : Int) (spec_l10Draw_a6 x0 x1 x2) x2) (spec_l10Draw_a10 x0 x1 x2) [(1 : Int), (8 : Int), (9 : Int)] x2
  else
  bif spec_l10Draw_a11 x0 x1 x2 then spec_l10Draw_a0 x0 x1 x2
  else
    bif spec_l10Draw_a12 x0 x1 x2 then spec_l10Draw_a0 x0 x1 x2
    else bif spec_l10Draw_a13 x0 x1 x2 then spec_l10Draw_a0 x0 x1 x2 else spec_l10Draw_a0 x0 x1 x2

def spec_l10Draw_1 (x0 : Int) (x1 : Int) (x2 : List Int) : Int :=
  bif spec_l10Draw_a9 x0 x1 x2 then pkA (nxA (40 : Int) (spec_l10Draw_a6 x0 x1 x2) x2) [(1 : Int), (8 : Int), (9 : Int)] x2
  else
  bif spec_l10Draw_a11 x0 x1 x2 then pkA (nxA (40 : Int) (spec_l10Draw_a6 x0 x1 x2) x2) (spec_l10Draw_a15 x0 x1 x2) x2
  else
    bif spec_l10Draw_a12 x0 x1 x2 then nxA (2 : Int) (nxA (40 : Int) (spec_l10Draw_a6 x0 x1 x2) x2) x2
    else bif spec_l10Draw_a13 x0 x1 x2 then nxA (40 : Int) (spec_l10Draw_a6 x0 x1 x2) x2 else nxA (40 : Int) (spec_l10Draw_a6 x0 x1 x2) x2

def spec_l10Draw_2 (x0 : Int) (x1 : Int) (x2 : List Int) : Int :=
  bif spec_l10Draw_a9 x0 x1 x2 then pkS (nxA (40 : Int) (spec_l10Draw_a6 x0 x1 x2) x2) (spec_l10Draw_a10 x0 x1 x2) [(1 : Int), (8 : Int), (9 : Int)] x2
  else
  bif spec_l10Draw_a11 x0 x1 x2 then pkS (nxA (40 : Int) (spec_l10Draw_a6 x0 x1 x2) x2) (spec_l10Draw_a10 x0 x1 x2) (spec_l10Draw_a15 x0 x1 x2) x2
  else
    bif spec_l10Draw_a12 x0 x1 x2 then nxS (2 : Int) (nxA (40 : Int) (spec_l10Draw_a6 x0 x1 x2) x2) (spec_l10Draw_a10 x0 x1 x2) x2
    else bif spec_l10Draw_a13 x0 x1 x2 then spec_l10Draw_a10 x0 x1 x2 else spec_l10Draw_a10 x0 x1 x2

def spec_l10Draw_3 (x0 : Int) (x1 : Int) (x2 : List Int) : List Int :=
  bif spec_l10Draw_a9 x0 x1 x2 then spec_l10Draw_a16 x0 x1 x2
  else
  bif spec_l10Draw_a11 x0 x1 x2 then
    List.set (spec_l10Draw_a16 x0 x1 x2) (Int.toNat (0 : Int))
      (pkV (nxA (40 : Int) (spec_l10Draw_a6 x0 x1 x2) x2) (spec_l10Draw_a10 x0 x1 x2) (spec_l10Draw_a15 x0 x1 x2) x2)
  else
    bif spec_l10Draw_a12 x0 x1 x2 then List.replicate (Int.toNat (spec_l10Draw_a17 x0 x1 x2)) (0 : Int)
    else bif spec_l10Draw_a13 x0 x1 x2 then [] else spec_l10Draw_a16 x0 x1 x2

def spec_l10Draw_4 (x0 : Int) (x1 : Int) (x2 : List Int) : Bool :=
  allT
  [srcOk x0 x1 x2, srcOk (nxA (5 : Int) x0 x2) (nxS (5 : Int) x0 x1 x2) x2, srcOk (spec_l10Draw_a2 x0 x1 x2) (spec_l10Draw_a3 x0 x1 x2) x2,
    Lp.fin lp_spec_l10Draw_l0 (spec_l10Draw_a4 x0 x1 x2), srcOk (spec_l10Draw_a6 x0 x1 x2) (Prod.fst (spec_l10Draw_a7 x0 x1 x2)) x2,
    !spec_l10Draw_a9 x0 x1 x2 || spec_l10Draw_a18 x0 x1 x2 && leN (1 : Nat) (List.length [(1 : Int), (8 : Int), (9 : Int)]),
    spec_l10Draw_a9 x0 x1 x2 || (!spec_l10Draw_a11 x0 x1 x2 || spec_l10Draw_a18 x0 x1 x2 && leN (1 : Nat) (List.length (spec_l10Draw_a15 x0 x1 x2))),
    spec_l10Draw_a9 x0 x1 x2 || (!spec_l10Draw_a11 x0 x1 x2 || leI (0 : Int) (0 : Int)),
    spec_l10Draw_a9 x0 x1 x2 || (!spec_l10Draw_a11 x0 x1 x2 || ltI (0 : Int) (↑(List.length (spec_l10Draw_a16 x0 x1 x2)) : Int)),
    spec_l10Draw_a9 x0 x1 x2 || (!spec_l10Draw_a11 x0 x1 x2 || ltN (Int.toNat (0 : Int)) (List.length (spec_l10Draw_a16 x0 x1 x2))),
    spec_l10Draw_a9 x0 x1 x2 || (spec_l10Draw_a11 x0 x1 x2 || (!spec_l10Draw_a12 x0 x1 x2 || spec_l10Draw_a18 x0 x1 x2)),
    spec_l10Draw_a9 x0 x1 x2 || (spec_l10Draw_a11 x0 x1 x2 || (!spec_l10Draw_a12 x0 x1 x2 || leI (0 : Int) (spec_l10Draw_a17 x0 x1 x2))),
    spec_l10Draw_a9 x0 x1 x2 ||
      (spec_l10Draw_a11 x0 x1 x2 || (!spec_l10Draw_a12 x0 x1 x2 || leI (spec_l10Draw_a17 x0 x1 x2) (spec_l10Draw_a17 x0 x1 x2))),
    spec_l10Draw_a9 x0 x1 x2 ||
      (spec_l10Draw_a11 x0 x1 x2 || (!spec_l10Draw_a12 x0 x1 x2 || leI ((↑(8 : Nat) : Int) * spec_l10Draw_a17 x0 x1 x2) (281474976710656 : Int))),
    spec_l10Draw_a9 x0 x1 x2 ||
      (spec_l10Draw_a11 x0 x1 x2 || (!spec_l10Draw_a12 x0 x1 x2 || leI (spec_l10Draw_a17 x0 x1 x2) (9223372036854775807 : Int)))]

def F_spec_l10Draw : List SV → List Entry → Option Out
  | [.one ⟨false, [.ptr 0 0]⟩], [.box 139 [.ref 1, .val (.int .i64 x0), .val (.int .i64 x1)], .row false 5 (.int .u8) x2] => some ⟨(.one ⟨true, [(.val (.int IntKind.i64 (spec_l10Draw_0 x0 x1 x2))), (.ref 2)]⟩), [(.box 139 [(.ref 1), (.val (.int IntKind.i64 (spec_l10Draw_1 x0 x1 x2))), (.val (.int IntKind.i64 (spec_l10Draw_2 x0 x1 x2)))]), (.row false 5 (CTy.int IntKind.u8) x2)], [(.row true 2 (CTy.int IntKind.i64) (spec_l10Draw_3 x0 x1 x2))], [(spec_l10Draw_4 x0 x1 x2)]⟩
  | _, _ => none

def p_spec_l10Draw : PF Try.prog := PF.ofG Try.prog [n_spec_l01Next, PF.lend n_spec_l01Next, PF.fz n_spec_l01Next, n_spec_l01Pick, PF.lend n_spec_l01Pick, PF.fz n_spec_l01Pick] [lp_spec_l10Draw_l0.F] hmix 96 Try.f96 Try.func96 (LOk.fnT (l := [loopAt Try.f96 0]) (by kernel_rfl) (.cons lpok_spec_l10Draw_l0 (.nil _))) F_spec_l10Draw (by
  intro vs es r h; unfold F_spec_l10Draw at h; split at h
  · cases h; kernel_rfl
  · cases h)

def spec_l25DrawEvent_a0 (x1 : Int) (x2 : Int) (x3 : List Int) (x4 : List Int) : Bool :=
  nxV (3 : Int) (nxA (↑(List.length x3) : Int) x1 x4) (nxS (↑(List.length x3) : Int) x1 x2 x4) x4 == (0 : Int)

def spec_l25DrawEvent_a1 (x1 : Int) (x3 : List Int) (x4 : List Int) : Int :=
  nxA (3 : Int) (nxA (↑(List.length x3) : Int) x1 x4) x4

def spec_l25DrawEvent_a2 (x0 : Int) (x1 : Int) (x2 : Int) (x3 : List Int) (x4 : List Int) : Int :=
  bif spec_l25DrawEvent_a0 x1 x2 x3 x4 then nxA (3 : Int) (nxA x0 (spec_l25DrawEvent_a1 x1 x3 x4) x4) x4 else spec_l25DrawEvent_a1 x1 x3 x4

def spec_l25DrawEvent_a3 (x1 : Int) (x2 : Int) (x3 : List Int) (x4 : List Int) : Int :=
  nxS (3 : Int) (nxA (↑(List.length x3) : Int) x1 x4) (nxS (↑(List.length x3) : Int) x1 x2 x4) x4

def spec_l25DrawEvent_a4 (x0 : Int) (x1 : Int) (x2 : Int) (x3 : List Int) (x4 : List Int) : Int :=
  bif spec_l25DrawEvent_a0 x1 x2 x3 x4 then
  nxS (3 : Int) (nxA x0 (spec_l25DrawEvent_a1 x1 x3 x4) x4) (nxS x0 (spec_l25DrawEvent_a1 x1 x3 x4) (spec_l25DrawEvent_a3 x1 x2 x3 x4) x4) x4
  else spec_l25DrawEvent_a3 x1 x2 x3 x4

def spec_l25DrawEvent_a5 (x0 : Int) (x1 : Int) (x2 : Int) (x3 : List Int) (x4 : List Int) : Int :=
  nxV (80 : Int) (spec_l25DrawEvent_a2 x0 x1 x2 x3 x4) (spec_l25DrawEvent_a4 x0 x1 x2 x3 x4) x4

def spec_l25DrawEvent_a6 (x0 : Int) (x1 : Int) (x2 : Int) (x3 : List Int) (x4 : List Int) : Bool :=
  spec_l25DrawEvent_a5 x0 x1 x2 x3 x4 == (0 : Int)

def spec_l25DrawEvent_a7 (x0 : Int) (x1 : Int) (x2 : Int) (x3 : List Int) (x4 : List Int) : Int :=
  nxA (80 : Int) (spec_l25DrawEvent_a2 x0 x1 x2 x3 x4) x4

def spec_l25DrawEvent_a8 (x0 : Int) (x1 : Int) (x2 : Int) (x3 : List Int) (x4 : List Int) : Int :=
  nxS (80 : Int) (spec_l25DrawEvent_a2 x0 x1 x2 x3 x4) (spec_l25DrawEvent_a4 x0 x1 x2 x3 x4) x4

def spec_l25DrawEvent_a9 (x0 : Int) (x1 : Int) (x2 : Int) (x3 : List Int) (x4 : List Int) : Bool :=
  spec_l25DrawEvent_a5 x0 x1 x2 x3 x4 == (1 : Int)

def spec_l25DrawEvent_a10 (x1 : Int) (x2 : Int) (x3 : List Int) (x4 : List Int) : Int :=
  bif spec_l25DrawEvent_a0 x1 x2 x3 x4 then (1 : Int) else (0 : Int)

def spec_l25DrawEvent_a11 (x0 : Int) (x1 : Int) (x2 : Int) (x3 : List Int) (x4 : List Int) : Bool :=
  spec_l25DrawEvent_a5 x0 x1 x2 x3 x4 == (2 : Int)

def spec_l25DrawEvent_a12 (x0 : Int) (x1 : Int) (x2 : Int) (x3 : List Int) (x4 : List Int) : Int :=
  bif spec_l25DrawEvent_a0 x1 x2 x3 x4 then nxV x0 (spec_l25DrawEvent_a1 x1 x3 x4) (spec_l25DrawEvent_a3 x1 x2 x3 x4) x4
  else nxV (↑(List.length x3) : Int) x1 x2 x4

def spec_l25DrawEvent_a13 (x0 : Int) (x3 : List Int) : List Int :=
  [(-1 : Int), x0, (↑(List.length x3) : Int)]

def spec_l25DrawEvent_a14 (x0 : Int) (x1 : Int) (x2 : Int) (x3 : List Int) (x4 : List Int) : Int :=
  bif spec_l25DrawEvent_a0 x1 x2 x3 x4 then
  IntKind.wrap IntKind.i64
    ((1 : Int) +
      nxV (3 : Int) (nxA x0 (spec_l25DrawEvent_a1 x1 x3 x4) x4) (nxS x0 (spec_l25DrawEvent_a1 x1 x3 x4) (spec_l25DrawEvent_a3 x1 x2 x3 x4) x4) x4)
  else (0 : Int)

def spec_l25DrawEvent_a15 (x0 : Int) (x1 : Int) (x2 : Int) (x3 : List Int) (x4 : List Int) : Bool :=
  srcOk (spec_l25DrawEvent_a7 x0 x1 x2 x3 x4) (spec_l25DrawEvent_a8 x0 x1 x2 x3 x4) x4

def spec_l25DrawEvent_0 (x0 : Int) (x1 : Int) (x2 : Int) (x3 : List Int) (x4 : List Int) : Int :=
  bif spec_l25DrawEvent_a6 x0 x1 x2 x3 x4 then
  pkV (spec_l25DrawEvent_a7 x0 x1 x2 x3 x4) (spec_l25DrawEvent_a8 x0 x1 x2 x3 x4) [(-1 : Int), (2 : Int), (1 : Int)] x4
  else
  bif spec_l25DrawEvent_a9 x0 x1 x2 x3 x4 then spec_l25DrawEvent_a10 x1 x2 x3 x4
  else bif spec_l25DrawEvent_a11 x0 x1 x2 x3 x4 then spec_l25DrawEvent_a10 x1 x2 x3 x4 else spec_l25DrawEvent_a10 x1 x2 x3 x4

def spec_l25DrawEvent_1 (x0 : Int) (x1 : Int) (x2 : Int) (x3 : List Int) (x4 : List Int) : Int :=
  bif spec_l25DrawEvent_a6 x0 x1 x2 x3 x4 then spec_l25DrawEvent_a12 x0 x1 x2 x3 x4
  else
  bif spec_l25DrawEvent_a9 x0 x1 x2 x3 x4 then
    pkV (spec_l25DrawEvent_a7 x0 x1 x2 x3 x4) (spec_l25DrawEvent_a8 x0 x1 x2 x3 x4) (spec_l25DrawEvent_a13 x0 x3) x4
  else bif spec_l25DrawEvent_a11 x0 x1 x2 x3 x4 then spec_l25DrawEvent_a12 x0 x1 x2 x3 x4 else spec_l25DrawEvent_a12 x0 x1 x2 x3 x4

def spec_l25DrawEvent_2 (x0 : Int) (x1 : Int) (x2 : Int) (x3 : List Int) (x4 : List Int) : Int :=
  bif spec_l25DrawEvent_a6 x0 x1 x2 x3 x4 then spec_l25DrawEvent_a14 x0 x1 x2 x3 x4
  else
  bif spec_l25DrawEvent_a9 x0 x1 x2 x3 x4 then spec_l25DrawEvent_a14 x0 x1 x2 x3 x4
  else
    bif spec_l25DrawEvent_a11 x0 x1 x2 x3 x4 then
      pkV (spec_l25DrawEvent_a7 x0 x1 x2 x3 x4) (spec_l25DrawEvent_a8 x0 x1 x2 x3 x4) [(-1 : Int), (0 : Int), (4 : Int)] x4
    else spec_l25DrawEvent_a14 x0 x1 x2 x3 x4

def spec_l25DrawEvent_3 (x0 : Int) (x1 : Int) (x2 : Int) (x3 : List Int) (x4 : List Int) : Int :=
  bif spec_l25DrawEvent_a6 x0 x1 x2 x3 x4 then pkA (spec_l25DrawEvent_a7 x0 x1 x2 x3 x4) [(-1 : Int), (2 : Int), (1 : Int)] x4
  else
  bif spec_l25DrawEvent_a9 x0 x1 x2 x3 x4 then pkA (spec_l25DrawEvent_a7 x0 x1 x2 x3 x4) (spec_l25DrawEvent_a13 x0 x3) x4
  else
    bif spec_l25DrawEvent_a11 x0 x1 x2 x3 x4 then pkA (spec_l25DrawEvent_a7 x0 x1 x2 x3 x4) [(-1 : Int), (0 : Int), (4 : Int)] x4
    else spec_l25DrawEvent_a7 x0 x1 x2 x3 x4

def spec_l25DrawEvent_4 (x0 : Int) (x1 : Int) (x2 : Int) (x3 : List Int) (x4 : List Int) : Int :=
  bif spec_l25DrawEvent_a6 x0 x1 x2 x3 x4 then
  pkS (spec_l25DrawEvent_a7 x0 x1 x2 x3 x4) (spec_l25DrawEvent_a8 x0 x1 x2 x3 x4) [(-1 : Int), (2 : Int), (1 : Int)] x4
  else
  bif spec_l25DrawEvent_a9 x0 x1 x2 x3 x4 then
    pkS (spec_l25DrawEvent_a7 x0 x1 x2 x3 x4) (spec_l25DrawEvent_a8 x0 x1 x2 x3 x4) (spec_l25DrawEvent_a13 x0 x3) x4
  else
    bif spec_l25DrawEvent_a11 x0 x1 x2 x3 x4 then
      pkS (spec_l25DrawEvent_a7 x0 x1 x2 x3 x4) (spec_l25DrawEvent_a8 x0 x1 x2 x3 x4) [(-1 : Int), (0 : Int), (4 : Int)] x4
    else spec_l25DrawEvent_a8 x0 x1 x2 x3 x4

def spec_l25DrawEvent_5 (x0 : Int) (x1 : Int) (x2 : Int) (x3 : List Int) (x4 : List Int) : Bool :=
  allT
  [srcOk x1 x2 x4, srcOk (nxA (↑(List.length x3) : Int) x1 x4) (nxS (↑(List.length x3) : Int) x1 x2 x4) x4,
    !spec_l25DrawEvent_a0 x1 x2 x3 x4 || srcOk (spec_l25DrawEvent_a1 x1 x3 x4) (spec_l25DrawEvent_a3 x1 x2 x3 x4) x4,
    !spec_l25DrawEvent_a0 x1 x2 x3 x4 ||
      srcOk (nxA x0 (spec_l25DrawEvent_a1 x1 x3 x4) x4) (nxS x0 (spec_l25DrawEvent_a1 x1 x3 x4) (spec_l25DrawEvent_a3 x1 x2 x3 x4) x4) x4,
    srcOk (spec_l25DrawEvent_a2 x0 x1 x2 x3 x4) (spec_l25DrawEvent_a4 x0 x1 x2 x3 x4) x4,
    !spec_l25DrawEvent_a6 x0 x1 x2 x3 x4 || spec_l25DrawEvent_a15 x0 x1 x2 x3 x4 && leN (1 : Nat) (List.length [(-1 : Int), (2 : Int), (1 : Int)]),
    spec_l25DrawEvent_a6 x0 x1 x2 x3 x4 ||
      (!spec_l25DrawEvent_a9 x0 x1 x2 x3 x4 || spec_l25DrawEvent_a15 x0 x1 x2 x3 x4 && leN (1 : Nat) (List.length (spec_l25DrawEvent_a13 x0 x3))),
    spec_l25DrawEvent_a6 x0 x1 x2 x3 x4 ||
      (spec_l25DrawEvent_a9 x0 x1 x2 x3 x4 ||
        (!spec_l25DrawEvent_a11 x0 x1 x2 x3 x4 ||
          spec_l25DrawEvent_a15 x0 x1 x2 x3 x4 && leN (1 : Nat) (List.length [(-1 : Int), (0 : Int), (4 : Int)])))]

def F_spec_l25DrawEvent : List SV → List Entry → Option Out
  | [.one ⟨false, [.ptr 0 0]⟩, .one ⟨true, [.val (.int .i64 x0), .ref 1]⟩], [.box 139 [.ref 2, .val (.int .i64 x1), .val (.int .i64 x2)], .row false 2 (.int .i64) x3, .row false 5 (.int .u8) x4] => some ⟨(.one ⟨true, [(.val (.int IntKind.i64 (spec_l25DrawEvent_0 x0 x1 x2 x3 x4))), (.val (.int IntKind.i64 (spec_l25DrawEvent_1 x0 x1 x2 x3 x4))), (.val (.int IntKind.i64 (spec_l25DrawEvent_2 x0 x1 x2 x3 x4)))]⟩), [(.box 139 [(.ref 2), (.val (.int IntKind.i64 (spec_l25DrawEvent_3 x0 x1 x2 x3 x4))), (.val (.int IntKind.i64 (spec_l25DrawEvent_4 x0 x1 x2 x3 x4)))]), (.row false 2 (CTy.int IntKind.i64) x3), (.row false 5 (CTy.int IntKind.u8) x4)], [], [(spec_l25DrawEvent_5 x0 x1 x2 x3 x4)]⟩
  | _, _ => none

def p_spec_l25DrawEvent : PF Try.prog := PF.ofG Try.prog [n_spec_l01Next, PF.lend n_spec_l01Next, PF.fz n_spec_l01Next, n_spec_l01Pick, PF.lend n_spec_l01Pick, PF.fz n_spec_l01Pick] [] hmix 149 Try.f149 Try.func149 (fun c _ => LOk.nil c) F_spec_l25DrawEvent (by
  intro vs es r h; unfold F_spec_l25DrawEvent at h; split at h
  · cases h; kernel_rfl
  · cases h)

end Go.SX

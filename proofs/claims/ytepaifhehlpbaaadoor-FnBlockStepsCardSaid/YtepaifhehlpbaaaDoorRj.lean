/- What functions of the program come to, row by row (made by a program of the workplace). -/
import Derived.Test.YtepaifhehlpbaaaDoorTXh
import Derived.Test.YtepaifhehlpbaaaDoorProg
import Derived.Test.YtepaifhehlpbaaaDoorNj
import Derived.Test.YtepaifhehlpbaaaDoorNt
namespace Go.SX
open Go.Proofs
set_option maxRecDepth 100000

def spec_l15DrawTerm_a0 (x0 : Int) (x1 : Int) (x2 : List Int) : Int :=
  IntKind.wrap IntKind.i64 ((7 : Int) + nxV (6 : Int) x0 x1 x2)

def spec_l15DrawTerm_a1 (x0 : Int) (x1 : Int) (x2 : List Int) : Int :=
  bif spec_l13Counts_0 (spec_l15DrawTerm_a0 x0 x1 x2) then nxA (5 : Int) (nxA (6 : Int) x0 x2) x2 else nxA (6 : Int) x0 x2

def spec_l15DrawTerm_a2 (x0 : Int) (x1 : Int) (x2 : List Int) : Int :=
  bif spec_l13Counts_0 (spec_l15DrawTerm_a0 x0 x1 x2) then nxS (5 : Int) (nxA (6 : Int) x0 x2) (nxS (6 : Int) x0 x1 x2) x2 else nxS (6 : Int) x0 x1 x2

def spec_l15DrawTerm_a3 (x0 : Int) (x1 : Int) (x2 : List Int) : Int :=
  nxV (30 : Int) (spec_l15DrawTerm_a1 x0 x1 x2) (spec_l15DrawTerm_a2 x0 x1 x2) x2

def spec_l15DrawTerm_a4 (x0 : Int) (x1 : Int) (x2 : List Int) : Bool :=
  spec_l15DrawTerm_a3 x0 x1 x2 == (0 : Int)

def spec_l15DrawTerm_a5 (x0 : Int) (x1 : Int) (x2 : List Int) : Int :=
  nxS (30 : Int) (spec_l15DrawTerm_a1 x0 x1 x2) (spec_l15DrawTerm_a2 x0 x1 x2) x2

def spec_l15DrawTerm_a6 (x0 : Int) (x1 : Int) (x2 : List Int) : Bool :=
  spec_l15DrawTerm_a3 x0 x1 x2 == (1 : Int)

def spec_l15DrawTerm_a7 (x0 : Int) (x1 : Int) (x2 : List Int) : Int :=
  bif spec_l13Counts_0 (spec_l15DrawTerm_a0 x0 x1 x2) then spec_l15DrawTerm_a0 x0 x1 x2 else spec_l15DrawTerm_a0 x0 x1 x2

def spec_l15DrawTerm_a8 (x0 : Int) (x1 : Int) (x2 : List Int) : Bool :=
  spec_l15DrawTerm_a3 x0 x1 x2 == (2 : Int)

def spec_l15DrawTerm_a9 (x0 : Int) (x1 : Int) (x2 : List Int) : ByteArray :=
  bif spec_l13Counts_0 (spec_l15DrawTerm_a0 x0 x1 x2) then { data := #[] } else { data := #[] }

def spec_l15DrawTerm_a10 (x0 : Int) (x1 : Int) (x2 : List Int) : Int :=
  bif spec_l13Counts_0 (spec_l15DrawTerm_a0 x0 x1 x2) then nxV (5 : Int) (nxA (6 : Int) x0 x2) (nxS (6 : Int) x0 x1 x2) x2 else (0 : Int)

def spec_l15DrawTerm_a11 (x0 : Int) (x1 : Int) (x2 : List Int) : Bool :=
  srcOk (nxA (30 : Int) (spec_l15DrawTerm_a1 x0 x1 x2) x2) (spec_l15DrawTerm_a5 x0 x1 x2) x2

def spec_l15DrawTerm_0 (x0 : Int) (x1 : Int) (x2 : List Int) : Int :=
  bif spec_l15DrawTerm_a4 x0 x1 x2 then
  pkV (nxA (30 : Int) (spec_l15DrawTerm_a1 x0 x1 x2) x2) (spec_l15DrawTerm_a5 x0 x1 x2) [(0 : Int), (6 : Int), (13 : Int)] x2
  else
  bif spec_l15DrawTerm_a6 x0 x1 x2 then spec_l15DrawTerm_a7 x0 x1 x2
  else bif spec_l15DrawTerm_a8 x0 x1 x2 then spec_l15DrawTerm_a7 x0 x1 x2 else spec_l15DrawTerm_a7 x0 x1 x2

def spec_l15DrawTerm_1 (x0 : Int) (x1 : Int) (x2 : List Int) : ByteArray :=
  bif spec_l15DrawTerm_a4 x0 x1 x2 then spec_l15DrawTerm_a9 x0 x1 x2
  else
  bif spec_l15DrawTerm_a6 x0 x1 x2 then spec_l15DrawTerm_a9 x0 x1 x2
  else bif spec_l15DrawTerm_a8 x0 x1 x2 then { data := #[(97 : UInt8)] } else spec_l15DrawTerm_a9 x0 x1 x2

def spec_l15DrawTerm_2 (x0 : Int) (x1 : Int) (x2 : List Int) : Int :=
  bif spec_l15DrawTerm_a4 x0 x1 x2 then spec_l15DrawTerm_a10 x0 x1 x2
  else
  bif spec_l15DrawTerm_a6 x0 x1 x2 then
    pkV (nxA (30 : Int) (spec_l15DrawTerm_a1 x0 x1 x2) x2) (spec_l15DrawTerm_a5 x0 x1 x2) [(-1 : Int), (1 : Int), (9999 : Int), (10000 : Int)] x2
  else bif spec_l15DrawTerm_a8 x0 x1 x2 then spec_l15DrawTerm_a10 x0 x1 x2 else spec_l15DrawTerm_a10 x0 x1 x2

def spec_l15DrawTerm_3 (x0 : Int) (x1 : Int) (x2 : List Int) : Int :=
  bif spec_l15DrawTerm_a4 x0 x1 x2 then pkA (nxA (30 : Int) (spec_l15DrawTerm_a1 x0 x1 x2) x2) [(0 : Int), (6 : Int), (13 : Int)] x2
  else
  bif spec_l15DrawTerm_a6 x0 x1 x2 then pkA (nxA (30 : Int) (spec_l15DrawTerm_a1 x0 x1 x2) x2) [(-1 : Int), (1 : Int), (9999 : Int), (10000 : Int)] x2
  else nxA (30 : Int) (spec_l15DrawTerm_a1 x0 x1 x2) x2

def spec_l15DrawTerm_4 (x0 : Int) (x1 : Int) (x2 : List Int) : Int :=
  bif spec_l15DrawTerm_a4 x0 x1 x2 then
  pkS (nxA (30 : Int) (spec_l15DrawTerm_a1 x0 x1 x2) x2) (spec_l15DrawTerm_a5 x0 x1 x2) [(0 : Int), (6 : Int), (13 : Int)] x2
  else
  bif spec_l15DrawTerm_a6 x0 x1 x2 then
    pkS (nxA (30 : Int) (spec_l15DrawTerm_a1 x0 x1 x2) x2) (spec_l15DrawTerm_a5 x0 x1 x2) [(-1 : Int), (1 : Int), (9999 : Int), (10000 : Int)] x2
  else spec_l15DrawTerm_a5 x0 x1 x2

def spec_l15DrawTerm_5 (x0 : Int) (x1 : Int) (x2 : List Int) : Bool :=
  allT
  [srcOk x0 x1 x2, !spec_l13Counts_0 (spec_l15DrawTerm_a0 x0 x1 x2) || srcOk (nxA (6 : Int) x0 x2) (nxS (6 : Int) x0 x1 x2) x2,
    srcOk (spec_l15DrawTerm_a1 x0 x1 x2) (spec_l15DrawTerm_a2 x0 x1 x2) x2,
    !spec_l15DrawTerm_a4 x0 x1 x2 || spec_l15DrawTerm_a11 x0 x1 x2 && leN (1 : Nat) (List.length [(0 : Int), (6 : Int), (13 : Int)]),
    spec_l15DrawTerm_a4 x0 x1 x2 ||
      (!spec_l15DrawTerm_a6 x0 x1 x2 ||
        spec_l15DrawTerm_a11 x0 x1 x2 && leN (1 : Nat) (List.length [(-1 : Int), (1 : Int), (9999 : Int), (10000 : Int)]))]

def F_spec_l15DrawTerm : List SV → List Entry → Option Out
  | [.one ⟨false, [.ptr 0 0]⟩], [.box 134 [.ref 1, .val (.int .i64 x0), .val (.int .i64 x1)], .row false 5 (.int .u8) x2] => some ⟨(.one ⟨true, [(.val (.int IntKind.i64 (spec_l15DrawTerm_0 x0 x1 x2))), (.val (.string (spec_l15DrawTerm_1 x0 x1 x2))), (.val (.int IntKind.i64 (spec_l15DrawTerm_2 x0 x1 x2)))]⟩), [(.box 134 [(.ref 1), (.val (.int IntKind.i64 (spec_l15DrawTerm_3 x0 x1 x2))), (.val (.int IntKind.i64 (spec_l15DrawTerm_4 x0 x1 x2)))]), (.row false 5 (CTy.int IntKind.u8) x2)], [], [(spec_l15DrawTerm_5 x0 x1 x2)]⟩
  | _, _ => none

def p_spec_l15DrawTerm : PF Tryd.prog := PF.ofG Tryd.prog [p_spec_l13Counts, n_spec_l01Next, PF.lend n_spec_l01Next, PF.fz n_spec_l01Next, n_spec_l01Pick, PF.lend n_spec_l01Pick, PF.fz n_spec_l01Pick] [] hmix 60 Tryd.f60 Tryd.func60 (fun c _ => LOk.nil c) F_spec_l15DrawTerm (by
  intro vs es r h; unfold F_spec_l15DrawTerm at h; split at h
  · cases h; kernel_rfl
  · cases h)

def spec_l15DrawArgs_a0 (x3 : Int) (x4 : Int) (x5 : List Int) : List Int :=
  [nxV (2 : Int) x3 x4 x5]

def spec_l15DrawArgs_a1 (x3 : Int) (x4 : Int) (x5 : List Int) : List Int :=
  [nxV (2 : Int) (nxA (2 : Int) x3 x5) (nxS (2 : Int) x3 x4 x5) x5]

def spec_l15DrawArgs_a2 (x0 : Int) : Bool :=
  !spec_l13Takes_0 x0 == (2 : Int)

def spec_l15DrawArgs_0 (x0 : Int) (x3 : Int) (x5 : List Int) : Int :=
  bif spec_l13Takes_0 x0 == (2 : Int) then nxA (2 : Int) (nxA (2 : Int) x3 x5) x5 else nxA (2 : Int) x3 x5

def spec_l15DrawArgs_1 (x0 : Int) (x3 : Int) (x4 : Int) (x5 : List Int) : Int :=
  bif spec_l13Takes_0 x0 == (2 : Int) then nxS (2 : Int) (nxA (2 : Int) x3 x5) (nxS (2 : Int) x3 x4 x5) x5 else nxS (2 : Int) x3 x4 x5

def spec_l15DrawArgs_2 (x0 : Int) (x3 : Int) (x4 : Int) (x5 : List Int) : List Int :=
  bif spec_l13Takes_0 x0 == (2 : Int) then spec_l15DrawArgs_a0 x3 x4 x5 ++ spec_l15DrawArgs_a1 x3 x4 x5 else spec_l15DrawArgs_a0 x3 x4 x5

def spec_l15DrawArgs_3 (x0 : Int) (x3 : Int) (x4 : Int) (x5 : List Int) : Bool :=
  allT
  [srcOk x3 x4 x5, spec_l15DrawArgs_a2 x0 || srcOk (nxA (2 : Int) x3 x5) (nxS (2 : Int) x3 x4 x5) x5,
    spec_l15DrawArgs_a2 x0 ||
      leN (List.length (spec_l15DrawArgs_a0 x3 x4 x5) + List.length (spec_l15DrawArgs_a1 x3 x4 x5)) (9223372036854775807 : Nat),
    spec_l15DrawArgs_a2 x0 ||
      leN ((List.length (spec_l15DrawArgs_a0 x3 x4 x5) + List.length (spec_l15DrawArgs_a1 x3 x4 x5)) * (8 : Nat)) (140737488355328 : Nat)]

def F_spec_l15DrawArgs : List SV → List Entry → Option Out
  | [.one ⟨false, [.ptr 0 0]⟩, .one ⟨true, [.val (.int .i64 x0), .val (.string _x1), .val (.int .i64 _x2)]⟩], [.box 134 [.ref 1, .val (.int .i64 x3), .val (.int .i64 x4)], .row false 5 (.int .u8) x5] => some ⟨(.one ⟨false, [(.ref 2)]⟩), [(.box 134 [(.ref 1), (.val (.int IntKind.i64 (spec_l15DrawArgs_0 x0 x3 x5))), (.val (.int IntKind.i64 (spec_l15DrawArgs_1 x0 x3 x4 x5)))]), (.row false 5 (CTy.int IntKind.u8) x5)], [(.row true 2 (CTy.int IntKind.i64) (spec_l15DrawArgs_2 x0 x3 x4 x5))], [(spec_l15DrawArgs_3 x0 x3 x4 x5)]⟩
  | _, _ => none

def p_spec_l15DrawArgs : PF Tryd.prog := PF.ofG Tryd.prog [n_spec_l01Next, PF.lend n_spec_l01Next, PF.fz n_spec_l01Next, p_spec_l13Takes] [] hmix 62 Tryd.f62 Tryd.func62 (fun c _ => LOk.nil c) F_spec_l15DrawArgs (by
  intro vs es r h; unfold F_spec_l15DrawArgs at h; split at h
  · cases h; kernel_rfl
  · cases h)

abbrev X_spec_DrawRunBlock_l0 := Int × List (List Int) × Int × Int × Int × ByteArray × Int × List Int

def spec_DrawRunBlock_l0_0 (y0 : Int) : Bool :=
  ltI (0 : Int) y0

def spec_DrawRunBlock_l0_1 (y2 : Int) (y3 : Int) (y4 : Int) (y7 : List Int) : Bool :=
  spec_l15DrawArgs_3 y4 y2 y3 y7

def spec_DrawRunBlock_l0_2 (y1 : List (List Int)) (y2 : Int) (y3 : Int) (y4 : Int) (y7 : List Int) : Bool :=
  leN (List.length y1 + List.length [spec_l15DrawArgs_2 y4 y2 y3 y7]) (9223372036854775807 : Nat)

def spec_DrawRunBlock_l0_3 (y1 : List (List Int)) (y2 : Int) (y3 : Int) (y4 : Int) (y7 : List Int) : Bool :=
  leN ((List.length y1 + List.length [spec_l15DrawArgs_2 y4 y2 y3 y7]) * (24 : Nat)) (140737488355328 : Nat)

def spec_DrawRunBlock_l0_4 (y0 : Int) : Int :=
  IntKind.wrap IntKind.i64 (y0 - (1 : Int))

def spec_DrawRunBlock_l0_5 (y1 : List (List Int)) (y2 : Int) (y3 : Int) (y4 : Int) (y7 : List Int) : List (List Int) :=
  y1 ++ [spec_l15DrawArgs_2 y4 y2 y3 y7]

def spec_DrawRunBlock_l0_6 (y2 : Int) (y4 : Int) (y7 : List Int) : Int :=
  spec_l15DrawArgs_0 y4 y2 y7

def spec_DrawRunBlock_l0_7 (y2 : Int) (y3 : Int) (y4 : Int) (y7 : List Int) : Int :=
  spec_l15DrawArgs_1 y4 y2 y3 y7

def JL_spec_DrawRunBlock_l0 : X_spec_DrawRunBlock_l0 → List (Nat × SV)
  | (y0, _, _, _, _, _, _, _) => [(7, (.one ⟨false, [(.val (.int IntKind.i64 y0))]⟩)), (6, (.one ⟨false, [(.ref 0)]⟩)), (4, (.one ⟨false, [(.ptr 1 0)]⟩)), (5, (.one ⟨false, [(.ptr 2 0)]⟩))]

def JE_spec_DrawRunBlock_l0 : X_spec_DrawRunBlock_l0 → List (Nat × Entry)
  | (_, y1, y2, y3, y4, y5, y6, y7) => [(1, (.box 134 [(.ref 3), (.val (.int IntKind.i64 y2)), (.val (.int IntKind.i64 y3))])), (2, (.box 31 [(.val (.int IntKind.i64 y4)), (.val (.string y5)), (.val (.int IntKind.i64 y6))])), (3, (.row false 5 (CTy.int IntKind.u8) y7)), (0, (.row true 26 (CTy.sl (2 : Nat) (CTy.int IntKind.i64)) y1))]

def XL_spec_DrawRunBlock_l0 : Nat → X_spec_DrawRunBlock_l0 → List (Nat × SV)
  | _, (_, _, _, _, _, _, _, _) => [(6, (.one ⟨false, [(.ref 0)]⟩))]

def XE_spec_DrawRunBlock_l0 : Nat → X_spec_DrawRunBlock_l0 → List (Nat × Entry)
  | _, (_, y1, y2, y3, y4, y5, y6, y7) => [(0, (.row true 26 (CTy.sl (2 : Nat) (CTy.int IntKind.i64)) y1)), (1, (.box 134 [(.ref 3), (.val (.int IntKind.i64 y2)), (.val (.int IntKind.i64 y3))])), (2, (.box 31 [(.val (.int IntKind.i64 y4)), (.val (.string y5)), (.val (.int IntKind.i64 y6))])), (3, (.row false 5 (CTy.int IntKind.u8) y7))]

def lt_spec_DrawRunBlock_l0 : X_spec_DrawRunBlock_l0 → LT X_spec_DrawRunBlock_l0
  | (y0, y1, y2, y3, y4, y5, y6, y7) => .ite (spec_DrawRunBlock_l0_0 y0) (.need [(spec_DrawRunBlock_l0_1 y2 y3 y4 y7), (spec_DrawRunBlock_l0_2 y1 y2 y3 y4 y7), (spec_DrawRunBlock_l0_3 y1 y2 y3 y4 y7)] (.nrm ((spec_DrawRunBlock_l0_4 y0), (spec_DrawRunBlock_l0_5 y1 y2 y3 y4 y7), (spec_DrawRunBlock_l0_6 y2 y4 y7), (spec_DrawRunBlock_l0_7 y2 y3 y4 y7), y4, y5, y6, y7) [(0, 512), (1, 1), (2, 2), (3, 3)])) (.ext 0 [(0, 0), (1, 1), (2, 2), (3, 3)])

def rd_spec_DrawRunBlock_l0 (s : St) : Option X_spec_DrawRunBlock_l0 :=
  (match s.look 7 with
  | some ⟨none, (.one ⟨false, [(.val (.int IntKind.i64 y0))]⟩)⟩ =>
  (match s.look 6 with
  | some ⟨none, (.one ⟨false, [(.ref 896)]⟩)⟩ =>
  (match s.look 4 with
  | some ⟨none, (.one ⟨false, [(.ptr 320 0)]⟩)⟩ =>
  (match s.look 5 with
  | some ⟨none, (.one ⟨false, [(.ptr 576 0)]⟩)⟩ =>
  (match s.ent 320 with
  | some (.box 134 [(.ref 0), (.val (.int IntKind.i64 y2)), (.val (.int IntKind.i64 y3))]) =>
  (match s.ent 576 with
  | some (.box 31 [(.val (.int IntKind.i64 y4)), (.val (.string y5)), (.val (.int IntKind.i64 y6))]) =>
  (match s.ent 0 with
  | some (.row false 5 (CTy.int IntKind.u8) y7) =>
  (match s.ent 896 with
  | some (.row true 26 (CTy.sl (2 : Nat) (CTy.int IntKind.i64)) y1) =>
  some (y0, y1, y2, y3, y4, y5, y6, y7)
  | _ => none)
  | _ => none)
  | _ => none)
  | _ => none)
  | _ => none)
  | _ => none)
  | _ => none)
  | _ => none)

def lp_spec_DrawRunBlock_l0 : Lp X_spec_DrawRunBlock_l0 where
  h := ⟨[23, 24, 27, 28, 29, 30, 31, 32, 6, 25, 26, 7], [1, 2, 3], [0], []⟩
  JL := JL_spec_DrawRunBlock_l0
  JE := JE_spec_DrawRunBlock_l0
  XL := XL_spec_DrawRunBlock_l0
  XE := XE_spec_DrawRunBlock_l0
  q := fun j => match j with | _ => .exit 0
  tags := [0]
  lt := lt_spec_DrawRunBlock_l0
  fuel := fun (y0, y1, y2, y3, y4, y5, y6, y7) => y0.natAbs + y1.length + y2.natAbs + y3.natAbs + y4.natAbs + y5.size + y6.natAbs + y7.length
  fix := fun (_, _, _, _, y4, y5, y6, y7) (y0, y1, y2, y3, _, _, _, _) => (y0, y1, y2, y3, y4, y5, y6, y7)
  σ := [(1, 320), (2, 576), (3, 0), (0, 896)]
  rd := rd_spec_DrawRunBlock_l0

theorem lpok_spec_DrawRunBlock_l0 : LoopOk Tryd.prog (fun k => Nat.blt k Tryd.f21.ntmps) lp_spec_DrawRunBlock_l0.F (loopAt Tryd.f21 0) := by
  refine Lp.ok (tbl := [n_spec_l01From, PF.lend n_spec_l01From, PF.fz n_spec_l01From, p_spec_l15DrawTerm, PF.lend p_spec_l15DrawTerm, PF.fz p_spec_l15DrawTerm, n_spec_l01Next, PF.lend n_spec_l01Next, PF.fz n_spec_l01Next, p_spec_l15DrawArgs, PF.lend p_spec_l15DrawArgs, PF.fz p_spec_l15DrawArgs, n_spec_l01Own, PF.lend n_spec_l01Own, PF.fz n_spec_l01Own]) (lf := []) hmix lp_spec_DrawRunBlock_l0 (by kernel_rfl) (LOk.nil _) (fun _ => rfl) (fun _ _ => rfl) ?_ ?_ ?_ ?_ (fun _ => rfl) ?_
  · intro x; obtain ⟨y0, y1, y2, y3, y4, y5, y6, y7⟩ := x; kernel_rfl
  · intro x; obtain ⟨y0, y1, y2, y3, y4, y5, y6, y7⟩ := x; kernel_rfl
  · intro s x h
    have h : rd_spec_DrawRunBlock_l0 s = some x := h
    unfold rd_spec_DrawRunBlock_l0 at h
    repeat' split at h
    all_goals cases h
    exact ⟨absS_cons (by assumption) rfl (absS_cons (by assumption) rfl (absS_cons (by assumption) rfl (absS_cons (by assumption) rfl (rfl)))), absE_cons rfl (by assumption) rfl (absE_cons rfl (by assumption) rfl (absE_cons rfl (by assumption) rfl (absE_cons rfl (by assumption) rfl (rfl))))⟩
  · intro x; obtain ⟨y0, y1, y2, y3, y4, y5, y6, y7⟩ := x; kernel_rfl
  · intro x z; obtain ⟨y0, y1, y2, y3, y4, y5, y6, y7⟩ := x; exact (And.intro rfl trivial)

abbrev X_spec_DrawRunBlock_l1_l0 := Int × List (List Int) × List Int

def spec_DrawRunBlock_l1_l0_0 (y0 : Int) : Bool :=
  leI (0 : Int) y0

def spec_DrawRunBlock_l1_l0_1 (y2 : List Int) : Bool :=
  leN (List.length y2) (1048576 : Nat)

def spec_DrawRunBlock_l1_l0_2 (y1 : List (List Int)) (y2 : List Int) : Bool :=
  leN (List.length y1 + List.length [y2]) (9223372036854775807 : Nat)

def spec_DrawRunBlock_l1_l0_3 (y1 : List (List Int)) (y2 : List Int) : Bool :=
  leN ((List.length y1 + List.length [y2]) * (24 : Nat)) (140737488355328 : Nat)

def spec_DrawRunBlock_l1_l0_4 (y0 : Int) : Int :=
  IntKind.wrap IntKind.i64 (y0 - (1 : Int))

def spec_DrawRunBlock_l1_l0_5 (y1 : List (List Int)) (y2 : List Int) : List (List Int) :=
  y1 ++ [y2]

def JL_spec_DrawRunBlock_l1_l0 : X_spec_DrawRunBlock_l1_l0 → List (Nat × SV)
  | (y0, _, _) => [(11, (.one ⟨false, [(.val (.int IntKind.i64 y0))]⟩)), (8, (.one ⟨false, [(.ref 0)]⟩)), (10, (.one ⟨false, [(.ref 1)]⟩))]

def JE_spec_DrawRunBlock_l1_l0 : X_spec_DrawRunBlock_l1_l0 → List (Nat × Entry)
  | (_, y1, y2) => [(1, (.row true 2 (CTy.int IntKind.i64) y2)), (0, (.row true 26 (CTy.sl (2 : Nat) (CTy.int IntKind.i64)) y1))]

def XL_spec_DrawRunBlock_l1_l0 : Nat → X_spec_DrawRunBlock_l1_l0 → List (Nat × SV)
  | _, (_, _, _) => [(8, (.one ⟨false, [(.ref 0)]⟩))]

def XE_spec_DrawRunBlock_l1_l0 : Nat → X_spec_DrawRunBlock_l1_l0 → List (Nat × Entry)
  | _, (_, y1, y2) => [(0, (.row true 26 (CTy.sl (2 : Nat) (CTy.int IntKind.i64)) y1)), (1, (.row true 2 (CTy.int IntKind.i64) y2))]

def lt_spec_DrawRunBlock_l1_l0 : X_spec_DrawRunBlock_l1_l0 → LT X_spec_DrawRunBlock_l1_l0
  | (y0, y1, y2) => .ite (spec_DrawRunBlock_l1_l0_0 y0) (.need [(spec_DrawRunBlock_l1_l0_1 y2), (spec_DrawRunBlock_l1_l0_2 y1 y2), (spec_DrawRunBlock_l1_l0_3 y1 y2)] (.nrm ((spec_DrawRunBlock_l1_l0_4 y0), (spec_DrawRunBlock_l1_l0_5 y1 y2), y2) [(0, 448), (1, 1)])) (.ext 0 [(0, 0), (1, 1)])

def rd_spec_DrawRunBlock_l1_l0 (s : St) : Option X_spec_DrawRunBlock_l1_l0 :=
  (match s.look 11 with
  | some ⟨none, (.one ⟨false, [(.val (.int IntKind.i64 y0))]⟩)⟩ =>
  (match s.look 8 with
  | some ⟨none, (.one ⟨false, [(.ref 2)]⟩)⟩ =>
  (match s.look 10 with
  | some ⟨none, (.one ⟨false, [(.ref 320)]⟩)⟩ =>
  (match s.ent 320 with
  | some (.row true 2 (CTy.int IntKind.i64) y2) =>
  (match s.ent 2 with
  | some (.row true 26 (CTy.sl (2 : Nat) (CTy.int IntKind.i64)) y1) =>
  some (y0, y1, y2)
  | _ => none)
  | _ => none)
  | _ => none)
  | _ => none)
  | _ => none)

def lp_spec_DrawRunBlock_l1_l0 : Lp X_spec_DrawRunBlock_l1_l0 where
  h := ⟨[47, 48, 51, 52, 53, 54, 55, 8, 49, 50, 11], [1], [0], []⟩
  JL := JL_spec_DrawRunBlock_l1_l0
  JE := JE_spec_DrawRunBlock_l1_l0
  XL := XL_spec_DrawRunBlock_l1_l0
  XE := XE_spec_DrawRunBlock_l1_l0
  q := fun j => match j with | _ => .exit 4
  tags := [0]
  lt := lt_spec_DrawRunBlock_l1_l0
  fuel := fun (y0, y1, y2) => y0.natAbs + y1.length + y2.length
  fix := fun (_, _, y2) (y0, y1, _) => (y0, y1, y2)
  σ := [(1, 320), (0, 2)]
  rd := rd_spec_DrawRunBlock_l1_l0

theorem lpok_spec_DrawRunBlock_l1_l0 : LoopOk Tryd.prog (memN [38, 39, 42, 43, 44, 10, 45, 46, 11, 47, 48, 51, 52, 53, 54, 55, 8, 49, 50, 40, 41, 9]) lp_spec_DrawRunBlock_l1_l0.F (loopIn (loopAt Tryd.f21 1) 0) := by
  refine Lp.ok (tbl := [n_spec_l01From, PF.lend n_spec_l01From, PF.fz n_spec_l01From, p_spec_l15DrawTerm, PF.lend p_spec_l15DrawTerm, PF.fz p_spec_l15DrawTerm, n_spec_l01Next, PF.lend n_spec_l01Next, PF.fz n_spec_l01Next, p_spec_l15DrawArgs, PF.lend p_spec_l15DrawArgs, PF.fz p_spec_l15DrawArgs, n_spec_l01Own, PF.lend n_spec_l01Own, PF.fz n_spec_l01Own]) (lf := []) hmix lp_spec_DrawRunBlock_l1_l0 (by kernel_rfl) (LOk.nil _) (fun _ => rfl) (fun _ _ => rfl) ?_ ?_ ?_ ?_ (fun _ => rfl) ?_
  · intro x; obtain ⟨y0, y1, y2⟩ := x; kernel_rfl
  · intro x; obtain ⟨y0, y1, y2⟩ := x; kernel_rfl
  · intro s x h
    have h : rd_spec_DrawRunBlock_l1_l0 s = some x := h
    unfold rd_spec_DrawRunBlock_l1_l0 at h
    repeat' split at h
    all_goals cases h
    exact ⟨absS_cons (by assumption) rfl (absS_cons (by assumption) rfl (absS_cons (by assumption) rfl (rfl))), absE_cons rfl (by assumption) rfl (absE_cons rfl (by assumption) rfl (rfl))⟩
  · intro x; obtain ⟨y0, y1, y2⟩ := x; kernel_rfl
  · intro x z; obtain ⟨y0, y1, y2⟩ := x; exact (And.intro rfl trivial)

abbrev X_spec_DrawRunBlock_l1 := Int × Int × Int × Int × ByteArray × Int × List (List Int) × List Int

def spec_DrawRunBlock_l1_a0 (y1 : Int) (y2 : Int) (y3 : Int) (y6 : List (List Int)) (y7 : List Int) : Int × List (List Int) × List Int :=
  (nxV (4 : Int) (spec_l15DrawArgs_0 y3 y1 y7) (spec_l15DrawArgs_1 y3 y1 y2 y7) y7, y6, spec_l15DrawArgs_2 y3 y1 y2 y7)

def spec_DrawRunBlock_l1_0 (y0 : Int) : Bool :=
  ltI (0 : Int) y0

def spec_DrawRunBlock_l1_1 (y1 : Int) (y2 : Int) (y3 : Int) (y7 : List Int) : Bool :=
  spec_l15DrawArgs_3 y3 y1 y2 y7

def spec_DrawRunBlock_l1_2 (y1 : Int) (y2 : Int) (y3 : Int) (y7 : List Int) : Bool :=
  srcOk (spec_l15DrawArgs_0 y3 y1 y7) (spec_l15DrawArgs_1 y3 y1 y2 y7) y7

def spec_DrawRunBlock_l1_3 (y1 : Int) (y2 : Int) (y3 : Int) (y6 : List (List Int)) (y7 : List Int) : Bool :=
  Lp.fin lp_spec_DrawRunBlock_l1_l0 (spec_DrawRunBlock_l1_a0 y1 y2 y3 y6 y7)

def spec_DrawRunBlock_l1_4 (y0 : Int) : Int :=
  IntKind.wrap IntKind.i64 (y0 - (1 : Int))

def spec_DrawRunBlock_l1_5 (y1 : Int) (y3 : Int) (y7 : List Int) : Int :=
  nxA (4 : Int) (spec_l15DrawArgs_0 y3 y1 y7) y7

def spec_DrawRunBlock_l1_6 (y1 : Int) (y2 : Int) (y3 : Int) (y7 : List Int) : Int :=
  nxS (4 : Int) (spec_l15DrawArgs_0 y3 y1 y7) (spec_l15DrawArgs_1 y3 y1 y2 y7) y7

def spec_DrawRunBlock_l1_7 (y1 : Int) (y2 : Int) (y3 : Int) (y6 : List (List Int)) (y7 : List Int) : List (List Int) :=
  Prod.fst (Prod.snd (Prod.snd (Lp.res lp_spec_DrawRunBlock_l1_l0 (spec_DrawRunBlock_l1_a0 y1 y2 y3 y6 y7))))

def JL_spec_DrawRunBlock_l1 : X_spec_DrawRunBlock_l1 → List (Nat × SV)
  | (y0, _, _, _, _, _, _, _) => [(9, (.one ⟨false, [(.val (.int IntKind.i64 y0))]⟩)), (4, (.one ⟨false, [(.ptr 0 0)]⟩)), (5, (.one ⟨false, [(.ptr 1 0)]⟩)), (8, (.one ⟨false, [(.ref 2)]⟩))]

def JE_spec_DrawRunBlock_l1 : X_spec_DrawRunBlock_l1 → List (Nat × Entry)
  | (_, y1, y2, y3, y4, y5, y6, y7) => [(0, (.box 134 [(.ref 3), (.val (.int IntKind.i64 y1)), (.val (.int IntKind.i64 y2))])), (1, (.box 31 [(.val (.int IntKind.i64 y3)), (.val (.string y4)), (.val (.int IntKind.i64 y5))])), (3, (.row false 5 (CTy.int IntKind.u8) y7)), (2, (.row true 26 (CTy.sl (2 : Nat) (CTy.int IntKind.i64)) y6))]

def XL_spec_DrawRunBlock_l1 : Nat → X_spec_DrawRunBlock_l1 → List (Nat × SV)
  | _, (_, _, _, _, _, _, _, _) => [(8, (.one ⟨false, [(.ref 2)]⟩))]

def XE_spec_DrawRunBlock_l1 : Nat → X_spec_DrawRunBlock_l1 → List (Nat × Entry)
  | _, (_, y1, y2, y3, y4, y5, y6, y7) => [(0, (.box 134 [(.ref 3), (.val (.int IntKind.i64 y1)), (.val (.int IntKind.i64 y2))])), (1, (.box 31 [(.val (.int IntKind.i64 y3)), (.val (.string y4)), (.val (.int IntKind.i64 y5))])), (2, (.row true 26 (CTy.sl (2 : Nat) (CTy.int IntKind.i64)) y6)), (3, (.row false 5 (CTy.int IntKind.u8) y7))]

def lt_spec_DrawRunBlock_l1 : X_spec_DrawRunBlock_l1 → LT X_spec_DrawRunBlock_l1
  | (y0, y1, y2, y3, y4, y5, y6, y7) => .ite (spec_DrawRunBlock_l1_0 y0) (.need [(spec_DrawRunBlock_l1_1 y1 y2 y3 y7)] (.need [(spec_DrawRunBlock_l1_2 y1 y2 y3 y7)] (.need [(spec_DrawRunBlock_l1_3 y1 y2 y3 y6 y7)] (.nrm ((spec_DrawRunBlock_l1_4 y0), (spec_DrawRunBlock_l1_5 y1 y3 y7), (spec_DrawRunBlock_l1_6 y1 y2 y3 y7), y3, y4, y5, (spec_DrawRunBlock_l1_7 y1 y2 y3 y6 y7), y7) [(0, 0), (1, 1), (2, 640), (3, 3)])))) (.ext 0 [(0, 0), (1, 1), (2, 2), (3, 3)])

def rd_spec_DrawRunBlock_l1 (s : St) : Option X_spec_DrawRunBlock_l1 :=
  (match s.look 9 with
  | some ⟨none, (.one ⟨false, [(.val (.int IntKind.i64 y0))]⟩)⟩ =>
  (match s.look 4 with
  | some ⟨none, (.one ⟨false, [(.ptr 320 0)]⟩)⟩ =>
  (match s.look 5 with
  | some ⟨none, (.one ⟨false, [(.ptr 576 0)]⟩)⟩ =>
  (match s.look 8 with
  | some ⟨none, (.one ⟨false, [(.ref 896)]⟩)⟩ =>
  (match s.ent 320 with
  | some (.box 134 [(.ref 0), (.val (.int IntKind.i64 y1)), (.val (.int IntKind.i64 y2))]) =>
  (match s.ent 576 with
  | some (.box 31 [(.val (.int IntKind.i64 y3)), (.val (.string y4)), (.val (.int IntKind.i64 y5))]) =>
  (match s.ent 0 with
  | some (.row false 5 (CTy.int IntKind.u8) y7) =>
  (match s.ent 896 with
  | some (.row true 26 (CTy.sl (2 : Nat) (CTy.int IntKind.i64)) y6) =>
  some (y0, y1, y2, y3, y4, y5, y6, y7)
  | _ => none)
  | _ => none)
  | _ => none)
  | _ => none)
  | _ => none)
  | _ => none)
  | _ => none)
  | _ => none)

def lp_spec_DrawRunBlock_l1 : Lp X_spec_DrawRunBlock_l1 where
  h := ⟨[38, 39, 42, 43, 44, 10, 45, 46, 11, 47, 48, 51, 52, 53, 54, 55, 8, 49, 50, 40, 41, 9], [0, 1, 3], [2], []⟩
  JL := JL_spec_DrawRunBlock_l1
  JE := JE_spec_DrawRunBlock_l1
  XL := XL_spec_DrawRunBlock_l1
  XE := XE_spec_DrawRunBlock_l1
  q := fun j => match j with | _ => .exit 2
  tags := [0]
  lt := lt_spec_DrawRunBlock_l1
  fuel := fun (y0, y1, y2, y3, y4, y5, y6, y7) => y0.natAbs + y1.natAbs + y2.natAbs + y3.natAbs + y4.size + y5.natAbs + y6.length + y7.length
  fix := fun (_, _, _, y3, y4, y5, _, y7) (y0, y1, y2, _, _, _, y6, _) => (y0, y1, y2, y3, y4, y5, y6, y7)
  σ := [(0, 320), (1, 576), (3, 0), (2, 896)]
  rd := rd_spec_DrawRunBlock_l1

theorem lpok_spec_DrawRunBlock_l1 : LoopOk Tryd.prog (fun k => Nat.blt k Tryd.f21.ntmps) lp_spec_DrawRunBlock_l1.F (loopAt Tryd.f21 1) := by
  refine Lp.ok (tbl := [n_spec_l01From, PF.lend n_spec_l01From, PF.fz n_spec_l01From, p_spec_l15DrawTerm, PF.lend p_spec_l15DrawTerm, PF.fz p_spec_l15DrawTerm, n_spec_l01Next, PF.lend n_spec_l01Next, PF.fz n_spec_l01Next, p_spec_l15DrawArgs, PF.lend p_spec_l15DrawArgs, PF.fz p_spec_l15DrawArgs, n_spec_l01Own, PF.lend n_spec_l01Own, PF.fz n_spec_l01Own]) (lf := [lp_spec_DrawRunBlock_l1_l0.F]) hmix lp_spec_DrawRunBlock_l1 (by kernel_rfl) (LOk.allT (l := [loopIn (loopAt Tryd.f21 1) 0]) (by kernel_rfl) (.cons lpok_spec_DrawRunBlock_l1_l0 (.nil _))) (fun _ => rfl) (fun _ _ => rfl) ?_ ?_ ?_ ?_ (fun _ => rfl) ?_
  · intro x; obtain ⟨y0, y1, y2, y3, y4, y5, y6, y7⟩ := x; kernel_rfl
  · intro x; obtain ⟨y0, y1, y2, y3, y4, y5, y6, y7⟩ := x; kernel_rfl
  · intro s x h
    have h : rd_spec_DrawRunBlock_l1 s = some x := h
    unfold rd_spec_DrawRunBlock_l1 at h
    repeat' split at h
    all_goals cases h
    exact ⟨absS_cons (by assumption) rfl (absS_cons (by assumption) rfl (absS_cons (by assumption) rfl (absS_cons (by assumption) rfl (rfl)))), absE_cons rfl (by assumption) rfl (absE_cons rfl (by assumption) rfl (absE_cons rfl (by assumption) rfl (absE_cons rfl (by assumption) rfl (rfl))))⟩
  · intro x; obtain ⟨y0, y1, y2, y3, y4, y5, y6, y7⟩ := x; kernel_rfl
  · intro x z; obtain ⟨y0, y1, y2, y3, y4, y5, y6, y7⟩ := x; exact (And.intro rfl trivial)

def spec_DrawRunBlock_a0 (x0 : List Int) : Bool :=
  nxV (60 : Int) (spec_l15DrawTerm_3 (0 : Int) (frS x0) x0) (spec_l15DrawTerm_4 (0 : Int) (frS x0) x0) x0 == (0 : Int)

def spec_DrawRunBlock_a1 (x0 : List Int) : Int :=
  nxA (60 : Int) (spec_l15DrawTerm_3 (0 : Int) (frS x0) x0) x0

def spec_DrawRunBlock_a2 (x0 : List Int) : Int :=
  nxS (60 : Int) (spec_l15DrawTerm_3 (0 : Int) (frS x0) x0) (spec_l15DrawTerm_4 (0 : Int) (frS x0) x0) x0

def spec_DrawRunBlock_a3 (x0 : List Int) : Int × Int × Int × Int × ByteArray × Int × List (List Int) × List Int :=
  (nxV (12 : Int) (spec_DrawRunBlock_a1 x0) (spec_DrawRunBlock_a2 x0) x0, nxA (12 : Int) (spec_DrawRunBlock_a1 x0) x0,
  nxS (12 : Int) (spec_DrawRunBlock_a1 x0) (spec_DrawRunBlock_a2 x0) x0, spec_l15DrawTerm_0 (0 : Int) (frS x0) x0,
  spec_l15DrawTerm_1 (0 : Int) (frS x0) x0, spec_l15DrawTerm_2 (0 : Int) (frS x0) x0, [], x0)

def spec_DrawRunBlock_a4 (x0 : List Int) : Int × Int × Int × ByteArray × Int × List (List Int) × List Int :=
  Prod.snd (Prod.snd (Lp.res lp_spec_DrawRunBlock_l1 (spec_DrawRunBlock_a3 x0)))

def spec_DrawRunBlock_a5 (x0 : List Int) : Int :=
  Prod.fst (spec_DrawRunBlock_a4 x0)

def spec_DrawRunBlock_a6 (x0 : List Int) : Int × Int × ByteArray × Int × List (List Int) × List Int :=
  Prod.snd (spec_DrawRunBlock_a4 x0)

def spec_DrawRunBlock_a7 (x0 : List Int) : Int :=
  Prod.fst (spec_DrawRunBlock_a6 x0)

def spec_DrawRunBlock_a8 (x0 : List Int) : Bool :=
  nxV (24 : Int) (spec_DrawRunBlock_a5 x0) (spec_DrawRunBlock_a7 x0) x0 == (0 : Int)

def spec_DrawRunBlock_a9 (x0 : List Int) : Int × List (List Int) × Int × Int × Int × ByteArray × Int × List Int :=
  (IntKind.wrap IntKind.i64 ((200 : Int) + nxV (2 : Int) (spec_DrawRunBlock_a1 x0) (spec_DrawRunBlock_a2 x0) x0), [],
  nxA (2 : Int) (spec_DrawRunBlock_a1 x0) x0, nxS (2 : Int) (spec_DrawRunBlock_a1 x0) (spec_DrawRunBlock_a2 x0) x0,
  spec_l15DrawTerm_0 (0 : Int) (frS x0) x0, spec_l15DrawTerm_1 (0 : Int) (frS x0) x0, spec_l15DrawTerm_2 (0 : Int) (frS x0) x0, x0)

def spec_DrawRunBlock_a10 (x0 : List Int) : List (List Int) :=
  Prod.fst (Prod.snd (Prod.snd (Prod.snd (Prod.snd (spec_DrawRunBlock_a6 x0)))))

def spec_DrawRunBlock_0 (x0 : List Int) : Int :=
  bif spec_DrawRunBlock_a0 x0 then spec_l15DrawTerm_0 (0 : Int) (frS x0) x0
  else bif spec_DrawRunBlock_a8 x0 then spec_l15DrawTerm_0 (0 : Int) (frS x0) x0 else spec_l15DrawTerm_0 (0 : Int) (frS x0) x0

def spec_DrawRunBlock_1 (x0 : List Int) : ByteArray :=
  bif spec_DrawRunBlock_a0 x0 then spec_l15DrawTerm_1 (0 : Int) (frS x0) x0
  else bif spec_DrawRunBlock_a8 x0 then spec_l15DrawTerm_1 (0 : Int) (frS x0) x0 else spec_l15DrawTerm_1 (0 : Int) (frS x0) x0

def spec_DrawRunBlock_2 (x0 : List Int) : Int :=
  bif spec_DrawRunBlock_a0 x0 then spec_l15DrawTerm_2 (0 : Int) (frS x0) x0
  else bif spec_DrawRunBlock_a8 x0 then spec_l15DrawTerm_2 (0 : Int) (frS x0) x0 else spec_l15DrawTerm_2 (0 : Int) (frS x0) x0

def spec_DrawRunBlock_3 (x0 : List Int) : List (List Int) :=
  bif spec_DrawRunBlock_a0 x0 then Prod.fst (Prod.snd (Prod.snd (Lp.res lp_spec_DrawRunBlock_l0 (spec_DrawRunBlock_a9 x0))))
  else bif spec_DrawRunBlock_a8 x0 then spec_DrawRunBlock_a10 x0 ++ [[(2 : Int)]] else spec_DrawRunBlock_a10 x0

def spec_DrawRunBlock_4 (x0 : List Int) : Bool :=
  allT
  [srcOk (0 : Int) (0 : Int) x0, spec_l15DrawTerm_5 (0 : Int) (frS x0) x0,
    srcOk (spec_l15DrawTerm_3 (0 : Int) (frS x0) x0) (spec_l15DrawTerm_4 (0 : Int) (frS x0) x0) x0,
    !spec_DrawRunBlock_a0 x0 || srcOk (spec_DrawRunBlock_a1 x0) (spec_DrawRunBlock_a2 x0) x0,
    !spec_DrawRunBlock_a0 x0 || Lp.fin lp_spec_DrawRunBlock_l0 (spec_DrawRunBlock_a9 x0),
    spec_DrawRunBlock_a0 x0 || srcOk (spec_DrawRunBlock_a1 x0) (spec_DrawRunBlock_a2 x0) x0,
    spec_DrawRunBlock_a0 x0 || Lp.fin lp_spec_DrawRunBlock_l1 (spec_DrawRunBlock_a3 x0),
    spec_DrawRunBlock_a0 x0 || srcOk (spec_DrawRunBlock_a5 x0) (spec_DrawRunBlock_a7 x0) x0,
    spec_DrawRunBlock_a0 x0 ||
      (!spec_DrawRunBlock_a8 x0 || leN (List.length (spec_DrawRunBlock_a10 x0) + List.length [[(2 : Int)]]) (9223372036854775807 : Nat)),
    spec_DrawRunBlock_a0 x0 ||
      (!spec_DrawRunBlock_a8 x0 || leN ((List.length (spec_DrawRunBlock_a10 x0) + List.length [[(2 : Int)]]) * (24 : Nat)) (140737488355328 : Nat))]

def F_spec_DrawRunBlock : List SV → List Entry → Option Out
  | [.one ⟨false, [.ref 0]⟩], [.row false 5 (.int .u8) x0] => some ⟨(.tup [⟨true, [(.val (.int IntKind.i64 (spec_DrawRunBlock_0 x0))), (.val (.string (spec_DrawRunBlock_1 x0))), (.val (.int IntKind.i64 (spec_DrawRunBlock_2 x0)))]⟩, ⟨false, [(.ref 1)]⟩]), [(.row false 5 (CTy.int IntKind.u8) x0)], [(.row true 26 (CTy.sl (2 : Nat) (CTy.int IntKind.i64)) (spec_DrawRunBlock_3 x0))], [(spec_DrawRunBlock_4 x0)]⟩
  | _, _ => none

def p_spec_DrawRunBlock : PF Tryd.prog := PF.ofG Tryd.prog [n_spec_l01From, PF.lend n_spec_l01From, PF.fz n_spec_l01From, p_spec_l15DrawTerm, PF.lend p_spec_l15DrawTerm, PF.fz p_spec_l15DrawTerm, n_spec_l01Next, PF.lend n_spec_l01Next, PF.fz n_spec_l01Next, p_spec_l15DrawArgs, PF.lend p_spec_l15DrawArgs, PF.fz p_spec_l15DrawArgs, n_spec_l01Own, PF.lend n_spec_l01Own, PF.fz n_spec_l01Own] [lp_spec_DrawRunBlock_l0.F, lp_spec_DrawRunBlock_l1.F] hmix 21 Tryd.f21 Tryd.func21 (LOk.fnT (l := [loopAt Tryd.f21 0, loopAt Tryd.f21 1]) (by kernel_rfl) (.cons lpok_spec_DrawRunBlock_l0 (.cons lpok_spec_DrawRunBlock_l1 (.nil _)))) F_spec_DrawRunBlock (by
  intro vs es r h; unfold F_spec_DrawRunBlock at h; split at h
  · cases h; kernel_rfl
  · cases h)

def impl_IsPossible_0 (x0 : Int) (x1 : ByteArray) (x2 : Int) (x3 : Int) (x4 : Int) (x5 : Int) : Bool :=
  bif blockB x0 x1 x2 then impl_isPossible_0 x0 x2 x3 x4 x5 else false

def F_impl_IsPossible : List SV → List Entry → Option Out
  | [.one ⟨true, [.val (.int .i64 x0), .val (.string x1), .val (.int .i64 x2)]⟩, .one ⟨true, [.val (.int .i64 x3), .val (.int .i64 x4), .val (.int .i64 x5)]⟩], [] => some ⟨(.one ⟨false, [(.val (.bool (impl_IsPossible_0 x0 x1 x2 x3 x4 x5)))]⟩), [], [], []⟩
  | _, _ => none

def p_impl_IsPossible : PF Tryd.prog := PF.ofG Tryd.prog [n_impl_IsBlock, p_impl_isPossible] [] hmix 27 Tryd.f27 Tryd.func27 (fun c _ => LOk.nil c) F_impl_IsPossible (by
  intro vs es r h; unfold F_impl_IsPossible at h; split at h
  · cases h; kernel_rfl
  · cases h)

end Go.SX

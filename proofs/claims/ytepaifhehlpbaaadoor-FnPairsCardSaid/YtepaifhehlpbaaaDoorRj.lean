/- What functions of the program come to, row by row (made by a program of the workplace). -/
import Derived.Test.YtepaifhehlpbaaaDoorTXh
import Derived.Test.YtepaifhehlpbaaaDoorProg
import Derived.Test.YtepaifhehlpbaaaDoorNj
import Derived.Test.YtepaifhehlpbaaaDoorNt
namespace Go.SX
open Go.Proofs
set_option maxRecDepth 100000

def spec_l15DrawTerm_a0 (x0 : Int) (x1 : Int) (x2 : List Int) : Int :=
  IntKind.wrap IntKind.i64 ((7 : Int) + nxV (6 : Int) x0 x1 x2)

def spec_l15DrawTerm_a1 (x0 : Int) (x1 : Int) (x2 : List Int) : Int :=
  bif spec_l13Counts_0 (spec_l15DrawTerm_a0 x0 x1 x2) then nxA (5 : Int) (nxA (6 : Int) x0 x2) x2 else nxA (6 : Int) x0 x2

def spec_l15DrawTerm_a2 (x0 : Int) (x1 : Int) (x2 : List Int) : Int :=
  bif spec_l13Counts_0 (spec_l15DrawTerm_a0 x0 x1 x2) then nxS (5 : Int) (nxA (6 : Int) x0 x2) (nxS (6 : Int) x0 x1 x2) x2 else nxS (6 : Int) x0 x1 x2

def spec_l15DrawTerm_a3 (x0 : Int) (x1 : Int) (x2 : List Int) : Int :=
  nxV (30 : Int) (spec_l15DrawTerm_a1 x0 x1 x2) (spec_l15DrawTerm_a2 x0 x1 x2) x2

def spec_l15DrawTerm_a4 (x0 : Int) (x1 : Int) (x2 : List Int) : Bool :=
  spec_l15DrawTerm_a3 x0 x1 x2 == (0 : Int)

def spec_l15DrawTerm_a5 (x0 : Int) (x1 : Int) (x2 : List Int) : Int :=
  nxS (30 : Int) (spec_l15DrawTerm_a1 x0 x1 x2) (spec_l15DrawTerm_a2 x0 x1 x2) x2

def spec_l15DrawTerm_a6 (x0 : Int) (x1 : Int) (x2 : List Int) : Bool :=
  spec_l15DrawTerm_a3 x0 x1 x2 == (1 : Int)

def spec_l15DrawTerm_a7 (x0 : Int) (x1 : Int) (x2 : List Int) : Int :=
  bif spec_l13Counts_0 (spec_l15DrawTerm_a0 x0 x1 x2) then spec_l15DrawTerm_a0 x0 x1 x2 else spec_l15DrawTerm_a0 x0 x1 x2

def spec_l15DrawTerm_a8 (x0 : Int) (x1 : Int) (x2 : List Int) : Bool :=
  spec_l15DrawTerm_a3 x0 x1 x2 == (2 : Int)

def spec_l15DrawTerm_a9 (x0 : Int) (x1 : Int) (x2 : List Int) : ByteArray :=
  bif spec_l13Counts_0 (spec_l15DrawTerm_a0 x0 x1 x2) then { data := #[] } else { data := #[] }

def spec_l15DrawTerm_a10 (x0 : Int) (x1 : Int) (x2 : List Int) : Int :=
  bif spec_l13Counts_0 (spec_l15DrawTerm_a0 x0 x1 x2) then nxV (5 : Int) (nxA (6 : Int) x0 x2) (nxS (6 : Int) x0 x1 x2) x2 else (0 : Int)

def spec_l15DrawTerm_a11 (x0 : Int) (x1 : Int) (x2 : List Int) : Bool :=
  srcOk (nxA (30 : Int) (spec_l15DrawTerm_a1 x0 x1 x2) x2) (spec_l15DrawTerm_a5 x0 x1 x2) x2

def spec_l15DrawTerm_0 (x0 : Int) (x1 : Int) (x2 : List Int) : Int :=
  bif spec_l15DrawTerm_a4 x0 x1 x2 then
  pkV (nxA (30 : Int) (spec_l15DrawTerm_a1 x0 x1 x2) x2) (spec_l15DrawTerm_a5 x0 x1 x2) [(0 : Int), (6 : Int), (13 : Int)] x2
  else
  bif spec_l15DrawTerm_a6 x0 x1 x2 then spec_l15DrawTerm_a7 x0 x1 x2
  else bif spec_l15DrawTerm_a8 x0 x1 x2 then spec_l15DrawTerm_a7 x0 x1 x2 else spec_l15DrawTerm_a7 x0 x1 x2

def spec_l15DrawTerm_1 (x0 : Int) (x1 : Int) (x2 : List Int) : ByteArray :=
  bif spec_l15DrawTerm_a4 x0 x1 x2 then spec_l15DrawTerm_a9 x0 x1 x2
  else
  bif spec_l15DrawTerm_a6 x0 x1 x2 then spec_l15DrawTerm_a9 x0 x1 x2
  else bif spec_l15DrawTerm_a8 x0 x1 x2 then { data := #[(97 : UInt8)] } else spec_l15DrawTerm_a9 x0 x1 x2

def spec_l15DrawTerm_2 (x0 : Int) (x1 : Int) (x2 : List Int) : Int :=
  bif spec_l15DrawTerm_a4 x0 x1 x2 then spec_l15DrawTerm_a10 x0 x1 x2
  else
  bif spec_l15DrawTerm_a6 x0 x1 x2 then
    pkV (nxA (30 : Int) (spec_l15DrawTerm_a1 x0 x1 x2) x2) (spec_l15DrawTerm_a5 x0 x1 x2) [(-1 : Int), (1 : Int), (9999 : Int), (10000 : Int)] x2
  else bif spec_l15DrawTerm_a8 x0 x1 x2 then spec_l15DrawTerm_a10 x0 x1 x2 else spec_l15DrawTerm_a10 x0 x1 x2

def spec_l15DrawTerm_3 (x0 : Int) (x1 : Int) (x2 : List Int) : Int :=
  bif spec_l15DrawTerm_a4 x0 x1 x2 then pkA (nxA (30 : Int) (spec_l15DrawTerm_a1 x0 x1 x2) x2) [(0 : Int), (6 : Int), (13 : Int)] x2
  else
  bif spec_l15DrawTerm_a6 x0 x1 x2 then pkA (nxA (30 : Int) (spec_l15DrawTerm_a1 x0 x1 x2) x2) [(-1 : Int), (1 : Int), (9999 : Int), (10000 : Int)] x2
  else nxA (30 : Int) (spec_l15DrawTerm_a1 x0 x1 x2) x2

def spec_l15DrawTerm_4 (x0 : Int) (x1 : Int) (x2 : List Int) : Int :=
  bif spec_l15DrawTerm_a4 x0 x1 x2 then
  pkS (nxA (30 : Int) (spec_l15DrawTerm_a1 x0 x1 x2) x2) (spec_l15DrawTerm_a5 x0 x1 x2) [(0 : Int), (6 : Int), (13 : Int)] x2
  else
  bif spec_l15DrawTerm_a6 x0 x1 x2 then
    pkS (nxA (30 : Int) (spec_l15DrawTerm_a1 x0 x1 x2) x2) (spec_l15DrawTerm_a5 x0 x1 x2) [(-1 : Int), (1 : Int), (9999 : Int), (10000 : Int)] x2
  else spec_l15DrawTerm_a5 x0 x1 x2

def spec_l15DrawTerm_5 (x0 : Int) (x1 : Int) (x2 : List Int) : Bool :=
  allT
  [srcOk x0 x1 x2, !spec_l13Counts_0 (spec_l15DrawTerm_a0 x0 x1 x2) || srcOk (nxA (6 : Int) x0 x2) (nxS (6 : Int) x0 x1 x2) x2,
    srcOk (spec_l15DrawTerm_a1 x0 x1 x2) (spec_l15DrawTerm_a2 x0 x1 x2) x2,
    !spec_l15DrawTerm_a4 x0 x1 x2 || spec_l15DrawTerm_a11 x0 x1 x2 && leN (1 : Nat) (List.length [(0 : Int), (6 : Int), (13 : Int)]),
    spec_l15DrawTerm_a4 x0 x1 x2 ||
      (!spec_l15DrawTerm_a6 x0 x1 x2 ||
        spec_l15DrawTerm_a11 x0 x1 x2 && leN (1 : Nat) (List.length [(-1 : Int), (1 : Int), (9999 : Int), (10000 : Int)]))]

def F_spec_l15DrawTerm : List SV → List Entry → Option Out
  | [.one ⟨false, [.ptr 0 0]⟩], [.box 134 [.ref 1, .val (.int .i64 x0), .val (.int .i64 x1)], .row false 5 (.int .u8) x2] => some ⟨(.one ⟨true, [(.val (.int IntKind.i64 (spec_l15DrawTerm_0 x0 x1 x2))), (.val (.string (spec_l15DrawTerm_1 x0 x1 x2))), (.val (.int IntKind.i64 (spec_l15DrawTerm_2 x0 x1 x2)))]⟩), [(.box 134 [(.ref 1), (.val (.int IntKind.i64 (spec_l15DrawTerm_3 x0 x1 x2))), (.val (.int IntKind.i64 (spec_l15DrawTerm_4 x0 x1 x2)))]), (.row false 5 (CTy.int IntKind.u8) x2)], [], [(spec_l15DrawTerm_5 x0 x1 x2)]⟩
  | _, _ => none

def p_spec_l15DrawTerm : PF Tryd.prog := PF.ofG Tryd.prog [p_spec_l13Counts, n_spec_l01Next, PF.lend n_spec_l01Next, PF.fz n_spec_l01Next, n_spec_l01Pick, PF.lend n_spec_l01Pick, PF.fz n_spec_l01Pick] [] hmix 60 Tryd.f60 Tryd.func60 (fun c _ => LOk.nil c) F_spec_l15DrawTerm (by
  intro vs es r h; unfold F_spec_l15DrawTerm at h; split at h
  · cases h; kernel_rfl
  · cases h)

def spec_l15DrawArgs_a0 (x3 : Int) (x4 : Int) (x5 : List Int) : List Int :=
  [nxV (2 : Int) x3 x4 x5]

def spec_l15DrawArgs_a1 (x3 : Int) (x4 : Int) (x5 : List Int) : List Int :=
  [nxV (2 : Int) (nxA (2 : Int) x3 x5) (nxS (2 : Int) x3 x4 x5) x5]

def spec_l15DrawArgs_a2 (x0 : Int) : Bool :=
  !spec_l13Takes_0 x0 == (2 : Int)

def spec_l15DrawArgs_0 (x0 : Int) (x3 : Int) (x5 : List Int) : Int :=
  bif spec_l13Takes_0 x0 == (2 : Int) then nxA (2 : Int) (nxA (2 : Int) x3 x5) x5 else nxA (2 : Int) x3 x5

def spec_l15DrawArgs_1 (x0 : Int) (x3 : Int) (x4 : Int) (x5 : List Int) : Int :=
  bif spec_l13Takes_0 x0 == (2 : Int) then nxS (2 : Int) (nxA (2 : Int) x3 x5) (nxS (2 : Int) x3 x4 x5) x5 else nxS (2 : Int) x3 x4 x5

def spec_l15DrawArgs_2 (x0 : Int) (x3 : Int) (x4 : Int) (x5 : List Int) : List Int :=
  bif spec_l13Takes_0 x0 == (2 : Int) then spec_l15DrawArgs_a0 x3 x4 x5 ++ spec_l15DrawArgs_a1 x3 x4 x5 else spec_l15DrawArgs_a0 x3 x4 x5

def spec_l15DrawArgs_3 (x0 : Int) (x3 : Int) (x4 : Int) (x5 : List Int) : Bool :=
  allT
  [srcOk x3 x4 x5, spec_l15DrawArgs_a2 x0 || srcOk (nxA (2 : Int) x3 x5) (nxS (2 : Int) x3 x4 x5) x5,
    spec_l15DrawArgs_a2 x0 ||
      leN (List.length (spec_l15DrawArgs_a0 x3 x4 x5) + List.length (spec_l15DrawArgs_a1 x3 x4 x5)) (9223372036854775807 : Nat),
    spec_l15DrawArgs_a2 x0 ||
      leN ((List.length (spec_l15DrawArgs_a0 x3 x4 x5) + List.length (spec_l15DrawArgs_a1 x3 x4 x5)) * (8 : Nat)) (140737488355328 : Nat)]

def F_spec_l15DrawArgs : List SV → List Entry → Option Out
  | [.one ⟨false, [.ptr 0 0]⟩, .one ⟨true, [.val (.int .i64 x0), .val (.string _x1), .val (.int .i64 _x2)]⟩], [.box 134 [.ref 1, .val (.int .i64 x3), .val (.int .i64 x4)], .row false 5 (.int .u8) x5] => some ⟨(.one ⟨false, [(.ref 2)]⟩), [(.box 134 [(.ref 1), (.val (.int IntKind.i64 (spec_l15DrawArgs_0 x0 x3 x5))), (.val (.int IntKind.i64 (spec_l15DrawArgs_1 x0 x3 x4 x5)))]), (.row false 5 (CTy.int IntKind.u8) x5)], [(.row true 2 (CTy.int IntKind.i64) (spec_l15DrawArgs_2 x0 x3 x4 x5))], [(spec_l15DrawArgs_3 x0 x3 x4 x5)]⟩
  | _, _ => none

def p_spec_l15DrawArgs : PF Tryd.prog := PF.ofG Tryd.prog [n_spec_l01Next, PF.lend n_spec_l01Next, PF.fz n_spec_l01Next, p_spec_l13Takes] [] hmix 62 Tryd.f62 Tryd.func62 (fun c _ => LOk.nil c) F_spec_l15DrawArgs (by
  intro vs es r h; unfold F_spec_l15DrawArgs at h; split at h
  · cases h; kernel_rfl
  · cases h)

abbrev X_spec_l15DrawState_l0 := Int × Int × ByteArray × Int × Int × Int × Int × Int × Int × List Int

def spec_l15DrawState_l0_0 (y0 : Int) : Bool :=
  ltI (0 : Int) y0

def spec_l15DrawState_l0_1 (y1 : Int) (y7 : Int) (y8 : Int) (y9 : List Int) : Bool :=
  spec_l15DrawArgs_3 y1 y7 y8 y9

def spec_l15DrawState_l0_2 (y1 : Int) (y7 : Int) (y8 : Int) (y9 : List Int) : Bool :=
  spec_l15Step_4 (spec_l15DrawArgs_2 y1 y7 y8 y9)

def spec_l15DrawState_l0_3 (y0 : Int) : Int :=
  IntKind.wrap IntKind.i64 (y0 - (1 : Int))

def spec_l15DrawState_l0_4 (y1 : Int) (y3 : Int) (y4 : Int) (y5 : Int) (y6 : Int) (y7 : Int) (y8 : Int) (y9 : List Int) : Int :=
  spec_l15Step_1 y1 y3 y4 y5 y6 (spec_l15DrawArgs_2 y1 y7 y8 y9)

def spec_l15DrawState_l0_5 (y1 : Int) (y5 : Int) (y6 : Int) (y7 : Int) (y8 : Int) (y9 : List Int) : Int :=
  spec_l15Step_2 y1 y5 y6 (spec_l15DrawArgs_2 y1 y7 y8 y9)

def spec_l15DrawState_l0_6 (y1 : Int) (y3 : Int) (y4 : Int) (y6 : Int) (y7 : Int) (y8 : Int) (y9 : List Int) : Int :=
  spec_l15Step_3 y1 y3 y4 y6 (spec_l15DrawArgs_2 y1 y7 y8 y9)

def spec_l15DrawState_l0_7 (y1 : Int) (y7 : Int) (y9 : List Int) : Int :=
  spec_l15DrawArgs_0 y1 y7 y9

def spec_l15DrawState_l0_8 (y1 : Int) (y7 : Int) (y8 : Int) (y9 : List Int) : Int :=
  spec_l15DrawArgs_1 y1 y7 y8 y9

def JL_spec_l15DrawState_l0 : X_spec_l15DrawState_l0 → List (Nat × SV)
  | (y0, _, _, _, _, _, _, _, _, _) => [(6, (.one ⟨false, [(.val (.int IntKind.i64 y0))]⟩)), (3, (.one ⟨false, [(.ptr 0 0)]⟩)), (5, (.one ⟨false, [(.ptr 1 0)]⟩)), (0, (.one ⟨false, [(.ptr 2 0)]⟩))]

def JE_spec_l15DrawState_l0 : X_spec_l15DrawState_l0 → List (Nat × Entry)
  | (_, y1, y2, y3, y4, y5, y6, y7, y8, y9) => [(0, (.box 31 [(.val (.int IntKind.i64 y1)), (.val (.string y2)), (.val (.int IntKind.i64 y3))])), (1, (.box 28 [(.val (.int IntKind.i64 y4)), (.val (.int IntKind.i64 y5)), (.val (.int IntKind.i64 y6))])), (2, (.box 134 [(.ref 3), (.val (.int IntKind.i64 y7)), (.val (.int IntKind.i64 y8))])), (3, (.row false 5 (CTy.int IntKind.u8) y9))]

def XL_spec_l15DrawState_l0 : Nat → X_spec_l15DrawState_l0 → List (Nat × SV)
  | _, (_, _, _, _, _, _, _, _, _, _) => []

def XE_spec_l15DrawState_l0 : Nat → X_spec_l15DrawState_l0 → List (Nat × Entry)
  | _, (_, y1, y2, y3, y4, y5, y6, y7, y8, y9) => [(0, (.box 31 [(.val (.int IntKind.i64 y1)), (.val (.string y2)), (.val (.int IntKind.i64 y3))])), (1, (.box 28 [(.val (.int IntKind.i64 y4)), (.val (.int IntKind.i64 y5)), (.val (.int IntKind.i64 y6))])), (2, (.box 134 [(.ref 3), (.val (.int IntKind.i64 y7)), (.val (.int IntKind.i64 y8))])), (3, (.row false 5 (CTy.int IntKind.u8) y9))]

def lt_spec_l15DrawState_l0 : X_spec_l15DrawState_l0 → LT X_spec_l15DrawState_l0
  | (y0, y1, y2, y3, y4, y5, y6, y7, y8, y9) => .ite (spec_l15DrawState_l0_0 y0) (.need [(spec_l15DrawState_l0_1 y1 y7 y8 y9), (spec_l15DrawState_l0_2 y1 y7 y8 y9)] (.nrm ((spec_l15DrawState_l0_3 y0), y1, y2, y3, (spec_l15DrawState_l0_4 y1 y3 y4 y5 y6 y7 y8 y9), (spec_l15DrawState_l0_5 y1 y5 y6 y7 y8 y9), (spec_l15DrawState_l0_6 y1 y3 y4 y6 y7 y8 y9), (spec_l15DrawState_l0_7 y1 y7 y9), (spec_l15DrawState_l0_8 y1 y7 y8 y9), y9) [(0, 0), (1, 1), (2, 2), (3, 3)])) (.ext 0 [(0, 0), (1, 1), (2, 2), (3, 3)])

def rd_spec_l15DrawState_l0 (s : St) : Option X_spec_l15DrawState_l0 :=
  (match s.look 6 with
  | some ⟨none, (.one ⟨false, [(.val (.int IntKind.i64 y0))]⟩)⟩ =>
  (match s.look 3 with
  | some ⟨none, (.one ⟨false, [(.ptr 192 0)]⟩)⟩ =>
  (match s.look 5 with
  | some ⟨none, (.one ⟨false, [(.ptr 384 0)]⟩)⟩ =>
  (match s.look 0 with
  | some ⟨none, (.one ⟨false, [(.ptr 0 0)]⟩)⟩ =>
  (match s.ent 192 with
  | some (.box 31 [(.val (.int IntKind.i64 y1)), (.val (.string y2)), (.val (.int IntKind.i64 y3))]) =>
  (match s.ent 384 with
  | some (.box 28 [(.val (.int IntKind.i64 y4)), (.val (.int IntKind.i64 y5)), (.val (.int IntKind.i64 y6))]) =>
  (match s.ent 0 with
  | some (.box 134 [(.ref 1), (.val (.int IntKind.i64 y7)), (.val (.int IntKind.i64 y8))]) =>
  (match s.ent 1 with
  | some (.row false 5 (CTy.int IntKind.u8) y9) =>
  some (y0, y1, y2, y3, y4, y5, y6, y7, y8, y9)
  | _ => none)
  | _ => none)
  | _ => none)
  | _ => none)
  | _ => none)
  | _ => none)
  | _ => none)
  | _ => none)

def lp_spec_l15DrawState_l0 : Lp X_spec_l15DrawState_l0 where
  h := ⟨[12, 13, 17, 18, 19, 20, 21, 22, 16, 23, 24, 14, 15, 6], [0, 1, 2, 3], [], []⟩
  JL := JL_spec_l15DrawState_l0
  JE := JE_spec_l15DrawState_l0
  XL := XL_spec_l15DrawState_l0
  XE := XE_spec_l15DrawState_l0
  q := fun j => match j with | _ => .exit 0
  tags := [0]
  lt := lt_spec_l15DrawState_l0
  fuel := fun (y0, y1, y2, y3, y4, y5, y6, y7, y8, y9) => y0.natAbs + y1.natAbs + y2.size + y3.natAbs + y4.natAbs + y5.natAbs + y6.natAbs + y7.natAbs + y8.natAbs + y9.length
  fix := fun (_, y1, y2, y3, _, _, _, _, _, y9) (y0, _, _, _, y4, y5, y6, y7, y8, _) => (y0, y1, y2, y3, y4, y5, y6, y7, y8, y9)
  σ := [(0, 192), (1, 384), (2, 0), (3, 1)]
  rd := rd_spec_l15DrawState_l0

theorem lpok_spec_l15DrawState_l0 : LoopOk Tryd.prog (fun k => Nat.blt k Tryd.f69.ntmps) lp_spec_l15DrawState_l0.F (loopAt Tryd.f69 0) := by
  refine Lp.ok (tbl := [n_spec_IsBlock, p_spec_l15Step, PF.lend p_spec_l15Step, PF.fz p_spec_l15Step, n_spec_l01Next, PF.lend n_spec_l01Next, PF.fz n_spec_l01Next, p_spec_l15DrawArgs, PF.lend p_spec_l15DrawArgs, PF.fz p_spec_l15DrawArgs, n_spec_l01Pick, PF.lend n_spec_l01Pick, PF.fz n_spec_l01Pick]) (lf := []) hmix lp_spec_l15DrawState_l0 (by kernel_rfl) (LOk.nil _) (fun _ => rfl) (fun _ _ => rfl) ?_ ?_ ?_ ?_ (fun _ => rfl) ?_
  · intro x; obtain ⟨y0, y1, y2, y3, y4, y5, y6, y7, y8, y9⟩ := x; kernel_rfl
  · intro x; obtain ⟨y0, y1, y2, y3, y4, y5, y6, y7, y8, y9⟩ := x; kernel_rfl
  · intro s x h
    have h : rd_spec_l15DrawState_l0 s = some x := h
    unfold rd_spec_l15DrawState_l0 at h
    repeat' split at h
    all_goals cases h
    exact ⟨absS_cons (by assumption) rfl (absS_cons (by assumption) rfl (absS_cons (by assumption) rfl (absS_cons (by assumption) rfl (rfl)))), absE_cons rfl (by assumption) rfl (absE_cons rfl (by assumption) rfl (absE_cons rfl (by assumption) rfl (absE_cons rfl (by assumption) rfl (rfl))))⟩
  · intro x; obtain ⟨y0, y1, y2, y3, y4, y5, y6, y7, y8, y9⟩ := x; kernel_rfl
  · intro x z; obtain ⟨y0, y1, y2, y3, y4, y5, y6, y7, y8, y9⟩ := x; exact (And.intro rfl trivial)

def spec_l15DrawState_a0 (x0 : Int) (x1 : ByteArray) (x2 : Int) (x3 : Int) (x4 : Int) (x5 : List Int) : Int × Int × ByteArray × Int × Int × Int × Int × Int × Int × List Int :=
  (nxV (9 : Int) x3 x4 x5, x0, x1, x2, (0 : Int), (0 : Int), (0 : Int), nxA (9 : Int) x3 x5, nxS (9 : Int) x3 x4 x5, x5)

def spec_l15DrawState_a1 (x0 : Int) (x1 : ByteArray) (x2 : Int) (x3 : Int) (x4 : Int) (x5 : List Int) : Int × Int × Int × Int × Int × List Int :=
  Prod.snd (Prod.snd (Prod.snd (Prod.snd (Prod.snd (Lp.res lp_spec_l15DrawState_l0 (spec_l15DrawState_a0 x0 x1 x2 x3 x4 x5))))))

def spec_l15DrawState_a2 (x0 : Int) (x1 : ByteArray) (x2 : Int) (x3 : Int) (x4 : Int) (x5 : List Int) : Int × Int × Int × Int × List Int :=
  Prod.snd (spec_l15DrawState_a1 x0 x1 x2 x3 x4 x5)

def spec_l15DrawState_a3 (x0 : Int) (x1 : ByteArray) (x2 : Int) (x3 : Int) (x4 : Int) (x5 : List Int) : Int × Int × Int × List Int :=
  Prod.snd (spec_l15DrawState_a2 x0 x1 x2 x3 x4 x5)

def spec_l15DrawState_a4 (x0 : Int) (x1 : ByteArray) (x2 : Int) (x3 : Int) (x4 : Int) (x5 : List Int) : Int × Int × List Int :=
  Prod.snd (spec_l15DrawState_a3 x0 x1 x2 x3 x4 x5)

def spec_l15DrawState_a5 (x0 : Int) (x1 : ByteArray) (x2 : Int) (x3 : Int) (x4 : Int) (x5 : List Int) : Int :=
  bif blockB x0 x1 x2 then Prod.fst (spec_l15DrawState_a4 x0 x1 x2 x3 x4 x5) else x3

def spec_l15DrawState_a6 (x0 : Int) (x1 : ByteArray) (x2 : Int) (x3 : Int) (x4 : Int) (x5 : List Int) : Int :=
  bif blockB x0 x1 x2 then Prod.fst (Prod.snd (spec_l15DrawState_a4 x0 x1 x2 x3 x4 x5)) else x4

def spec_l15DrawState_a7 (x0 : Int) (x1 : ByteArray) (x2 : Int) (x3 : Int) (x4 : Int) (x5 : List Int) : Int :=
  nxV (24 : Int) (spec_l15DrawState_a5 x0 x1 x2 x3 x4 x5) (spec_l15DrawState_a6 x0 x1 x2 x3 x4 x5) (bif blockB x0 x1 x2 then x5 else x5)

def spec_l15DrawState_a8 (x0 : Int) (x1 : ByteArray) (x2 : Int) (x3 : Int) (x4 : Int) (x5 : List Int) : Bool :=
  spec_l15DrawState_a7 x0 x1 x2 x3 x4 x5 == (0 : Int)

def spec_l15DrawState_a9 (x0 : Int) (x1 : ByteArray) (x2 : Int) (x3 : Int) (x4 : Int) (x5 : List Int) : Int :=
  nxA (24 : Int) (spec_l15DrawState_a5 x0 x1 x2 x3 x4 x5) (bif blockB x0 x1 x2 then x5 else x5)

def spec_l15DrawState_a10 (x0 : Int) (x1 : ByteArray) (x2 : Int) (x3 : Int) (x4 : Int) (x5 : List Int) : Int :=
  nxS (24 : Int) (spec_l15DrawState_a5 x0 x1 x2 x3 x4 x5) (spec_l15DrawState_a6 x0 x1 x2 x3 x4 x5) (bif blockB x0 x1 x2 then x5 else x5)

def spec_l15DrawState_a11 (x0 : Int) (x1 : ByteArray) (x2 : Int) : List Int :=
  [(-1 : Int), (1 : Int), bif blockB x0 x1 x2 then x2 else x2, IntKind.wrap IntKind.i64 ((bif blockB x0 x1 x2 then x2 else x2) + (1 : Int)),
  IntKind.wrap IntKind.i64 ((bif blockB x0 x1 x2 then x2 else x2) + (2 : Int))]

def spec_l15DrawState_a12 (x0 : Int) (x1 : ByteArray) (x2 : Int) (x3 : Int) (x4 : Int) (x5 : List Int) : Bool :=
  spec_l15DrawState_a7 x0 x1 x2 x3 x4 x5 == (1 : Int)

def spec_l15DrawState_a13 (x0 : Int) (x1 : ByteArray) (x2 : Int) (x3 : Int) (x4 : Int) (x5 : List Int) : Int :=
  bif blockB x0 x1 x2 then Prod.fst (spec_l15DrawState_a1 x0 x1 x2 x3 x4 x5) else (0 : Int)

def spec_l15DrawState_a14 (x0 : Int) (x1 : ByteArray) (x2 : Int) (x3 : Int) (x4 : Int) (x5 : List Int) : Bool :=
  spec_l15DrawState_a7 x0 x1 x2 x3 x4 x5 == (2 : Int)

def spec_l15DrawState_a15 (x0 : Int) (x1 : ByteArray) (x2 : Int) (x3 : Int) (x4 : Int) (x5 : List Int) : Int :=
  bif blockB x0 x1 x2 then Prod.fst (spec_l15DrawState_a2 x0 x1 x2 x3 x4 x5) else (0 : Int)

def spec_l15DrawState_a16 (x0 : Int) (x1 : ByteArray) (x2 : Int) (x3 : Int) (x4 : Int) (x5 : List Int) : Int :=
  pkV (spec_l15DrawState_a9 x0 x1 x2 x3 x4 x5) (spec_l15DrawState_a10 x0 x1 x2 x3 x4 x5) [(-1 : Int), (1 : Int), (2 : Int)]
  (bif blockB x0 x1 x2 then x5 else x5)

def spec_l15DrawState_a17 (x0 : Int) (x1 : ByteArray) (x2 : Int) (x3 : Int) (x4 : Int) (x5 : List Int) : Int :=
  bif blockB x0 x1 x2 then Prod.fst (spec_l15DrawState_a3 x0 x1 x2 x3 x4 x5) else (0 : Int)

def spec_l15DrawState_a18 (x0 : Int) (x1 : ByteArray) (x2 : Int) (x3 : Int) (x4 : Int) (x5 : List Int) : Int :=
  pkA (spec_l15DrawState_a9 x0 x1 x2 x3 x4 x5) [(-1 : Int), (1 : Int), (2 : Int)] (bif blockB x0 x1 x2 then x5 else x5)

def spec_l15DrawState_a19 (x0 : Int) (x1 : ByteArray) (x2 : Int) (x3 : Int) (x4 : Int) (x5 : List Int) : Int :=
  pkS (spec_l15DrawState_a9 x0 x1 x2 x3 x4 x5) (spec_l15DrawState_a10 x0 x1 x2 x3 x4 x5) [(-1 : Int), (1 : Int), (2 : Int)]
  (bif blockB x0 x1 x2 then x5 else x5)

def spec_l15DrawState_a20 (x0 : Int) (x1 : ByteArray) (x2 : Int) (x3 : Int) (x4 : Int) (x5 : List Int) : Bool :=
  srcOk (spec_l15DrawState_a9 x0 x1 x2 x3 x4 x5) (spec_l15DrawState_a10 x0 x1 x2 x3 x4 x5) (bif blockB x0 x1 x2 then x5 else x5)

def spec_l15DrawState_a21 (x0 : Int) (x1 : ByteArray) (x2 : Int) (x3 : Int) (x4 : Int) (x5 : List Int) : Bool :=
  spec_l15DrawState_a20 x0 x1 x2 x3 x4 x5 && leN (1 : Nat) (List.length [(-1 : Int), (1 : Int), (2 : Int)])

def spec_l15DrawState_0 (x0 : Int) (x1 : ByteArray) (x2 : Int) (x3 : Int) (x4 : Int) (x5 : List Int) : Int :=
  bif spec_l15DrawState_a8 x0 x1 x2 x3 x4 x5 then
  pkV (spec_l15DrawState_a9 x0 x1 x2 x3 x4 x5) (spec_l15DrawState_a10 x0 x1 x2 x3 x4 x5) (spec_l15DrawState_a11 x0 x1 x2)
    (bif blockB x0 x1 x2 then x5 else x5)
  else
  bif spec_l15DrawState_a12 x0 x1 x2 x3 x4 x5 then spec_l15DrawState_a13 x0 x1 x2 x3 x4 x5
  else bif spec_l15DrawState_a14 x0 x1 x2 x3 x4 x5 then spec_l15DrawState_a13 x0 x1 x2 x3 x4 x5 else spec_l15DrawState_a13 x0 x1 x2 x3 x4 x5

def spec_l15DrawState_1 (x0 : Int) (x1 : ByteArray) (x2 : Int) (x3 : Int) (x4 : Int) (x5 : List Int) : Int :=
  bif spec_l15DrawState_a8 x0 x1 x2 x3 x4 x5 then spec_l15DrawState_a15 x0 x1 x2 x3 x4 x5
  else
  bif spec_l15DrawState_a12 x0 x1 x2 x3 x4 x5 then spec_l15DrawState_a16 x0 x1 x2 x3 x4 x5
  else bif spec_l15DrawState_a14 x0 x1 x2 x3 x4 x5 then spec_l15DrawState_a15 x0 x1 x2 x3 x4 x5 else spec_l15DrawState_a15 x0 x1 x2 x3 x4 x5

def spec_l15DrawState_2 (x0 : Int) (x1 : ByteArray) (x2 : Int) (x3 : Int) (x4 : Int) (x5 : List Int) : Int :=
  bif spec_l15DrawState_a8 x0 x1 x2 x3 x4 x5 then spec_l15DrawState_a17 x0 x1 x2 x3 x4 x5
  else
  bif spec_l15DrawState_a12 x0 x1 x2 x3 x4 x5 then spec_l15DrawState_a17 x0 x1 x2 x3 x4 x5
  else bif spec_l15DrawState_a14 x0 x1 x2 x3 x4 x5 then spec_l15DrawState_a16 x0 x1 x2 x3 x4 x5 else spec_l15DrawState_a17 x0 x1 x2 x3 x4 x5

def spec_l15DrawState_3 (x0 : Int) (x1 : ByteArray) (x2 : Int) (x3 : Int) (x4 : Int) (x5 : List Int) : Int :=
  bif spec_l15DrawState_a8 x0 x1 x2 x3 x4 x5 then
  pkA (spec_l15DrawState_a9 x0 x1 x2 x3 x4 x5) (spec_l15DrawState_a11 x0 x1 x2) (bif blockB x0 x1 x2 then x5 else x5)
  else
  bif spec_l15DrawState_a12 x0 x1 x2 x3 x4 x5 then spec_l15DrawState_a18 x0 x1 x2 x3 x4 x5
  else bif spec_l15DrawState_a14 x0 x1 x2 x3 x4 x5 then spec_l15DrawState_a18 x0 x1 x2 x3 x4 x5 else spec_l15DrawState_a9 x0 x1 x2 x3 x4 x5

def spec_l15DrawState_4 (x0 : Int) (x1 : ByteArray) (x2 : Int) (x3 : Int) (x4 : Int) (x5 : List Int) : Int :=
  bif spec_l15DrawState_a8 x0 x1 x2 x3 x4 x5 then
  pkS (spec_l15DrawState_a9 x0 x1 x2 x3 x4 x5) (spec_l15DrawState_a10 x0 x1 x2 x3 x4 x5) (spec_l15DrawState_a11 x0 x1 x2)
    (bif blockB x0 x1 x2 then x5 else x5)
  else
  bif spec_l15DrawState_a12 x0 x1 x2 x3 x4 x5 then spec_l15DrawState_a19 x0 x1 x2 x3 x4 x5
  else bif spec_l15DrawState_a14 x0 x1 x2 x3 x4 x5 then spec_l15DrawState_a19 x0 x1 x2 x3 x4 x5 else spec_l15DrawState_a10 x0 x1 x2 x3 x4 x5

def spec_l15DrawState_5 (x0 : Int) (x1 : ByteArray) (x2 : Int) (x3 : Int) (x4 : Int) (x5 : List Int) : Bool :=
  allT
  [leN (ByteArray.size x1) (9223372036854775807 : Nat), !blockB x0 x1 x2 || srcOk x3 x4 x5,
    !blockB x0 x1 x2 || Lp.fin lp_spec_l15DrawState_l0 (spec_l15DrawState_a0 x0 x1 x2 x3 x4 x5),
    srcOk (spec_l15DrawState_a5 x0 x1 x2 x3 x4 x5) (spec_l15DrawState_a6 x0 x1 x2 x3 x4 x5) (bif blockB x0 x1 x2 then x5 else x5),
    !spec_l15DrawState_a8 x0 x1 x2 x3 x4 x5 ||
      spec_l15DrawState_a20 x0 x1 x2 x3 x4 x5 && leN (1 : Nat) (List.length (spec_l15DrawState_a11 x0 x1 x2)),
    spec_l15DrawState_a8 x0 x1 x2 x3 x4 x5 || (!spec_l15DrawState_a12 x0 x1 x2 x3 x4 x5 || spec_l15DrawState_a21 x0 x1 x2 x3 x4 x5),
    spec_l15DrawState_a8 x0 x1 x2 x3 x4 x5 ||
      (spec_l15DrawState_a12 x0 x1 x2 x3 x4 x5 || (!spec_l15DrawState_a14 x0 x1 x2 x3 x4 x5 || spec_l15DrawState_a21 x0 x1 x2 x3 x4 x5))]

def F_spec_l15DrawState : List SV → List Entry → Option Out
  | [.one ⟨false, [.ptr 0 0]⟩, .one ⟨true, [.val (.int .i64 x0), .val (.string x1), .val (.int .i64 x2)]⟩], [.box 134 [.ref 1, .val (.int .i64 x3), .val (.int .i64 x4)], .row false 5 (.int .u8) x5] => some ⟨(.one ⟨true, [(.val (.int IntKind.i64 (spec_l15DrawState_0 x0 x1 x2 x3 x4 x5))), (.val (.int IntKind.i64 (spec_l15DrawState_1 x0 x1 x2 x3 x4 x5))), (.val (.int IntKind.i64 (spec_l15DrawState_2 x0 x1 x2 x3 x4 x5)))]⟩), [(.box 134 [(.ref 1), (.val (.int IntKind.i64 (spec_l15DrawState_3 x0 x1 x2 x3 x4 x5))), (.val (.int IntKind.i64 (spec_l15DrawState_4 x0 x1 x2 x3 x4 x5)))]), (.row false 5 (CTy.int IntKind.u8) x5)], [], [(spec_l15DrawState_5 x0 x1 x2 x3 x4 x5)]⟩
  | _, _ => none

def p_spec_l15DrawState : PF Tryd.prog := PF.ofG Tryd.prog [n_spec_IsBlock, p_spec_l15Step, PF.lend p_spec_l15Step, PF.fz p_spec_l15Step, n_spec_l01Next, PF.lend n_spec_l01Next, PF.fz n_spec_l01Next, p_spec_l15DrawArgs, PF.lend p_spec_l15DrawArgs, PF.fz p_spec_l15DrawArgs, n_spec_l01Pick, PF.lend n_spec_l01Pick, PF.fz n_spec_l01Pick] [lp_spec_l15DrawState_l0.F] hmix 69 Tryd.f69 Tryd.func69 (LOk.fnT (l := [loopAt Tryd.f69 0]) (by kernel_rfl) (.cons lpok_spec_l15DrawState_l0 (.nil _))) F_spec_l15DrawState (by
  intro vs es r h; unfold F_spec_l15DrawState at h; split at h
  · cases h; kernel_rfl
  · cases h)

def spec_DrawStepBlock_a0 (x0 : List Int) : Int :=
  spec_l15DrawState_3 (spec_l15DrawTerm_0 (0 : Int) (frS x0) x0) (spec_l15DrawTerm_1 (0 : Int) (frS x0) x0) (spec_l15DrawTerm_2 (0 : Int) (frS x0) x0)
  (spec_l15DrawTerm_3 (0 : Int) (frS x0) x0) (spec_l15DrawTerm_4 (0 : Int) (frS x0) x0) x0

def spec_DrawStepBlock_a1 (x0 : List Int) : Int :=
  spec_l15DrawArgs_0 (spec_l15DrawTerm_0 (0 : Int) (frS x0) x0) (spec_DrawStepBlock_a0 x0) x0

def spec_DrawStepBlock_a2 (x0 : List Int) : Int :=
  spec_l15DrawState_4 (spec_l15DrawTerm_0 (0 : Int) (frS x0) x0) (spec_l15DrawTerm_1 (0 : Int) (frS x0) x0) (spec_l15DrawTerm_2 (0 : Int) (frS x0) x0)
  (spec_l15DrawTerm_3 (0 : Int) (frS x0) x0) (spec_l15DrawTerm_4 (0 : Int) (frS x0) x0) x0

def spec_DrawStepBlock_a3 (x0 : List Int) : Int :=
  spec_l15DrawArgs_1 (spec_l15DrawTerm_0 (0 : Int) (frS x0) x0) (spec_DrawStepBlock_a0 x0) (spec_DrawStepBlock_a2 x0) x0

def spec_DrawStepBlock_a4 (x0 : List Int) : Bool :=
  nxV (24 : Int) (spec_DrawStepBlock_a1 x0) (spec_DrawStepBlock_a3 x0) x0 == (0 : Int)

def spec_DrawStepBlock_a5 (x0 : List Int) : Int :=
  spec_l15DrawState_0 (spec_l15DrawTerm_0 (0 : Int) (frS x0) x0) (spec_l15DrawTerm_1 (0 : Int) (frS x0) x0) (spec_l15DrawTerm_2 (0 : Int) (frS x0) x0)
  (spec_l15DrawTerm_3 (0 : Int) (frS x0) x0) (spec_l15DrawTerm_4 (0 : Int) (frS x0) x0) x0

def spec_DrawStepBlock_a6 (x0 : List Int) : Int :=
  spec_l15DrawState_1 (spec_l15DrawTerm_0 (0 : Int) (frS x0) x0) (spec_l15DrawTerm_1 (0 : Int) (frS x0) x0) (spec_l15DrawTerm_2 (0 : Int) (frS x0) x0)
  (spec_l15DrawTerm_3 (0 : Int) (frS x0) x0) (spec_l15DrawTerm_4 (0 : Int) (frS x0) x0) x0

def spec_DrawStepBlock_a7 (x0 : List Int) : Int :=
  spec_l15DrawState_2 (spec_l15DrawTerm_0 (0 : Int) (frS x0) x0) (spec_l15DrawTerm_1 (0 : Int) (frS x0) x0) (spec_l15DrawTerm_2 (0 : Int) (frS x0) x0)
  (spec_l15DrawTerm_3 (0 : Int) (frS x0) x0) (spec_l15DrawTerm_4 (0 : Int) (frS x0) x0) x0

def spec_DrawStepBlock_a8 (x0 : List Int) : List Int :=
  spec_l15DrawArgs_2 (spec_l15DrawTerm_0 (0 : Int) (frS x0) x0) (spec_DrawStepBlock_a0 x0) (spec_DrawStepBlock_a2 x0) x0

def spec_DrawStepBlock_a9 (x0 : List Int) : Bool :=
  nxV (24 : Int) (spec_DrawStepBlock_a1 x0) (spec_DrawStepBlock_a3 x0) x0 == (1 : Int)

def spec_DrawStepBlock_0 (x0 : List Int) : Int :=
  bif spec_DrawStepBlock_a4 x0 then spec_l15DrawTerm_0 (0 : Int) (frS x0) x0 else spec_l15DrawTerm_0 (0 : Int) (frS x0) x0

def spec_DrawStepBlock_1 (x0 : List Int) : ByteArray :=
  bif spec_DrawStepBlock_a4 x0 then spec_l15DrawTerm_1 (0 : Int) (frS x0) x0 else spec_l15DrawTerm_1 (0 : Int) (frS x0) x0

def spec_DrawStepBlock_2 (x0 : List Int) : Int :=
  bif spec_DrawStepBlock_a4 x0 then spec_l15DrawTerm_2 (0 : Int) (frS x0) x0 else spec_l15DrawTerm_2 (0 : Int) (frS x0) x0

def spec_DrawStepBlock_3 (x0 : List Int) : Int :=
  bif spec_DrawStepBlock_a4 x0 then spec_DrawStepBlock_a5 x0 else spec_DrawStepBlock_a5 x0

def spec_DrawStepBlock_4 (x0 : List Int) : Int :=
  bif spec_DrawStepBlock_a4 x0 then spec_DrawStepBlock_a6 x0 else spec_DrawStepBlock_a6 x0

def spec_DrawStepBlock_5 (x0 : List Int) : Int :=
  bif spec_DrawStepBlock_a4 x0 then spec_DrawStepBlock_a7 x0 else spec_DrawStepBlock_a7 x0

def spec_DrawStepBlock_6 (x0 : List Int) : List Int :=
  bif spec_DrawStepBlock_a4 x0 then spec_DrawStepBlock_a8 x0 ++ [(0 : Int)]
  else
  bif spec_DrawStepBlock_a9 x0 then
    List.set (spec_DrawStepBlock_a8 x0) (Int.toNat (0 : Int))
      (pkV (nxA (24 : Int) (spec_DrawStepBlock_a1 x0) x0) (nxS (24 : Int) (spec_DrawStepBlock_a1 x0) (spec_DrawStepBlock_a3 x0) x0)
        [(-1 : Int), (2 : Int)] x0)
  else spec_DrawStepBlock_a8 x0

def spec_DrawStepBlock_7 (x0 : List Int) : Bool :=
  allT
  [srcOk (0 : Int) (0 : Int) x0, spec_l15DrawTerm_5 (0 : Int) (frS x0) x0,
    spec_l15DrawState_5 (spec_l15DrawTerm_0 (0 : Int) (frS x0) x0) (spec_l15DrawTerm_1 (0 : Int) (frS x0) x0)
      (spec_l15DrawTerm_2 (0 : Int) (frS x0) x0) (spec_l15DrawTerm_3 (0 : Int) (frS x0) x0) (spec_l15DrawTerm_4 (0 : Int) (frS x0) x0) x0,
    spec_l15DrawArgs_3 (spec_l15DrawTerm_0 (0 : Int) (frS x0) x0) (spec_DrawStepBlock_a0 x0) (spec_DrawStepBlock_a2 x0) x0,
    srcOk (spec_DrawStepBlock_a1 x0) (spec_DrawStepBlock_a3 x0) x0,
    !spec_DrawStepBlock_a4 x0 || leN (List.length (spec_DrawStepBlock_a8 x0) + List.length [(0 : Int)]) (9223372036854775807 : Nat),
    !spec_DrawStepBlock_a4 x0 || leN ((List.length (spec_DrawStepBlock_a8 x0) + List.length [(0 : Int)]) * (8 : Nat)) (140737488355328 : Nat),
    spec_DrawStepBlock_a4 x0 ||
      (!spec_DrawStepBlock_a9 x0 ||
        srcOk (nxA (24 : Int) (spec_DrawStepBlock_a1 x0) x0) (nxS (24 : Int) (spec_DrawStepBlock_a1 x0) (spec_DrawStepBlock_a3 x0) x0) x0 &&
          leN (1 : Nat) (List.length [(-1 : Int), (2 : Int)])),
    spec_DrawStepBlock_a4 x0 || (!spec_DrawStepBlock_a9 x0 || leI (0 : Int) (0 : Int)),
    spec_DrawStepBlock_a4 x0 || (!spec_DrawStepBlock_a9 x0 || ltI (0 : Int) (↑(List.length (spec_DrawStepBlock_a8 x0)) : Int)),
    spec_DrawStepBlock_a4 x0 || (!spec_DrawStepBlock_a9 x0 || ltN (Int.toNat (0 : Int)) (List.length (spec_DrawStepBlock_a8 x0)))]

def F_spec_DrawStepBlock : List SV → List Entry → Option Out
  | [.one ⟨false, [.ref 0]⟩], [.row false 5 (.int .u8) x0] => some ⟨(.tup [⟨true, [(.val (.int IntKind.i64 (spec_DrawStepBlock_0 x0))), (.val (.string (spec_DrawStepBlock_1 x0))), (.val (.int IntKind.i64 (spec_DrawStepBlock_2 x0)))]⟩, ⟨true, [(.val (.int IntKind.i64 (spec_DrawStepBlock_3 x0))), (.val (.int IntKind.i64 (spec_DrawStepBlock_4 x0))), (.val (.int IntKind.i64 (spec_DrawStepBlock_5 x0)))]⟩, ⟨false, [(.ref 1)]⟩]), [(.row false 5 (CTy.int IntKind.u8) x0)], [(.row true 2 (CTy.int IntKind.i64) (spec_DrawStepBlock_6 x0))], [(spec_DrawStepBlock_7 x0)]⟩
  | _, _ => none

def p_spec_DrawStepBlock : PF Tryd.prog := PF.ofG Tryd.prog [n_spec_l01From, PF.lend n_spec_l01From, PF.fz n_spec_l01From, p_spec_l15DrawTerm, PF.lend p_spec_l15DrawTerm, PF.fz p_spec_l15DrawTerm, n_spec_l01Next, PF.lend n_spec_l01Next, PF.fz n_spec_l01Next, p_spec_l15DrawArgs, PF.lend p_spec_l15DrawArgs, PF.fz p_spec_l15DrawArgs, p_spec_l15DrawState, PF.lend p_spec_l15DrawState, PF.fz p_spec_l15DrawState, n_spec_l01Pick, PF.lend n_spec_l01Pick, PF.fz n_spec_l01Pick] [] hmix 28 Tryd.f28 Tryd.func28 (fun c _ => LOk.nil c) F_spec_DrawStepBlock (by
  intro vs es r h; unfold F_spec_DrawStepBlock at h; split at h
  · cases h; kernel_rfl
  · cases h)

def impl_arguments_q3704_0 (x0 : Int) : Int :=
  bif bif x0 == (1 : Int) then x0 == (1 : Int) else bif x0 == (2 : Int) then x0 == (2 : Int) else x0 == (3 : Int) then (0 : Int)
  else
  bif
      bif x0 == (4 : Int) then x0 == (4 : Int)
      else bif x0 == (7 : Int) then x0 == (7 : Int) else bif x0 == (8 : Int) then x0 == (8 : Int) else x0 == (9 : Int) then
    (1 : Int)
  else (2 : Int)

def F_impl_arguments_q3704 : List SV → List Entry → Option Out
  | [(.one ⟨false, [(.val (.int IntKind.i64 x0))]⟩)], [] => some ⟨(.one ⟨false, [(.val (.int IntKind.i64 (impl_arguments_q3704_0 x0)))]⟩), [], [], []⟩
  | _, _ => none

def p_impl_arguments_q3704 : PF Tryd.prog := PF.ofG Tryd.prog [] [] hmix 103 Tryd.f103 Tryd.func103 (fun c _ => LOk.nil c) F_impl_arguments_q3704 (by
  intro vs es r h; unfold F_impl_arguments_q3704 at h; split at h
  · cases h; kernel_rfl
  · cases h)

def impl_stepCode_1_q3703_0 (x0 : List Int) (x1 : Int) : Bool :=
  !bitsB (impl_arguments_q3704_0 x1) x0

def impl_stepCode_1_q3703_1 (x0 : List Int) : Bool :=
  allT [leN (List.length x0) (9223372036854775807 : Nat)]

def F_impl_stepCode_1_q3703 : List SV → List Entry → Option Out
  | [(.one ⟨false, [(.ref 0)]⟩), (.one ⟨false, [(.ptr 1 0)]⟩)], [(.row false 2 (CTy.int IntKind.i64) x0), (.box 31 [(.val (.int IntKind.i64 x1)), (.val (.string x2)), (.val (.int IntKind.i64 x3))])] => some ⟨(.one ⟨false, [(.val (.bool (impl_stepCode_1_q3703_0 x0 x1)))]⟩), [(.row false 2 (CTy.int IntKind.i64) x0), (.box 31 [(.val (.int IntKind.i64 x1)), (.val (.string x2)), (.val (.int IntKind.i64 x3))])], [], [(impl_stepCode_1_q3703_1 x0)]⟩
  | _, _ => none

def p_impl_stepCode_1_q3703 : PF Tryd.prog := PF.ofG Tryd.prog [n_impl_areBits, PF.lend n_impl_areBits, PF.fz n_impl_areBits, p_impl_arguments_q3704] [] hmix 101 Tryd.f101 Tryd.func101 (fun c _ => LOk.nil c) F_impl_stepCode_1_q3703 (by
  intro vs es r h; unfold F_impl_stepCode_1_q3703 at h; split at h
  · cases h; kernel_rfl
  · cases h)

abbrev X_slices_IndexFunc_int64_int64_q3702_l0 := Int × Int × Int × ByteArray × Int × List (List Int)

def slices_IndexFunc_int64_int64_q3702_l0_a0 (y0 : Int) (y5 : List (List Int)) : List Int :=
  Option.getD y5[Int.toNat y0]? (dflt (CTy.sl (2 : Nat) (CTy.int IntKind.i64)))

def slices_IndexFunc_int64_int64_q3702_l0_0 (y0 : Int) (y1 : Int) : Bool :=
  ltI y0 y1

def slices_IndexFunc_int64_int64_q3702_l0_1 (y0 : Int) : Bool :=
  leI (0 : Int) y0

def slices_IndexFunc_int64_int64_q3702_l0_2 (y0 : Int) (y5 : List (List Int)) : Bool :=
  ltI y0 (↑(List.length y5) : Int)

def slices_IndexFunc_int64_int64_q3702_l0_3 (y0 : Int) (y5 : List (List Int)) : Bool :=
  ltN (Int.toNat y0) (List.length y5)

def slices_IndexFunc_int64_int64_q3702_l0_4 (y0 : Int) (y5 : List (List Int)) : Bool :=
  impl_stepCode_1_q3703_1 (slices_IndexFunc_int64_int64_q3702_l0_a0 y0 y5)

def slices_IndexFunc_int64_int64_q3702_l0_5 (y0 : Int) (y2 : Int) (y5 : List (List Int)) : Bool :=
  impl_stepCode_1_q3703_0 (slices_IndexFunc_int64_int64_q3702_l0_a0 y0 y5) y2

def slices_IndexFunc_int64_int64_q3702_l0_6 (y0 : Int) : Int :=
  IntKind.wrap IntKind.i64 (y0 + (1 : Int))

def JL_slices_IndexFunc_int64_int64_q3702_l0 : X_slices_IndexFunc_int64_int64_q3702_l0 → List (Nat × SV)
  | (y0, y1, _, _, _, _) => [(8, (.one ⟨false, [(.val (.int IntKind.i64 y0))]⟩)), (7, (.one ⟨false, [(.val (.int IntKind.i64 y1))]⟩)), (1, (.one ⟨false, [(.clo 101 [0])]⟩)), (0, (.one ⟨false, [(.ref 1)]⟩))]

def JE_slices_IndexFunc_int64_int64_q3702_l0 : X_slices_IndexFunc_int64_int64_q3702_l0 → List (Nat × Entry)
  | (_, _, y2, y3, y4, y5) => [(0, (.box 31 [(.val (.int IntKind.i64 y2)), (.val (.string y3)), (.val (.int IntKind.i64 y4))])), (1, (.row true 26 (CTy.sl (2 : Nat) (CTy.int IntKind.i64)) y5))]

def XL_slices_IndexFunc_int64_int64_q3702_l0 : Nat → X_slices_IndexFunc_int64_int64_q3702_l0 → List (Nat × SV)
  | 0, (y0, _, _, _, _, _) => [(4, (.one ⟨false, [(.val (.int IntKind.i64 y0))]⟩))]
  | _, (_, _, _, _, _, _) => []

def XE_slices_IndexFunc_int64_int64_q3702_l0 : Nat → X_slices_IndexFunc_int64_int64_q3702_l0 → List (Nat × Entry)
  | 0, (_, _, y2, y3, y4, y5) => [(0, (.box 31 [(.val (.int IntKind.i64 y2)), (.val (.string y3)), (.val (.int IntKind.i64 y4))])), (1, (.row true 26 (CTy.sl (2 : Nat) (CTy.int IntKind.i64)) y5))]
  | _, (_, _, y2, y3, y4, y5) => [(0, (.box 31 [(.val (.int IntKind.i64 y2)), (.val (.string y3)), (.val (.int IntKind.i64 y4))])), (1, (.row true 26 (CTy.sl (2 : Nat) (CTy.int IntKind.i64)) y5))]

def lt_slices_IndexFunc_int64_int64_q3702_l0 : X_slices_IndexFunc_int64_int64_q3702_l0 → LT X_slices_IndexFunc_int64_int64_q3702_l0
  | (y0, y1, y2, y3, y4, y5) => .ite (slices_IndexFunc_int64_int64_q3702_l0_0 y0 y1) (.need [(slices_IndexFunc_int64_int64_q3702_l0_1 y0), (slices_IndexFunc_int64_int64_q3702_l0_2 y0 y5), (slices_IndexFunc_int64_int64_q3702_l0_3 y0 y5), (slices_IndexFunc_int64_int64_q3702_l0_4 y0 y5)] (.ite (slices_IndexFunc_int64_int64_q3702_l0_5 y0 y2 y5) (.ext 0 [(0, 0), (1, 1)]) (.nrm ((slices_IndexFunc_int64_int64_q3702_l0_6 y0), y1, y2, y3, y4, y5) [(0, 0), (1, 1)]))) (.ext 1 [(0, 0), (1, 1)])

def rd_slices_IndexFunc_int64_int64_q3702_l0 (s : St) : Option X_slices_IndexFunc_int64_int64_q3702_l0 :=
  (match s.look 8 with
  | some ⟨none, (.one ⟨false, [(.val (.int IntKind.i64 y0))]⟩)⟩ =>
  (match s.look 7 with
  | some ⟨none, (.one ⟨false, [(.val (.int IntKind.i64 y1))]⟩)⟩ =>
  (match s.look 1 with
  | some ⟨none, (.one ⟨false, [(.clo 101 [1])]⟩)⟩ =>
  (match s.look 0 with
  | some ⟨none, (.one ⟨false, [(.ref 0)]⟩)⟩ =>
  (match s.ent 1 with
  | some (.box 31 [(.val (.int IntKind.i64 y2)), (.val (.string y3)), (.val (.int IntKind.i64 y4))]) =>
  (match s.ent 0 with
  | some (.row true 26 (CTy.sl (2 : Nat) (CTy.int IntKind.i64)) y5) =>
  some (y0, y1, y2, y3, y4, y5)
  | _ => none)
  | _ => none)
  | _ => none)
  | _ => none)
  | _ => none)
  | _ => none)

def lp_slices_IndexFunc_int64_int64_q3702_l0 : Lp X_slices_IndexFunc_int64_int64_q3702_l0 where
  h := ⟨[9, 10, 5, 11, 12, 13, 14, 15, 16, 17, 4, 18, 8], [0, 1], [], []⟩
  JL := JL_slices_IndexFunc_int64_int64_q3702_l0
  JE := JE_slices_IndexFunc_int64_int64_q3702_l0
  XL := XL_slices_IndexFunc_int64_int64_q3702_l0
  XE := XE_slices_IndexFunc_int64_int64_q3702_l0
  q := fun j => match j with | 0 => .ret | _ => .exit 0
  tags := [0, 1]
  lt := lt_slices_IndexFunc_int64_int64_q3702_l0
  fuel := fun (y0, y1, y2, y3, y4, y5) => y0.natAbs + y1.natAbs + y2.natAbs + y3.size + y4.natAbs + y5.length
  fix := fun (_, y1, y2, y3, y4, y5) (y0, _, _, _, _, _) => (y0, y1, y2, y3, y4, y5)
  σ := [(0, 1), (1, 0)]
  rd := rd_slices_IndexFunc_int64_int64_q3702_l0

theorem lpok_slices_IndexFunc_int64_int64_q3702_l0 : LoopOk Tryd.prog (fun k => Nat.blt k Tryd.f125.ntmps) lp_slices_IndexFunc_int64_int64_q3702_l0.F (loopAt Tryd.f125 0) := by
  refine Lp.ok (tbl := [p_impl_stepCode_1_q3703, PF.lend p_impl_stepCode_1_q3703, PF.fz p_impl_stepCode_1_q3703]) (lf := []) hmix lp_slices_IndexFunc_int64_int64_q3702_l0 (by kernel_rfl) (LOk.nil _) (fun _ => rfl) (fun j _ => by unfold lp_slices_IndexFunc_int64_int64_q3702_l0; match j with | 0 => rfl | _ + 1 => rfl) ?_ ?_ ?_ ?_ (fun _ => rfl) ?_
  · intro x; obtain ⟨y0, y1, y2, y3, y4, y5⟩ := x; kernel_rfl
  · intro x; obtain ⟨y0, y1, y2, y3, y4, y5⟩ := x; kernel_rfl
  · intro s x h
    have h : rd_slices_IndexFunc_int64_int64_q3702_l0 s = some x := h
    unfold rd_slices_IndexFunc_int64_int64_q3702_l0 at h
    repeat' split at h
    all_goals cases h
    exact ⟨absS_cons (by assumption) rfl (absS_cons (by assumption) rfl (absS_cons (by assumption) rfl (absS_cons (by assumption) rfl (rfl)))), absE_cons rfl (by assumption) rfl (absE_cons rfl (by assumption) rfl (rfl))⟩
  · intro x; obtain ⟨y0, y1, y2, y3, y4, y5⟩ := x; kernel_rfl
  · intro x z; obtain ⟨y0, y1, y2, y3, y4, y5⟩ := x; exact (And.intro (And.intro trivial rfl) trivial)

def slices_IndexFunc_int64_int64_q3702_a0 (x0 : List (List Int)) (x1 : Int) (x2 : ByteArray) (x3 : Int) : Int × Int × Int × ByteArray × Int × List (List Int) :=
  ((0 : Int), (↑(List.length x0) : Int), x1, x2, x3, x0)

def slices_IndexFunc_int64_int64_q3702_a1 (x0 : List (List Int)) (x1 : Int) (x2 : ByteArray) (x3 : Int) : Bool :=
  Nat.beq (Prod.fst (Lp.res lp_slices_IndexFunc_int64_int64_q3702_l0 (slices_IndexFunc_int64_int64_q3702_a0 x0 x1 x2 x3))) (0 : Nat)

def slices_IndexFunc_int64_int64_q3702_0 (x0 : List (List Int)) (x1 : Int) (x2 : ByteArray) (x3 : Int) : Int :=
  bif slices_IndexFunc_int64_int64_q3702_a1 x0 x1 x2 x3 then
  Prod.fst (Prod.snd (Lp.res lp_slices_IndexFunc_int64_int64_q3702_l0 (slices_IndexFunc_int64_int64_q3702_a0 x0 x1 x2 x3)))
  else (-1 : Int)

def slices_IndexFunc_int64_int64_q3702_1 (x0 : List (List Int)) (x1 : Int) (x2 : ByteArray) (x3 : Int) : List (List Int) :=
  bif slices_IndexFunc_int64_int64_q3702_a1 x0 x1 x2 x3 then x0 else x0

def slices_IndexFunc_int64_int64_q3702_2 (x0 : List (List Int)) (x1 : Int) (x2 : ByteArray) (x3 : Int) : Int :=
  bif slices_IndexFunc_int64_int64_q3702_a1 x0 x1 x2 x3 then x1 else x1

def slices_IndexFunc_int64_int64_q3702_3 (x0 : List (List Int)) (x1 : Int) (x2 : ByteArray) (x3 : Int) : ByteArray :=
  bif slices_IndexFunc_int64_int64_q3702_a1 x0 x1 x2 x3 then x2 else x2

def slices_IndexFunc_int64_int64_q3702_4 (x0 : List (List Int)) (x1 : Int) (x2 : ByteArray) (x3 : Int) : Int :=
  bif slices_IndexFunc_int64_int64_q3702_a1 x0 x1 x2 x3 then x3 else x3

def slices_IndexFunc_int64_int64_q3702_5 (x0 : List (List Int)) (x1 : Int) (x2 : ByteArray) (x3 : Int) : Bool :=
  allT [Lp.fin lp_slices_IndexFunc_int64_int64_q3702_l0 (slices_IndexFunc_int64_int64_q3702_a0 x0 x1 x2 x3)]

def F_slices_IndexFunc_int64_int64_q3702 : List SV → List Entry → Option Out
  | [(.one ⟨false, [(.ref 0)]⟩), (.one ⟨false, [(.clo 101 [1])]⟩)], [(.row true 26 (CTy.sl (2 : Nat) (CTy.int IntKind.i64)) x0), (.box 31 [(.val (.int IntKind.i64 x1)), (.val (.string x2)), (.val (.int IntKind.i64 x3))])] => some ⟨(.one ⟨false, [(.val (.int IntKind.i64 (slices_IndexFunc_int64_int64_q3702_0 x0 x1 x2 x3)))]⟩), [(.row true 26 (CTy.sl (2 : Nat) (CTy.int IntKind.i64)) (slices_IndexFunc_int64_int64_q3702_1 x0 x1 x2 x3)), (.box 31 [(.val (.int IntKind.i64 (slices_IndexFunc_int64_int64_q3702_2 x0 x1 x2 x3))), (.val (.string (slices_IndexFunc_int64_int64_q3702_3 x0 x1 x2 x3))), (.val (.int IntKind.i64 (slices_IndexFunc_int64_int64_q3702_4 x0 x1 x2 x3)))])], [], [(slices_IndexFunc_int64_int64_q3702_5 x0 x1 x2 x3)]⟩
  | _, _ => none

def p_slices_IndexFunc_int64_int64_q3702 : PF Tryd.prog := PF.ofG Tryd.prog [p_impl_stepCode_1_q3703, PF.lend p_impl_stepCode_1_q3703, PF.fz p_impl_stepCode_1_q3703] [lp_slices_IndexFunc_int64_int64_q3702_l0.F] hmix 125 Tryd.f125 Tryd.func125 (LOk.fnT (l := [loopAt Tryd.f125 0]) (by kernel_rfl) (.cons lpok_slices_IndexFunc_int64_int64_q3702_l0 (.nil _))) F_slices_IndexFunc_int64_int64_q3702 (by
  intro vs es r h; unfold F_slices_IndexFunc_int64_int64_q3702 at h; split at h
  · cases h; kernel_rfl
  · cases h)

def slices_ContainsFunc_int64_int64_q3701_0 (x0 : List (List Int)) (x1 : Int) (x2 : ByteArray) (x3 : Int) : Bool :=
  leI (0 : Int) (slices_IndexFunc_int64_int64_q3702_0 x0 x1 x2 x3)

def slices_ContainsFunc_int64_int64_q3701_1 (x0 : List (List Int)) (x1 : Int) (x2 : ByteArray) (x3 : Int) : List (List Int) :=
  slices_IndexFunc_int64_int64_q3702_1 x0 x1 x2 x3

def slices_ContainsFunc_int64_int64_q3701_2 (x0 : List (List Int)) (x1 : Int) (x2 : ByteArray) (x3 : Int) : Int :=
  slices_IndexFunc_int64_int64_q3702_2 x0 x1 x2 x3

def slices_ContainsFunc_int64_int64_q3701_3 (x0 : List (List Int)) (x1 : Int) (x2 : ByteArray) (x3 : Int) : ByteArray :=
  slices_IndexFunc_int64_int64_q3702_3 x0 x1 x2 x3

def slices_ContainsFunc_int64_int64_q3701_4 (x0 : List (List Int)) (x1 : Int) (x2 : ByteArray) (x3 : Int) : Int :=
  slices_IndexFunc_int64_int64_q3702_4 x0 x1 x2 x3

def slices_ContainsFunc_int64_int64_q3701_5 (x0 : List (List Int)) (x1 : Int) (x2 : ByteArray) (x3 : Int) : Bool :=
  allT [slices_IndexFunc_int64_int64_q3702_5 x0 x1 x2 x3]

def F_slices_ContainsFunc_int64_int64_q3701 : List SV → List Entry → Option Out
  | [(.one ⟨false, [(.ref 0)]⟩), (.one ⟨false, [(.clo 101 [1])]⟩)], [(.row true 26 (CTy.sl (2 : Nat) (CTy.int IntKind.i64)) x0), (.box 31 [(.val (.int IntKind.i64 x1)), (.val (.string x2)), (.val (.int IntKind.i64 x3))])] => some ⟨(.one ⟨false, [(.val (.bool (slices_ContainsFunc_int64_int64_q3701_0 x0 x1 x2 x3)))]⟩), [(.row true 26 (CTy.sl (2 : Nat) (CTy.int IntKind.i64)) (slices_ContainsFunc_int64_int64_q3701_1 x0 x1 x2 x3)), (.box 31 [(.val (.int IntKind.i64 (slices_ContainsFunc_int64_int64_q3701_2 x0 x1 x2 x3))), (.val (.string (slices_ContainsFunc_int64_int64_q3701_3 x0 x1 x2 x3))), (.val (.int IntKind.i64 (slices_ContainsFunc_int64_int64_q3701_4 x0 x1 x2 x3)))])], [], [(slices_ContainsFunc_int64_int64_q3701_5 x0 x1 x2 x3)]⟩
  | _, _ => none

def p_slices_ContainsFunc_int64_int64_q3701 : PF Tryd.prog := PF.ofG Tryd.prog [p_slices_IndexFunc_int64_int64_q3702, PF.lend p_slices_IndexFunc_int64_int64_q3702, PF.fz p_slices_IndexFunc_int64_int64_q3702] [] hmix 100 Tryd.f100 Tryd.func100 (fun c _ => LOk.nil c) F_slices_ContainsFunc_int64_int64_q3701 (by
  intro vs es r h; unfold F_slices_ContainsFunc_int64_int64_q3701 at h; split at h
  · cases h; kernel_rfl
  · cases h)

def impl_stepCode_q3700_a0 (x0 : Int) (x2 : Int) (x3 : Int) (x4 : Int) (x5 : Int) : List (List Int) :=
  bif !!impl_isPossible_0 x0 x2 x3 x4 x5 && true then [] else []

def impl_stepCode_q3700_0 (x0 : Int) (x1 : ByteArray) (x2 : Int) (x3 : Int) (x4 : Int) (x5 : Int) : Int :=
  bif !blockB x0 x1 x2 then (1 : Int)
  else
  bif
      bif !impl_isPossible_0 x0 x2 x3 x4 x5 then true
      else slices_ContainsFunc_int64_int64_q3701_0 (impl_stepCode_q3700_a0 x0 x2 x3 x4 x5) x0 x1 x2 then
    (2 : Int)
  else (0 : Int)

def impl_stepCode_q3700_1 (x0 : Int) (x1 : ByteArray) (x2 : Int) (x3 : Int) (x4 : Int) (x5 : Int) : Bool :=
  allT
  [!blockB x0 x1 x2 ||
      (!(!!impl_isPossible_0 x0 x2 x3 x4 x5 && true) || slices_ContainsFunc_int64_int64_q3701_5 (impl_stepCode_q3700_a0 x0 x2 x3 x4 x5) x0 x1 x2)]

def F_impl_stepCode_q3700 : List SV → List Entry → Option Out
  | [(.one ⟨true, [(.val (.int IntKind.i64 x0)), (.val (.string x1)), (.val (.int IntKind.i64 x2))]⟩), (.one ⟨true, [(.val (.int IntKind.i64 x3)), (.val (.int IntKind.i64 x4)), (.val (.int IntKind.i64 x5))]⟩), (.one ⟨false, [(.val (.slice none 0 0))]⟩)], [] => some ⟨(.one ⟨false, [(.val (.int IntKind.i64 (impl_stepCode_q3700_0 x0 x1 x2 x3 x4 x5)))]⟩), [], [], [(impl_stepCode_q3700_1 x0 x1 x2 x3 x4 x5)]⟩
  | _, _ => none

def p_impl_stepCode_q3700 : PF Tryd.prog := PF.ofG Tryd.prog [n_impl_IsBlock, p_impl_isPossible, p_slices_ContainsFunc_int64_int64_q3701, PF.lend p_slices_ContainsFunc_int64_int64_q3701, PF.fz p_slices_ContainsFunc_int64_int64_q3701] [] hmix 57 Tryd.f57 Tryd.func57 (fun c _ => LOk.nil c) F_impl_stepCode_q3700 (by
  intro vs es r h; unfold F_impl_stepCode_q3700 at h; split at h
  · cases h; kernel_rfl
  · cases h)

def impl_IsFaulty_a0 (x0 : Int) (x1 : ByteArray) (x2 : Int) (x3 : Int) (x4 : Int) (x5 : Int) : Bool :=
  impl_stepCode_q3700_0 x0 x1 x2 x3 x4 x5 != (0 : Int)

def impl_IsFaulty_0 (x0 : Int) (x1 : ByteArray) (x2 : Int) (x3 : Int) (x4 : Int) (x5 : Int) : Bool :=
  bif impl_IsFaulty_a0 x0 x1 x2 x3 x4 x5 then false else x5 == (1 : Int)

def impl_IsFaulty_1 (x0 : Int) (x1 : ByteArray) (x2 : Int) (x3 : Int) (x4 : Int) (x5 : Int) : Int :=
  bif impl_IsFaulty_a0 x0 x1 x2 x3 x4 x5 then impl_stepCode_q3700_0 x0 x1 x2 x3 x4 x5 else (0 : Int)

def impl_IsFaulty_2 (x0 : Int) (x1 : ByteArray) (x2 : Int) (x3 : Int) (x4 : Int) (x5 : Int) : Bool :=
  allT [impl_stepCode_q3700_1 x0 x1 x2 x3 x4 x5]

def F_impl_IsFaulty : List SV → List Entry → Option Out
  | [.one ⟨true, [.val (.int .i64 x0), .val (.string x1), .val (.int .i64 x2)]⟩, .one ⟨true, [.val (.int .i64 x3), .val (.int .i64 x4), .val (.int .i64 x5)]⟩], [] => some ⟨(.tup [⟨false, [(.val (.bool (impl_IsFaulty_0 x0 x1 x2 x3 x4 x5)))]⟩, ⟨false, [(.val (.int IntKind.i64 (impl_IsFaulty_1 x0 x1 x2 x3 x4 x5)))]⟩]), [], [], [(impl_IsFaulty_2 x0 x1 x2 x3 x4 x5)]⟩
  | _, _ => none

def p_impl_IsFaulty : PF Tryd.prog := PF.ofG Tryd.prog [n_impl_stepCode, PF.lend n_impl_stepCode, PF.fz n_impl_stepCode, p_impl_stepCode_q3700] [] hmix 29 Tryd.f29 Tryd.func29 (fun c _ => LOk.nil c) F_impl_IsFaulty (by
  intro vs es r h; unfold F_impl_IsFaulty at h; split at h
  · cases h; kernel_rfl
  · cases h)

def spec_IsFaulty_0 (x0 : Int) (x1 : ByteArray) (x2 : Int) (x3 : Int) (x4 : Int) (x5 : Int) : Bool :=
  bif !blockB x0 x1 x2 then false else bif !spec_l15Possible_0 x0 x2 x3 x4 x5 then false else bif x0 == (12 : Int) then x5 == (1 : Int) else false

def spec_IsFaulty_1 (x0 : Int) (x1 : ByteArray) (x2 : Int) (x3 : Int) (x4 : Int) (x5 : Int) : Int :=
  bif !blockB x0 x1 x2 then (1 : Int) else bif !spec_l15Possible_0 x0 x2 x3 x4 x5 then (2 : Int) else (0 : Int)

def spec_IsFaulty_2 (x1 : ByteArray) : Bool :=
  allT [leN (ByteArray.size x1) (9223372036854775807 : Nat)]

def F_spec_IsFaulty : List SV → List Entry → Option Out
  | [.one ⟨true, [.val (.int .i64 x0), .val (.string x1), .val (.int .i64 x2)]⟩, .one ⟨true, [.val (.int .i64 x3), .val (.int .i64 x4), .val (.int .i64 x5)]⟩], [] => some ⟨(.tup [⟨false, [(.val (.bool (spec_IsFaulty_0 x0 x1 x2 x3 x4 x5)))]⟩, ⟨false, [(.val (.int IntKind.i64 (spec_IsFaulty_1 x0 x1 x2 x3 x4 x5)))]⟩]), [], [], [(spec_IsFaulty_2 x1)]⟩
  | _, _ => none

def p_spec_IsFaulty : PF Tryd.prog := PF.ofG Tryd.prog [n_spec_IsBlock, p_spec_l15Possible] [] hmix 30 Tryd.f30 Tryd.func30 (fun c _ => LOk.nil c) F_spec_IsFaulty (by
  intro vs es r h; unfold F_spec_IsFaulty at h; split at h
  · cases h; kernel_rfl
  · cases h)

end Go.SX

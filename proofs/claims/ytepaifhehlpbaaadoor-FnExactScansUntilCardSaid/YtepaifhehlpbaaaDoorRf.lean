/- What functions of the program come to, row by row (made by a program of the workplace). -/
import Derived.Test.YtepaifhehlpbaaaDoorTXh
import Derived.Test.YtepaifhehlpbaaaDoorProg
import Derived.Test.YtepaifhehlpbaaaDoorNe
namespace Go.SX
open Go.Proofs
set_option maxRecDepth 100000

abbrev X_spec_ScansUntil_l0 := Int × Int × ByteArray × Int × Int × Int × Int × List Int

def spec_ScansUntil_l0_0 (y0 : Int) : Bool :=
  leI y0 (10002 : Int)

def spec_ScansUntil_l0_1 (y7 : List Int) : Bool :=
  spec_l15Step_4 y7

def spec_ScansUntil_l0_2 (y1 : Int) (y3 : Int) (y4 : Int) (y5 : Int) (y6 : Int) (y7 : List Int) : Bool :=
  spec_l15Step_0 y1 y3 y4 y5 y6 y7 == (1 : Int)

def spec_ScansUntil_l0_3 (y0 : Int) : Int :=
  IntKind.wrap IntKind.i64 (y0 + (1 : Int))

def spec_ScansUntil_l0_4 (y1 : Int) (y3 : Int) (y4 : Int) (y5 : Int) (y6 : Int) (y7 : List Int) : Int :=
  spec_l15Step_1 y1 y3 y4 y5 y6 y7

def spec_ScansUntil_l0_5 (y1 : Int) (y5 : Int) (y6 : Int) (y7 : List Int) : Int :=
  spec_l15Step_2 y1 y5 y6 y7

def spec_ScansUntil_l0_6 (y1 : Int) (y3 : Int) (y4 : Int) (y6 : Int) (y7 : List Int) : Int :=
  spec_l15Step_3 y1 y3 y4 y6 y7

def JL_spec_ScansUntil_l0 : X_spec_ScansUntil_l0 → List (Nat × SV)
  | (y0, _, _, _, _, _, _, _) => [(9, (.one ⟨false, [(.val (.int IntKind.i64 y0))]⟩)), (3, (.one ⟨false, [(.ptr 0 0)]⟩)), (4, (.one ⟨false, [(.ptr 1 0)]⟩)), (2, (.one ⟨false, [(.ref 2)]⟩))]

def JE_spec_ScansUntil_l0 : X_spec_ScansUntil_l0 → List (Nat × Entry)
  | (_, y1, y2, y3, y4, y5, y6, y7) => [(0, (.box 31 [(.val (.int IntKind.i64 y1)), (.val (.string y2)), (.val (.int IntKind.i64 y3))])), (1, (.box 28 [(.val (.int IntKind.i64 y4)), (.val (.int IntKind.i64 y5)), (.val (.int IntKind.i64 y6))])), (2, (.row false 2 (CTy.int IntKind.i64) y7))]

def XL_spec_ScansUntil_l0 : Nat → X_spec_ScansUntil_l0 → List (Nat × SV)
  | 0, (y0, _, _, _, _, _, _, _) => [(6, (.one ⟨false, [(.val (.int IntKind.i64 y0))]⟩)), (7, (.one ⟨false, [(.val (.int IntKind.i64 (0 : Int)))]⟩))]
  | _, (_, _, _, _, _, _, _, _) => []

def XE_spec_ScansUntil_l0 : Nat → X_spec_ScansUntil_l0 → List (Nat × Entry)
  | 0, (_, y1, y2, y3, y4, y5, y6, y7) => [(0, (.box 31 [(.val (.int IntKind.i64 y1)), (.val (.string y2)), (.val (.int IntKind.i64 y3))])), (1, (.box 28 [(.val (.int IntKind.i64 y4)), (.val (.int IntKind.i64 y5)), (.val (.int IntKind.i64 y6))])), (2, (.row false 2 (CTy.int IntKind.i64) y7))]
  | _, (_, y1, y2, y3, y4, y5, y6, y7) => [(0, (.box 31 [(.val (.int IntKind.i64 y1)), (.val (.string y2)), (.val (.int IntKind.i64 y3))])), (1, (.box 28 [(.val (.int IntKind.i64 y4)), (.val (.int IntKind.i64 y5)), (.val (.int IntKind.i64 y6))])), (2, (.row false 2 (CTy.int IntKind.i64) y7))]

def lt_spec_ScansUntil_l0 : X_spec_ScansUntil_l0 → LT X_spec_ScansUntil_l0
  | (y0, y1, y2, y3, y4, y5, y6, y7) => .ite (spec_ScansUntil_l0_0 y0) (.need [(spec_ScansUntil_l0_1 y7)] (.ite (spec_ScansUntil_l0_2 y1 y3 y4 y5 y6 y7) (.ext 0 [(0, 0), (1, 1), (2, 2)]) (.nrm ((spec_ScansUntil_l0_3 y0), y1, y2, y3, (spec_ScansUntil_l0_4 y1 y3 y4 y5 y6 y7), (spec_ScansUntil_l0_5 y1 y5 y6 y7), (spec_ScansUntil_l0_6 y1 y3 y4 y6 y7), y7) [(0, 0), (1, 1), (2, 2)]))) (.ext 1 [(0, 0), (1, 1), (2, 2)])

def rd_spec_ScansUntil_l0 (s : St) : Option X_spec_ScansUntil_l0 :=
  (match s.look 9 with
  | some ⟨none, (.one ⟨false, [(.val (.int IntKind.i64 y0))]⟩)⟩ =>
  (match s.look 3 with
  | some ⟨none, (.one ⟨false, [(.ptr 128 0)]⟩)⟩ =>
  (match s.look 4 with
  | some ⟨none, (.one ⟨false, [(.ptr 192 0)]⟩)⟩ =>
  (match s.look 2 with
  | some ⟨none, (.one ⟨false, [(.ref 0)]⟩)⟩ =>
  (match s.ent 128 with
  | some (.box 31 [(.val (.int IntKind.i64 y1)), (.val (.string y2)), (.val (.int IntKind.i64 y3))]) =>
  (match s.ent 192 with
  | some (.box 28 [(.val (.int IntKind.i64 y4)), (.val (.int IntKind.i64 y5)), (.val (.int IntKind.i64 y6))]) =>
  (match s.ent 0 with
  | some (.row false 2 (CTy.int IntKind.i64) y7) =>
  some (y0, y1, y2, y3, y4, y5, y6, y7)
  | _ => none)
  | _ => none)
  | _ => none)
  | _ => none)
  | _ => none)
  | _ => none)
  | _ => none)

def lp_spec_ScansUntil_l0 : Lp X_spec_ScansUntil_l0 where
  h := ⟨[19, 20, 24, 25, 26, 27, 23, 28, 29, 11, 10, 30, 31, 32, 6, 7, 33, 21, 22, 9], [0, 1, 2], [], []⟩
  JL := JL_spec_ScansUntil_l0
  JE := JE_spec_ScansUntil_l0
  XL := XL_spec_ScansUntil_l0
  XE := XE_spec_ScansUntil_l0
  q := fun j => match j with | 0 => .ret | _ => .exit 0
  tags := [0, 1]
  lt := lt_spec_ScansUntil_l0
  fuel := fun (y0, y1, y2, y3, y4, y5, y6, y7) => y0.natAbs + y1.natAbs + y2.size + y3.natAbs + y4.natAbs + y5.natAbs + y6.natAbs + y7.length
  fix := fun (_, y1, y2, y3, _, _, _, y7) (y0, _, _, _, y4, y5, y6, _) => (y0, y1, y2, y3, y4, y5, y6, y7)
  σ := [(0, 128), (1, 192), (2, 0)]
  rd := rd_spec_ScansUntil_l0

theorem lpok_spec_ScansUntil_l0 : LoopOk Tryd.prog (fun k => Nat.blt k Tryd.f18.ntmps) lp_spec_ScansUntil_l0.F (loopAt Tryd.f18 0) := by
  refine Lp.ok (tbl := [n_spec_l15Code, PF.lend n_spec_l15Code, PF.fz n_spec_l15Code, p_spec_l15Step, PF.lend p_spec_l15Step, PF.fz p_spec_l15Step]) (lf := []) hmix lp_spec_ScansUntil_l0 (by kernel_rfl) (LOk.nil _) (fun _ => rfl) (fun j _ => by unfold lp_spec_ScansUntil_l0; match j with | 0 => rfl | _ + 1 => rfl) ?_ ?_ ?_ ?_ (fun _ => rfl) ?_
  · intro x; obtain ⟨y0, y1, y2, y3, y4, y5, y6, y7⟩ := x; kernel_rfl
  · intro x; obtain ⟨y0, y1, y2, y3, y4, y5, y6, y7⟩ := x; kernel_rfl
  · intro s x h
    have h : rd_spec_ScansUntil_l0 s = some x := h
    unfold rd_spec_ScansUntil_l0 at h
    repeat' split at h
    all_goals cases h
    exact ⟨absS_cons (by assumption) rfl (absS_cons (by assumption) rfl (absS_cons (by assumption) rfl (absS_cons (by assumption) rfl (rfl)))), absE_cons rfl (by assumption) rfl (absE_cons rfl (by assumption) rfl (absE_cons rfl (by assumption) rfl (rfl)))⟩
  · intro x; obtain ⟨y0, y1, y2, y3, y4, y5, y6, y7⟩ := x; kernel_rfl
  · intro x z; obtain ⟨y0, y1, y2, y3, y4, y5, y6, y7⟩ := x; exact (And.intro (And.intro trivial rfl) trivial)

def spec_ScansUntil_a0 (x0 : Int) (x1 : ByteArray) (x2 : Int) (x3 : Int) (x4 : Int) (x5 : Int) (x6 : List Int) : Int :=
  codeV x0 x1 x2 x3 x4 x5 [x6]

def spec_ScansUntil_a1 (x0 : Int) (x1 : ByteArray) (x2 : Int) (x3 : Int) (x4 : Int) (x5 : Int) (x6 : List Int) : Bool :=
  spec_ScansUntil_a0 x0 x1 x2 x3 x4 x5 x6 != (0 : Int)

def spec_ScansUntil_a2 (x0 : Int) (x1 : ByteArray) (x2 : Int) (x3 : Int) (x4 : Int) (x5 : Int) (x6 : List Int) : Int × Int × ByteArray × Int × Int × Int × Int × List Int :=
  ((1 : Int), x0, x1, x2, x3, x4, x5, x6)

def spec_ScansUntil_a3 (x0 : Int) (x1 : ByteArray) (x2 : Int) (x3 : Int) (x4 : Int) (x5 : Int) (x6 : List Int) : Bool :=
  Nat.beq (Prod.fst (Lp.res lp_spec_ScansUntil_l0 (spec_ScansUntil_a2 x0 x1 x2 x3 x4 x5 x6))) (0 : Nat)

def spec_ScansUntil_0 (x0 : Int) (x1 : ByteArray) (x2 : Int) (x3 : Int) (x4 : Int) (x5 : Int) (x6 : List Int) : Int :=
  bif spec_ScansUntil_a1 x0 x1 x2 x3 x4 x5 x6 then (0 : Int)
  else
  bif spec_ScansUntil_a3 x0 x1 x2 x3 x4 x5 x6 then Prod.fst (Prod.snd (Lp.res lp_spec_ScansUntil_l0 (spec_ScansUntil_a2 x0 x1 x2 x3 x4 x5 x6)))
  else (0 : Int)

def spec_ScansUntil_1 (x0 : Int) (x1 : ByteArray) (x2 : Int) (x3 : Int) (x4 : Int) (x5 : Int) (x6 : List Int) : Int :=
  bif spec_ScansUntil_a1 x0 x1 x2 x3 x4 x5 x6 then spec_ScansUntil_a0 x0 x1 x2 x3 x4 x5 x6
  else bif spec_ScansUntil_a3 x0 x1 x2 x3 x4 x5 x6 then (0 : Int) else (4 : Int)

def spec_ScansUntil_2 (x0 : Int) (x1 : ByteArray) (x2 : Int) (x3 : Int) (x4 : Int) (x5 : Int) (x6 : List Int) : Bool :=
  allT
  [leN (ByteArray.size x1) (9223372036854775807 : Nat) && leN (List.length x6) (9223372036854775807 : Nat),
    spec_ScansUntil_a1 x0 x1 x2 x3 x4 x5 x6 || Lp.fin lp_spec_ScansUntil_l0 (spec_ScansUntil_a2 x0 x1 x2 x3 x4 x5 x6)]

def F_spec_ScansUntil : List SV → List Entry → Option Out
  | [.one ⟨true, [.val (.int .i64 x0), .val (.string x1), .val (.int .i64 x2)]⟩, .one ⟨true, [.val (.int .i64 x3), .val (.int .i64 x4), .val (.int .i64 x5)]⟩, .one ⟨false, [.ref 0]⟩], [.row false 2 (.int .i64) x6] => some ⟨(.tup [⟨false, [(.val (.int IntKind.i64 (spec_ScansUntil_0 x0 x1 x2 x3 x4 x5 x6)))]⟩, ⟨false, [(.val (.int IntKind.i64 (spec_ScansUntil_1 x0 x1 x2 x3 x4 x5 x6)))]⟩]), [(.row false 2 (CTy.int IntKind.i64) x6)], [], [(spec_ScansUntil_2 x0 x1 x2 x3 x4 x5 x6)]⟩
  | _, _ => none

def p_spec_ScansUntil : PF Tryd.prog := PF.ofG Tryd.prog [n_spec_l15Code, PF.lend n_spec_l15Code, PF.fz n_spec_l15Code, p_spec_l15Step, PF.lend p_spec_l15Step, PF.fz p_spec_l15Step] [lp_spec_ScansUntil_l0.F] hmix 18 Tryd.f18 Tryd.func18 (LOk.fnT (l := [loopAt Tryd.f18 0]) (by kernel_rfl) (.cons lpok_spec_ScansUntil_l0 (.nil _))) F_spec_ScansUntil (by
  intro vs es r h; unfold F_spec_ScansUntil at h; split at h
  · cases h; kernel_rfl
  · cases h)

abbrev X_impl_ScansUntil_l0 := Int × Int × ByteArray × Int × Int × Int × Int × List Int

def impl_ScansUntil_l0_0 (y7 : List Int) : Bool :=
  impl_step_4 y7

def impl_ScansUntil_l0_1 (y1 : Int) (y3 : Int) (y4 : Int) (y5 : Int) (y6 : Int) (y7 : List Int) : Bool :=
  impl_step_0 y1 y3 y4 y5 y6 y7 == (1 : Int)

def impl_ScansUntil_l0_2 (y1 : Int) (y3 : Int) (y4 : Int) (y5 : Int) (y6 : Int) (y7 : List Int) : Bool :=
  bif impl_step_1 y1 y3 y4 y5 y6 y7 == y4 then
  bif impl_step_2 y1 y5 y6 y7 == y5 then bif impl_step_3 y1 y3 y4 y5 y6 y7 == y6 then true else false else false
  else false

def impl_ScansUntil_l0_3 (y0 : Int) : Int :=
  IntKind.wrap IntKind.i64 (y0 + (1 : Int))

def impl_ScansUntil_l0_4 (y1 : Int) (y3 : Int) (y4 : Int) (y5 : Int) (y6 : Int) (y7 : List Int) : Int :=
  impl_step_1 y1 y3 y4 y5 y6 y7

def impl_ScansUntil_l0_5 (y1 : Int) (y5 : Int) (y6 : Int) (y7 : List Int) : Int :=
  impl_step_2 y1 y5 y6 y7

def impl_ScansUntil_l0_6 (y1 : Int) (y3 : Int) (y4 : Int) (y5 : Int) (y6 : Int) (y7 : List Int) : Int :=
  impl_step_3 y1 y3 y4 y5 y6 y7

def JL_impl_ScansUntil_l0 : X_impl_ScansUntil_l0 → List (Nat × SV)
  | (y0, _, _, _, _, _, _, _) => [(3, (.one ⟨false, [(.ptr 0 0)]⟩)), (4, (.one ⟨false, [(.ptr 1 0)]⟩)), (2, (.one ⟨false, [(.ref 2)]⟩)), (9, (.one ⟨false, [(.val (.int IntKind.i64 y0))]⟩))]

def JE_impl_ScansUntil_l0 : X_impl_ScansUntil_l0 → List (Nat × Entry)
  | (_, y1, y2, y3, y4, y5, y6, y7) => [(0, (.box 31 [(.val (.int IntKind.i64 y1)), (.val (.string y2)), (.val (.int IntKind.i64 y3))])), (1, (.box 28 [(.val (.int IntKind.i64 y4)), (.val (.int IntKind.i64 y5)), (.val (.int IntKind.i64 y6))])), (2, (.row false 2 (CTy.int IntKind.i64) y7))]

def XL_impl_ScansUntil_l0 : Nat → X_impl_ScansUntil_l0 → List (Nat × SV)
  | 0, (y0, _, _, _, _, _, _, _) => [(6, (.one ⟨false, [(.val (.int IntKind.i64 y0))]⟩)), (7, (.one ⟨false, [(.val (.int IntKind.i64 (0 : Int)))]⟩))]
  | _, (_, _, _, _, _, _, _, _) => [(6, (.one ⟨false, [(.val (.int IntKind.i64 (0 : Int)))]⟩)), (7, (.one ⟨false, [(.val (.int IntKind.i64 (4 : Int)))]⟩))]

def XE_impl_ScansUntil_l0 : Nat → X_impl_ScansUntil_l0 → List (Nat × Entry)
  | 0, (_, y1, y2, y3, y4, y5, y6, y7) => [(0, (.box 31 [(.val (.int IntKind.i64 y1)), (.val (.string y2)), (.val (.int IntKind.i64 y3))])), (1, (.box 28 [(.val (.int IntKind.i64 y4)), (.val (.int IntKind.i64 y5)), (.val (.int IntKind.i64 y6))])), (2, (.row false 2 (CTy.int IntKind.i64) y7))]
  | _, (_, y1, y2, y3, y4, y5, y6, y7) => [(0, (.box 31 [(.val (.int IntKind.i64 y1)), (.val (.string y2)), (.val (.int IntKind.i64 y3))])), (1, (.box 28 [(.val (.int IntKind.i64 y4)), (.val (.int IntKind.i64 y5)), (.val (.int IntKind.i64 y6))])), (2, (.row false 2 (CTy.int IntKind.i64) y7))]

def lt_impl_ScansUntil_l0 : X_impl_ScansUntil_l0 → LT X_impl_ScansUntil_l0
  | (y0, y1, y2, y3, y4, y5, y6, y7) => .need [(impl_ScansUntil_l0_0 y7)] (.ite (impl_ScansUntil_l0_1 y1 y3 y4 y5 y6 y7) (.ext 0 [(0, 0), (1, 1), (2, 2)]) (.ite (impl_ScansUntil_l0_2 y1 y3 y4 y5 y6 y7) (.ext 1 [(0, 0), (1, 1), (2, 2)]) (.nrm ((impl_ScansUntil_l0_3 y0), y1, y2, y3, (impl_ScansUntil_l0_4 y1 y3 y4 y5 y6 y7), (impl_ScansUntil_l0_5 y1 y5 y6 y7), (impl_ScansUntil_l0_6 y1 y3 y4 y5 y6 y7), y7) [(0, 0), (1, 1), (2, 2)])))

def rd_impl_ScansUntil_l0 (s : St) : Option X_impl_ScansUntil_l0 :=
  (match s.look 3 with
  | some ⟨none, (.one ⟨false, [(.ptr 128 0)]⟩)⟩ =>
  (match s.look 4 with
  | some ⟨none, (.one ⟨false, [(.ptr 192 0)]⟩)⟩ =>
  (match s.look 2 with
  | some ⟨none, (.one ⟨false, [(.ref 0)]⟩)⟩ =>
  (match s.look 9 with
  | some ⟨none, (.one ⟨false, [(.val (.int IntKind.i64 y0))]⟩)⟩ =>
  (match s.ent 128 with
  | some (.box 31 [(.val (.int IntKind.i64 y1)), (.val (.string y2)), (.val (.int IntKind.i64 y3))]) =>
  (match s.ent 192 with
  | some (.box 28 [(.val (.int IntKind.i64 y4)), (.val (.int IntKind.i64 y5)), (.val (.int IntKind.i64 y6))]) =>
  (match s.ent 0 with
  | some (.row false 2 (CTy.int IntKind.i64) y7) =>
  some (y0, y1, y2, y3, y4, y5, y6, y7)
  | _ => none)
  | _ => none)
  | _ => none)
  | _ => none)
  | _ => none)
  | _ => none)
  | _ => none)

def lp_impl_ScansUntil_l0 : Lp X_impl_ScansUntil_l0 where
  h := ⟨[23, 24, 25, 26, 22, 27, 28, 11, 10, 30, 31, 29, 32, 6, 7, 34, 35, 36, 33, 37, 20, 21, 9], [0, 1, 2], [], []⟩
  JL := JL_impl_ScansUntil_l0
  JE := JE_impl_ScansUntil_l0
  XL := XL_impl_ScansUntil_l0
  XE := XE_impl_ScansUntil_l0
  q := fun j => match j with | 0 => .ret | _ => .ret
  tags := [0, 1]
  lt := lt_impl_ScansUntil_l0
  fuel := fun (y0, y1, y2, y3, y4, y5, y6, y7) => y0.natAbs + y1.natAbs + y2.size + y3.natAbs + y4.natAbs + y5.natAbs + y6.natAbs + y7.length
  fix := fun (_, y1, y2, y3, _, _, _, y7) (y0, _, _, _, y4, y5, y6, _) => (y0, y1, y2, y3, y4, y5, y6, y7)
  σ := [(0, 128), (1, 192), (2, 0)]
  rd := rd_impl_ScansUntil_l0

theorem lpok_impl_ScansUntil_l0 : LoopOk Tryd.prog (fun k => Nat.blt k Tryd.f19.ntmps) lp_impl_ScansUntil_l0.F (loopAt Tryd.f19 0) := by
  refine Lp.ok (tbl := [n_impl_stepCode, PF.lend n_impl_stepCode, PF.fz n_impl_stepCode, p_impl_step, PF.lend p_impl_step, PF.fz p_impl_step]) (lf := []) hmix lp_impl_ScansUntil_l0 (by kernel_rfl) (LOk.nil _) (fun _ => rfl) (fun j _ => by unfold lp_impl_ScansUntil_l0; match j with | 0 => rfl | _ + 1 => rfl) ?_ ?_ ?_ ?_ (fun _ => rfl) ?_
  · intro x; obtain ⟨y0, y1, y2, y3, y4, y5, y6, y7⟩ := x; kernel_rfl
  · intro x; obtain ⟨y0, y1, y2, y3, y4, y5, y6, y7⟩ := x; kernel_rfl
  · intro s x h
    have h : rd_impl_ScansUntil_l0 s = some x := h
    unfold rd_impl_ScansUntil_l0 at h
    repeat' split at h
    all_goals cases h
    exact ⟨absS_cons (by assumption) rfl (absS_cons (by assumption) rfl (absS_cons (by assumption) rfl (absS_cons (by assumption) rfl (rfl)))), absE_cons rfl (by assumption) rfl (absE_cons rfl (by assumption) rfl (absE_cons rfl (by assumption) rfl (rfl)))⟩
  · intro x; obtain ⟨y0, y1, y2, y3, y4, y5, y6, y7⟩ := x; kernel_rfl
  · intro x z; obtain ⟨y0, y1, y2, y3, y4, y5, y6, y7⟩ := x; exact (And.intro trivial (And.intro trivial rfl))

def impl_ScansUntil_a0 (x0 : Int) (x1 : ByteArray) (x2 : Int) (x3 : Int) (x4 : Int) (x5 : Int) (x6 : List Int) : Int :=
  codeV x0 x1 x2 x3 x4 x5 [x6]

def impl_ScansUntil_a1 (x0 : Int) (x1 : ByteArray) (x2 : Int) (x3 : Int) (x4 : Int) (x5 : Int) (x6 : List Int) : Bool :=
  impl_ScansUntil_a0 x0 x1 x2 x3 x4 x5 x6 != (0 : Int)

def impl_ScansUntil_a2 (x0 : Int) (x1 : ByteArray) (x2 : Int) (x3 : Int) (x4 : Int) (x5 : Int) (x6 : List Int) : Int × Int × ByteArray × Int × Int × Int × Int × List Int :=
  ((1 : Int), x0, x1, x2, x3, x4, x5, x6)

def impl_ScansUntil_a3 (x0 : Int) (x1 : ByteArray) (x2 : Int) (x3 : Int) (x4 : Int) (x5 : Int) (x6 : List Int) : Bool :=
  Nat.beq (Prod.fst (Lp.res lp_impl_ScansUntil_l0 (impl_ScansUntil_a2 x0 x1 x2 x3 x4 x5 x6))) (0 : Nat)

def impl_ScansUntil_0 (x0 : Int) (x1 : ByteArray) (x2 : Int) (x3 : Int) (x4 : Int) (x5 : Int) (x6 : List Int) : Int :=
  bif impl_ScansUntil_a1 x0 x1 x2 x3 x4 x5 x6 then (0 : Int)
  else
  bif impl_ScansUntil_a3 x0 x1 x2 x3 x4 x5 x6 then Prod.fst (Prod.snd (Lp.res lp_impl_ScansUntil_l0 (impl_ScansUntil_a2 x0 x1 x2 x3 x4 x5 x6)))
  else (0 : Int)

def impl_ScansUntil_1 (x0 : Int) (x1 : ByteArray) (x2 : Int) (x3 : Int) (x4 : Int) (x5 : Int) (x6 : List Int) : Int :=
  bif impl_ScansUntil_a1 x0 x1 x2 x3 x4 x5 x6 then impl_ScansUntil_a0 x0 x1 x2 x3 x4 x5 x6
  else bif impl_ScansUntil_a3 x0 x1 x2 x3 x4 x5 x6 then (0 : Int) else (4 : Int)

def impl_ScansUntil_2 (x0 : Int) (x1 : ByteArray) (x2 : Int) (x3 : Int) (x4 : Int) (x5 : Int) (x6 : List Int) : Bool :=
  allT
  [ssOk (9223372036854775807 : Nat) [x6],
    impl_ScansUntil_a1 x0 x1 x2 x3 x4 x5 x6 || Lp.fin lp_impl_ScansUntil_l0 (impl_ScansUntil_a2 x0 x1 x2 x3 x4 x5 x6)]

def F_impl_ScansUntil : List SV → List Entry → Option Out
  | [.one ⟨true, [.val (.int .i64 x0), .val (.string x1), .val (.int .i64 x2)]⟩, .one ⟨true, [.val (.int .i64 x3), .val (.int .i64 x4), .val (.int .i64 x5)]⟩, .one ⟨false, [.ref 0]⟩], [.row false 2 (.int .i64) x6] => some ⟨(.tup [⟨false, [(.val (.int IntKind.i64 (impl_ScansUntil_0 x0 x1 x2 x3 x4 x5 x6)))]⟩, ⟨false, [(.val (.int IntKind.i64 (impl_ScansUntil_1 x0 x1 x2 x3 x4 x5 x6)))]⟩]), [(.row false 2 (CTy.int IntKind.i64) x6)], [], [(impl_ScansUntil_2 x0 x1 x2 x3 x4 x5 x6)]⟩
  | _, _ => none

def p_impl_ScansUntil : PF Tryd.prog := PF.ofG Tryd.prog [n_impl_stepCode, PF.lend n_impl_stepCode, PF.fz n_impl_stepCode, p_impl_step, PF.lend p_impl_step, PF.fz p_impl_step] [lp_impl_ScansUntil_l0.F] hmix 19 Tryd.f19 Tryd.func19 (LOk.fnT (l := [loopAt Tryd.f19 0]) (by kernel_rfl) (.cons lpok_impl_ScansUntil_l0 (.nil _))) F_impl_ScansUntil (by
  intro vs es r h; unfold F_impl_ScansUntil at h; split at h
  · cases h; kernel_rfl
  · cases h)

end Go.SX

/- What functions of the program come to, row by row (made by a program of the workplace). -/
import Derived.Test.YtofbpbijfhfnoaaTXf
import Derived.Test.YtofbpbijfhfnoaaProg
import Derived.Test.YtofbpbijfhfnoaaRa
namespace Go.SX
open Go.Proofs
set_option maxRecDepth 100000


abbrev X_spec_TicksToActive_l0 := Int × Int × Int × Int × Int

def spec_TicksToActive_l0_0 (y0 : Int) (y1 : Int) (y3 : Int) : Bool :=
  bif spec_l31Active_0 y1 y3 == (0 : Int) then decide (y0 ≤ (6 : Int)) else false

def spec_TicksToActive_l0_1 (y0 : Int) : Int :=
  IntKind.wrap IntKind.i64 (y0 + (1 : Int))

def spec_TicksToActive_l0_2 (y1 : Int) (y2 : Int) (y3 : Int) (y4 : Int) : Int :=
  spec_l31Step_0 y1 y2 y3 y4 (0 : Int) (0 : Int) false

def spec_TicksToActive_l0_3 (y1 : Int) (y2 : Int) (y3 : Int) : Int :=
  spec_l31Step_1 y1 y2 y3 (0 : Int) (0 : Int) false

def spec_TicksToActive_l0_4 (y1 : Int) (y2 : Int) (y3 : Int) (y4 : Int) : Int :=
  spec_l31Step_2 y1 y2 y3 y4 (0 : Int) (0 : Int) false

def spec_TicksToActive_l0_5 (y1 : Int) (y3 : Int) (y4 : Int) : Int :=
  spec_l31Step_3 y1 y3 y4 (0 : Int) (0 : Int) false

def JL_spec_TicksToActive_l0 : X_spec_TicksToActive_l0 → List (Nat × SV)
  | (y0, _, _, _, _) => [(1, (.one ⟨false, [(.ptr 0 0)]⟩)), (4, (.one ⟨false, [(.val (.int IntKind.i64 y0))]⟩))]

def JE_spec_TicksToActive_l0 : X_spec_TicksToActive_l0 → List (Nat × Entry)
  | (_, y1, y2, y3, y4) => [(0, (.box 30 [(.val (.int IntKind.i64 y1)), (.val (.int IntKind.i64 y2)), (.val (.int IntKind.i64 y3)), (.val (.int IntKind.i64 y4))]))]

def XL_spec_TicksToActive_l0 : Nat → X_spec_TicksToActive_l0 → List (Nat × SV)
  | _, (y0, _, _, _, _) => [(4, (.one ⟨false, [(.val (.int IntKind.i64 y0))]⟩))]

def XE_spec_TicksToActive_l0 : Nat → X_spec_TicksToActive_l0 → List (Nat × Entry)
  | _, (_, y1, y2, y3, y4) => [(0, (.box 30 [(.val (.int IntKind.i64 y1)), (.val (.int IntKind.i64 y2)), (.val (.int IntKind.i64 y3)), (.val (.int IntKind.i64 y4))]))]

def lt_spec_TicksToActive_l0 : X_spec_TicksToActive_l0 → LT X_spec_TicksToActive_l0
  | (y0, y1, y2, y3, y4) => .ite (spec_TicksToActive_l0_0 y0 y1 y3) (.nrm ((spec_TicksToActive_l0_1 y0), (spec_TicksToActive_l0_2 y1 y2 y3 y4), (spec_TicksToActive_l0_3 y1 y2 y3), (spec_TicksToActive_l0_4 y1 y2 y3 y4), (spec_TicksToActive_l0_5 y1 y3 y4)) [(0, 0)]) (.ext 0 [(0, 0)])

def rd_spec_TicksToActive_l0 (s : St) : Option X_spec_TicksToActive_l0 :=
  (match s.look 1 with
  | some ⟨none, (.one ⟨false, [(.ptr 64 0)]⟩)⟩ =>
  (match s.look 4 with
  | some ⟨none, (.one ⟨false, [(.val (.int IntKind.i64 y0))]⟩)⟩ =>
  (match s.ent 64 with
  | some (.box 30 [(.val (.int IntKind.i64 y1)), (.val (.int IntKind.i64 y2)), (.val (.int IntKind.i64 y3)), (.val (.int IntKind.i64 y4))]) =>
  some (y0, y1, y2, y3, y4)
  | _ => none)
  | _ => none)
  | _ => none)

def lp_spec_TicksToActive_l0 : Lp X_spec_TicksToActive_l0 where
  h := ⟨[18, 19, 20, 21, 22, 23, 24, 26, 27, 28, 25, 29, 30, 31, 32, 4], [0], [], []⟩
  JL := JL_spec_TicksToActive_l0
  JE := JE_spec_TicksToActive_l0
  XL := XL_spec_TicksToActive_l0
  XE := XE_spec_TicksToActive_l0
  q := fun j => match j with | _ => .exit 0
  tags := [0]
  lt := lt_spec_TicksToActive_l0
  fuel := fun (y0, y1, y2, y3, y4) => y0.natAbs + y1.natAbs + y2.natAbs + y3.natAbs + y4.natAbs
  fix := fun (_, _, _, _, _) (y0, y1, y2, y3, y4) => (y0, y1, y2, y3, y4)
  σ := [(0, 64)]
  rd := rd_spec_TicksToActive_l0

theorem lpok_spec_TicksToActive_l0 : LoopOk Try.prog (fun k => Nat.blt k Try.f12.ntmps) lp_spec_TicksToActive_l0.F (loopAt Try.f12 0) := by
  refine Lp.ok (tbl := [p_spec_IsPair, p_spec_l31Up, p_spec_l31Active, p_spec_l31Step]) (lf := []) hmix lp_spec_TicksToActive_l0 (by kernel_rfl) (LOk.nil _) (fun _ => rfl) (fun _ _ => rfl) ?_ ?_ ?_ ?_ (fun _ => rfl) ?_
  · intro x; obtain ⟨y0, y1, y2, y3, y4⟩ := x; kernel_rfl
  · intro x; obtain ⟨y0, y1, y2, y3, y4⟩ := x; kernel_rfl
  · intro s x h
    have h : rd_spec_TicksToActive_l0 s = some x := h
    unfold rd_spec_TicksToActive_l0 at h
    repeat' split at h
    all_goals cases h
    exact ⟨absS_cons (by assumption) rfl (absS_cons (by assumption) rfl (rfl)), absE_cons rfl (by assumption) rfl (rfl)⟩
  · intro x; obtain ⟨y0, y1, y2, y3, y4⟩ := x; kernel_rfl
  · intro x z; obtain ⟨y0, y1, y2, y3, y4⟩ := x; exact (And.intro rfl trivial)

def spec_TicksToActive_0 (x0 : Int) (x1 : Int) (x2 : Int) (x3 : Int) : Int :=
  bif !spec_IsPair_0 x0 x1 x2 x3 then (0 : Int)
  else
  bif bif !spec_l31Up_0 x0 then !spec_l31Up_0 x2 else false then (-1 : Int)
  else Prod.fst (Prod.snd (Lp.res lp_spec_TicksToActive_l0 ((0 : Int), x0, x1, x2, x3)))

def spec_TicksToActive_1 (x0 : Int) (x1 : Int) (x2 : Int) (x3 : Int) : Int :=
  bif !spec_IsPair_0 x0 x1 x2 x3 then (1 : Int) else bif bif !spec_l31Up_0 x0 then !spec_l31Up_0 x2 else false then (0 : Int) else (0 : Int)

def spec_TicksToActive_2 (x0 : Int) (x1 : Int) (x2 : Int) (x3 : Int) : Bool :=
  allT
  [!spec_IsPair_0 x0 x1 x2 x3 ||
      ((bif !spec_l31Up_0 x0 then !spec_l31Up_0 x2 else false) || Lp.fin lp_spec_TicksToActive_l0 ((0 : Int), x0, x1, x2, x3))]

def F_spec_TicksToActive : List SV → List Entry → Option Out
  | [.one ⟨true, [.val (.int .i64 x0), .val (.int .i64 x1), .val (.int .i64 x2), .val (.int .i64 x3)]⟩], [] => some ⟨(.tup [⟨false, [(.val (.int IntKind.i64 (spec_TicksToActive_0 x0 x1 x2 x3)))]⟩, ⟨false, [(.val (.int IntKind.i64 (spec_TicksToActive_1 x0 x1 x2 x3)))]⟩]), [], [], [(spec_TicksToActive_2 x0 x1 x2 x3)]⟩
  | _, _ => none

def p_spec_TicksToActive : PF Try.prog := PF.ofG Try.prog [p_spec_IsPair, p_spec_l31Up, p_spec_l31Active, p_spec_l31Step] [lp_spec_TicksToActive_l0.F] hmix 12 Try.f12 Try.func12 (LOk.fnT (l := [loopAt Try.f12 0]) (by kernel_rfl) (.cons lpok_spec_TicksToActive_l0 (.nil _))) F_spec_TicksToActive (by
  intro vs es r h; unfold F_spec_TicksToActive at h; split at h
  · cases h; kernel_rfl
  · cases h)

abbrev X_impl_TicksToActive_l0 := Int × Int × Int × Int × Int

def impl_TicksToActive_l0_0 (y1 : Int) (y3 : Int) : Bool :=
  loop_example_g00916_impl_Pair_active_0 y1 y3 == (0 : Int)

def impl_TicksToActive_l0_1 (y0 : Int) : Int :=
  IntKind.wrap IntKind.i64 (y0 + (1 : Int))

def impl_TicksToActive_l0_2 (y1 : Int) (y2 : Int) (y3 : Int) (y4 : Int) : Int :=
  loop_example_g00916_impl_Pair_step_0 y1 y2 y3 y4 (0 : Int) (0 : Int) false

def impl_TicksToActive_l0_3 (y1 : Int) (y2 : Int) (y3 : Int) (y4 : Int) : Int :=
  loop_example_g00916_impl_Pair_step_1 y1 y2 y3 y4 (0 : Int) (0 : Int) false

def impl_TicksToActive_l0_4 (y1 : Int) (y2 : Int) (y3 : Int) (y4 : Int) : Int :=
  loop_example_g00916_impl_Pair_step_2 y1 y2 y3 y4 (0 : Int) (0 : Int) false

def impl_TicksToActive_l0_5 (y1 : Int) (y2 : Int) (y3 : Int) (y4 : Int) : Int :=
  loop_example_g00916_impl_Pair_step_3 y1 y2 y3 y4 (0 : Int) (0 : Int) false

def JL_impl_TicksToActive_l0 : X_impl_TicksToActive_l0 → List (Nat × SV)
  | (y0, _, _, _, _) => [(1, (.one ⟨false, [(.ptr 0 0)]⟩)), (4, (.one ⟨false, [(.val (.int IntKind.i64 y0))]⟩))]

def JE_impl_TicksToActive_l0 : X_impl_TicksToActive_l0 → List (Nat × Entry)
  | (_, y1, y2, y3, y4) => [(0, (.box 30 [(.val (.int IntKind.i64 y1)), (.val (.int IntKind.i64 y2)), (.val (.int IntKind.i64 y3)), (.val (.int IntKind.i64 y4))]))]

def XL_impl_TicksToActive_l0 : Nat → X_impl_TicksToActive_l0 → List (Nat × SV)
  | _, (y0, _, _, _, _) => [(4, (.one ⟨false, [(.val (.int IntKind.i64 y0))]⟩))]

def XE_impl_TicksToActive_l0 : Nat → X_impl_TicksToActive_l0 → List (Nat × Entry)
  | _, (_, y1, y2, y3, y4) => [(0, (.box 30 [(.val (.int IntKind.i64 y1)), (.val (.int IntKind.i64 y2)), (.val (.int IntKind.i64 y3)), (.val (.int IntKind.i64 y4))]))]

def lt_impl_TicksToActive_l0 : X_impl_TicksToActive_l0 → LT X_impl_TicksToActive_l0
  | (y0, y1, y2, y3, y4) => .ite (impl_TicksToActive_l0_0 y1 y3) (.nrm ((impl_TicksToActive_l0_1 y0), (impl_TicksToActive_l0_2 y1 y2 y3 y4), (impl_TicksToActive_l0_3 y1 y2 y3 y4), (impl_TicksToActive_l0_4 y1 y2 y3 y4), (impl_TicksToActive_l0_5 y1 y2 y3 y4)) [(0, 0)]) (.ext 0 [(0, 0)])

def rd_impl_TicksToActive_l0 (s : St) : Option X_impl_TicksToActive_l0 :=
  (match s.look 1 with
  | some ⟨none, (.one ⟨false, [(.ptr 64 0)]⟩)⟩ =>
  (match s.look 4 with
  | some ⟨none, (.one ⟨false, [(.val (.int IntKind.i64 y0))]⟩)⟩ =>
  (match s.ent 64 with
  | some (.box 30 [(.val (.int IntKind.i64 y1)), (.val (.int IntKind.i64 y2)), (.val (.int IntKind.i64 y3)), (.val (.int IntKind.i64 y4))]) =>
  some (y0, y1, y2, y3, y4)
  | _ => none)
  | _ => none)
  | _ => none)

def lp_impl_TicksToActive_l0 : Lp X_impl_TicksToActive_l0 where
  h := ⟨[20, 21, 22, 24, 25, 26, 23, 27, 28, 29, 30, 4], [0], [], []⟩
  JL := JL_impl_TicksToActive_l0
  JE := JE_impl_TicksToActive_l0
  XL := XL_impl_TicksToActive_l0
  XE := XE_impl_TicksToActive_l0
  q := fun j => match j with | _ => .exit 1
  tags := [0]
  lt := lt_impl_TicksToActive_l0
  fuel := fun (y0, y1, y2, y3, y4) => y0.natAbs + y1.natAbs + y2.natAbs + y3.natAbs + y4.natAbs
  fix := fun (_, _, _, _, _) (y0, y1, y2, y3, y4) => (y0, y1, y2, y3, y4)
  σ := [(0, 64)]
  rd := rd_impl_TicksToActive_l0

theorem lpok_impl_TicksToActive_l0 : LoopOk Try.prog (fun k => Nat.blt k Try.f14.ntmps) lp_impl_TicksToActive_l0.F (loopAt Try.f14 0) := by
  refine Lp.ok (tbl := [p_impl_IsPair, p_loop_example_g00916_impl_Controller_isUp, p_loop_example_g00916_impl_Pair_active, p_loop_example_g00916_impl_Pair_step]) (lf := []) hmix lp_impl_TicksToActive_l0 (by kernel_rfl) (LOk.nil _) (fun _ => rfl) (fun _ _ => rfl) ?_ ?_ ?_ ?_ (fun _ => rfl) ?_
  · intro x; obtain ⟨y0, y1, y2, y3, y4⟩ := x; kernel_rfl
  · intro x; obtain ⟨y0, y1, y2, y3, y4⟩ := x; kernel_rfl
  · intro s x h
    have h : rd_impl_TicksToActive_l0 s = some x := h
    unfold rd_impl_TicksToActive_l0 at h
    repeat' split at h
    all_goals cases h
    exact ⟨absS_cons (by assumption) rfl (absS_cons (by assumption) rfl (rfl)), absE_cons rfl (by assumption) rfl (rfl)⟩
  · intro x; obtain ⟨y0, y1, y2, y3, y4⟩ := x; kernel_rfl
  · intro x z; obtain ⟨y0, y1, y2, y3, y4⟩ := x; exact (And.intro rfl trivial)

def impl_TicksToActive_0 (x0 : Int) (x1 : Int) (x2 : Int) (x3 : Int) : Int :=
  bif !impl_IsPair_0 x0 x1 x2 x3 then (0 : Int)
  else
  bif bif !loop_example_g00916_impl_Controller_isUp_0 x0 then !loop_example_g00916_impl_Controller_isUp_0 x2 else false then (-1 : Int)
  else Prod.fst (Prod.snd (Lp.res lp_impl_TicksToActive_l0 ((0 : Int), x0, x1, x2, x3)))

def impl_TicksToActive_1 (x0 : Int) (x1 : Int) (x2 : Int) (x3 : Int) : Int :=
  bif !impl_IsPair_0 x0 x1 x2 x3 then (1 : Int)
  else
  bif bif !loop_example_g00916_impl_Controller_isUp_0 x0 then !loop_example_g00916_impl_Controller_isUp_0 x2 else false then (0 : Int) else (0 : Int)

def impl_TicksToActive_2 (x0 : Int) (x1 : Int) (x2 : Int) (x3 : Int) : Bool :=
  allT
  [!impl_IsPair_0 x0 x1 x2 x3 ||
      ((bif !loop_example_g00916_impl_Controller_isUp_0 x0 then !loop_example_g00916_impl_Controller_isUp_0 x2 else false) ||
        Lp.fin lp_impl_TicksToActive_l0 ((0 : Int), x0, x1, x2, x3))]

def F_impl_TicksToActive : List SV → List Entry → Option Out
  | [.one ⟨true, [.val (.int .i64 x0), .val (.int .i64 x1), .val (.int .i64 x2), .val (.int .i64 x3)]⟩], [] => some ⟨(.tup [⟨false, [(.val (.int IntKind.i64 (impl_TicksToActive_0 x0 x1 x2 x3)))]⟩, ⟨false, [(.val (.int IntKind.i64 (impl_TicksToActive_1 x0 x1 x2 x3)))]⟩]), [], [], [(impl_TicksToActive_2 x0 x1 x2 x3)]⟩
  | _, _ => none

def p_impl_TicksToActive : PF Try.prog := PF.ofG Try.prog [p_impl_IsPair, p_loop_example_g00916_impl_Controller_isUp, p_loop_example_g00916_impl_Pair_active, p_loop_example_g00916_impl_Pair_step] [lp_impl_TicksToActive_l0.F] hmix 14 Try.f14 Try.func14 (LOk.fnT (l := [loopAt Try.f14 0]) (by kernel_rfl) (.cons lpok_impl_TicksToActive_l0 (.nil _))) F_impl_TicksToActive (by
  intro vs es r h; unfold F_impl_TicksToActive at h; split at h
  · cases h; kernel_rfl
  · cases h)

def laws_big_0 (x0 : List Int) : Bool :=
  decide ((↑(List.length x0) : Int) > (4096 : Int))

def F_laws_big : List SV → List Entry → Option Out
  | [.one ⟨false, [.ref 0]⟩], [.row false 5 (.int .u8) x0] => some ⟨(.one ⟨false, [(.val (.bool (laws_big_0 x0)))]⟩), [(.row false 5 (CTy.int IntKind.u8) x0)], [], []⟩
  | _, _ => none

def p_laws_big : PF Try.prog := PF.ofG Try.prog [] [] hmix 26 Try.f26 Try.func26 (fun c _ => LOk.nil c) F_laws_big (by
  intro vs es r h; unfold F_laws_big at h; split at h
  · cases h; kernel_rfl
  · cases h)

def spec_l01Next_0 (x0 : Int) (x1 : Int) (x2 : Int) (x3 : List Int) : Int :=
  bif decide (x0 ≤ (1 : Int)) then (0 : Int)
  else
  Int.tmod
    (bif decide (x1 < (↑(List.length x3) : Int)) then
      bif bif decide (x0 ≤ (256 : Int)) then Int.tmod (IntKind.wrap IntKind.i64 (x1 + (1 : Int))) (2 : Int) == (0 : Int) else false then
        IntKind.wrap IntKind.i64
          (Option.getD x3[Int.toNat (IntKind.wrap IntKind.i64 (IntKind.wrap IntKind.i64 (x1 + (1 : Int)) - (1 : Int)))]? (0 : Int))
      else
        IntKind.wrap IntKind.i64
          (IntKind.wrap IntKind.i64
              (Int.tdiv (Int.tmod (IntKind.wrap IntKind.i64 (IntKind.wrap IntKind.i64 (x2 * (48271 : Int)) + (29 : Int))) (2147483647 : Int))
                (31 : Int)) +
            IntKind.wrap IntKind.i64 (Option.getD x3[Int.toNat x1]? (0 : Int)))
    else
      IntKind.wrap IntKind.i64
        (Int.tdiv (Int.tmod (IntKind.wrap IntKind.i64 (IntKind.wrap IntKind.i64 (x2 * (48271 : Int)) + (29 : Int))) (2147483647 : Int)) (31 : Int)))
    x0

def spec_l01Next_1 (x0 : Int) (x1 : Int) (x3 : List Int) : Int :=
  bif decide (x0 ≤ (1 : Int)) then x1 else bif decide (x1 < (↑(List.length x3) : Int)) then IntKind.wrap IntKind.i64 (x1 + (1 : Int)) else x1

def spec_l01Next_2 (x0 : Int) (x1 : Int) (x2 : Int) (x3 : List Int) : Int :=
  bif decide (x0 ≤ (1 : Int)) then x2
  else
  bif decide (x1 < (↑(List.length x3) : Int)) then
    Int.tmod (IntKind.wrap IntKind.i64 (IntKind.wrap IntKind.i64 (x2 * (48271 : Int)) + (29 : Int))) (2147483647 : Int)
  else Int.tmod (IntKind.wrap IntKind.i64 (IntKind.wrap IntKind.i64 (x2 * (48271 : Int)) + (29 : Int))) (2147483647 : Int)

def spec_l01Next_3 (x0 : Int) (x1 : Int) (x3 : List Int) : Bool :=
  allT
  [decide (x0 ≤ (1 : Int)) || decide ((2147483647 : Int) ≠ (0 : Int)), decide (x0 ≤ (1 : Int)) || decide ((31 : Int) ≠ (0 : Int)),
    decide (x0 ≤ (1 : Int)) || (!decide (x1 < (↑(List.length x3) : Int)) || decide ((0 : Int) ≤ x1)),
    decide (x0 ≤ (1 : Int)) || (!decide (x1 < (↑(List.length x3) : Int)) || decide (x1 < (↑(List.length x3) : Int))),
    decide (x0 ≤ (1 : Int)) || (!decide (x1 < (↑(List.length x3) : Int)) || decide (Int.toNat x1 < List.length x3)),
    decide (x0 ≤ (1 : Int)) || (!decide (x1 < (↑(List.length x3) : Int)) || (!(decide (x0 ≤ (256 : Int)) && true) || decide ((2 : Int) ≠ (0 : Int)))),
    decide (x0 ≤ (1 : Int)) ||
      (!decide (x1 < (↑(List.length x3) : Int)) ||
        ((!bif decide (x0 ≤ (256 : Int)) then Int.tmod (IntKind.wrap IntKind.i64 (x1 + (1 : Int))) (2 : Int) == (0 : Int) else false) ||
          decide ((0 : Int) ≤ IntKind.wrap IntKind.i64 (IntKind.wrap IntKind.i64 (x1 + (1 : Int)) - (1 : Int))))),
    decide (x0 ≤ (1 : Int)) ||
      (!decide (x1 < (↑(List.length x3) : Int)) ||
        ((!bif decide (x0 ≤ (256 : Int)) then Int.tmod (IntKind.wrap IntKind.i64 (x1 + (1 : Int))) (2 : Int) == (0 : Int) else false) ||
          decide (IntKind.wrap IntKind.i64 (IntKind.wrap IntKind.i64 (x1 + (1 : Int)) - (1 : Int)) < (↑(List.length x3) : Int)))),
    decide (x0 ≤ (1 : Int)) ||
      (!decide (x1 < (↑(List.length x3) : Int)) ||
        ((!bif decide (x0 ≤ (256 : Int)) then Int.tmod (IntKind.wrap IntKind.i64 (x1 + (1 : Int))) (2 : Int) == (0 : Int) else false) ||
          decide (Int.toNat (IntKind.wrap IntKind.i64 (IntKind.wrap IntKind.i64 (x1 + (1 : Int)) - (1 : Int))) < List.length x3))),
    decide (x0 ≤ (1 : Int)) || decide (x0 ≠ (0 : Int))]

def F_spec_l01Next : List SV → List Entry → Option Out
  | [.one ⟨false, [.ptr 0 0]⟩, .one ⟨false, [.val (.int .i64 x0)]⟩], [.box 121 [.ref 1, .val (.int .i64 x1), .val (.int .i64 x2)], .row false 5 (.int .u8) x3] => some ⟨(.one ⟨false, [(.val (.int IntKind.i64 (spec_l01Next_0 x0 x1 x2 x3)))]⟩), [(.box 121 [(.ref 1), (.val (.int IntKind.i64 (spec_l01Next_1 x0 x1 x3))), (.val (.int IntKind.i64 (spec_l01Next_2 x0 x1 x2 x3)))]), (.row false 5 (CTy.int IntKind.u8) x3)], [], [(spec_l01Next_3 x0 x1 x3)]⟩
  | _, _ => none

def p_spec_l01Next : PF Try.prog := PF.ofG Try.prog [] [] hmix 73 Try.f73 Try.func73 (fun c _ => LOk.nil c) F_spec_l01Next (by
  intro vs es r h; unfold F_spec_l01Next at h; split at h
  · cases h; kernel_rfl
  · cases h)

def spec_l01Pick_0 (x0 : Int) (x1 : Int) (x2 : List Int) (x3 : List Int) : Int :=
  Option.getD x2[Int.toNat (spec_l01Next_0 (↑(List.length x2) : Int) x0 x1 x3)]? (0 : Int)

def spec_l01Pick_1 (x0 : Int) (x2 : List Int) (x3 : List Int) : Int :=
  spec_l01Next_1 (↑(List.length x2) : Int) x0 x3

def spec_l01Pick_2 (x0 : Int) (x1 : Int) (x2 : List Int) (x3 : List Int) : Int :=
  spec_l01Next_2 (↑(List.length x2) : Int) x0 x1 x3

def spec_l01Pick_3 (x0 : Int) (x1 : Int) (x2 : List Int) (x3 : List Int) : Bool :=
  allT
  [spec_l01Next_3 (↑(List.length x2) : Int) x0 x3, decide ((0 : Int) ≤ spec_l01Next_0 (↑(List.length x2) : Int) x0 x1 x3),
    decide (spec_l01Next_0 (↑(List.length x2) : Int) x0 x1 x3 < (↑(List.length x2) : Int)),
    decide (Int.toNat (spec_l01Next_0 (↑(List.length x2) : Int) x0 x1 x3) < List.length x2)]

def F_spec_l01Pick : List SV → List Entry → Option Out
  | [.one ⟨false, [.ptr 0 0]⟩, .one ⟨false, [.ref 1]⟩], [.box 121 [.ref 2, .val (.int .i64 x0), .val (.int .i64 x1)], .row false 2 (.int .i64) x2, .row false 5 (.int .u8) x3] => some ⟨(.one ⟨false, [(.val (.int IntKind.i64 (spec_l01Pick_0 x0 x1 x2 x3)))]⟩), [(.box 121 [(.ref 2), (.val (.int IntKind.i64 (spec_l01Pick_1 x0 x2 x3))), (.val (.int IntKind.i64 (spec_l01Pick_2 x0 x1 x2 x3)))]), (.row false 2 (CTy.int IntKind.i64) x2), (.row false 5 (CTy.int IntKind.u8) x3)], [], [(spec_l01Pick_3 x0 x1 x2 x3)]⟩
  | _, _ => none

def p_spec_l01Pick : PF Try.prog := PF.ofG Try.prog [p_spec_l01Next, PF.lend p_spec_l01Next, PF.fz p_spec_l01Next] [] hmix 92 Try.f92 Try.func92 (fun c _ => LOk.nil c) F_spec_l01Pick (by
  intro vs es r h; unfold F_spec_l01Pick at h; split at h
  · cases h; kernel_rfl
  · cases h)

def spec_l31DrawController_0 (x0 : Int) (x1 : Int) (x2 : List Int) : Int :=
  bif
    spec_l01Next_0 (40 : Int)
        (bif spec_l01Pick_0 x0 x1 [(0 : Int), (0 : Int), (1 : Int), (2 : Int)] x2 == (2 : Int) && true then
          spec_l01Next_1 (20 : Int) (spec_l01Next_1 (7 : Int) (spec_l01Pick_1 x0 [(0 : Int), (0 : Int), (1 : Int), (2 : Int)] x2) x2) x2
        else spec_l01Next_1 (7 : Int) (spec_l01Pick_1 x0 [(0 : Int), (0 : Int), (1 : Int), (2 : Int)] x2) x2)
        (bif spec_l01Pick_0 x0 x1 [(0 : Int), (0 : Int), (1 : Int), (2 : Int)] x2 == (2 : Int) && true then
          spec_l01Next_2 (20 : Int) (spec_l01Next_1 (7 : Int) (spec_l01Pick_1 x0 [(0 : Int), (0 : Int), (1 : Int), (2 : Int)] x2) x2)
            (spec_l01Next_2 (7 : Int) (spec_l01Pick_1 x0 [(0 : Int), (0 : Int), (1 : Int), (2 : Int)] x2)
              (spec_l01Pick_2 x0 x1 [(0 : Int), (0 : Int), (1 : Int), (2 : Int)] x2) x2)
            x2
        else
          spec_l01Next_2 (7 : Int) (spec_l01Pick_1 x0 [(0 : Int), (0 : Int), (1 : Int), (2 : Int)] x2)
            (spec_l01Pick_2 x0 x1 [(0 : Int), (0 : Int), (1 : Int), (2 : Int)] x2) x2)
        x2 ==
      (0 : Int) then
  spec_l01Pick_0
    (spec_l01Next_1 (40 : Int)
      (bif spec_l01Pick_0 x0 x1 [(0 : Int), (0 : Int), (1 : Int), (2 : Int)] x2 == (2 : Int) && true then
        spec_l01Next_1 (20 : Int) (spec_l01Next_1 (7 : Int) (spec_l01Pick_1 x0 [(0 : Int), (0 : Int), (1 : Int), (2 : Int)] x2) x2) x2
      else spec_l01Next_1 (7 : Int) (spec_l01Pick_1 x0 [(0 : Int), (0 : Int), (1 : Int), (2 : Int)] x2) x2)
      x2)
    (spec_l01Next_2 (40 : Int)
      (bif spec_l01Pick_0 x0 x1 [(0 : Int), (0 : Int), (1 : Int), (2 : Int)] x2 == (2 : Int) && true then
        spec_l01Next_1 (20 : Int) (spec_l01Next_1 (7 : Int) (spec_l01Pick_1 x0 [(0 : Int), (0 : Int), (1 : Int), (2 : Int)] x2) x2) x2
      else spec_l01Next_1 (7 : Int) (spec_l01Pick_1 x0 [(0 : Int), (0 : Int), (1 : Int), (2 : Int)] x2) x2)
      (bif spec_l01Pick_0 x0 x1 [(0 : Int), (0 : Int), (1 : Int), (2 : Int)] x2 == (2 : Int) && true then
        spec_l01Next_2 (20 : Int) (spec_l01Next_1 (7 : Int) (spec_l01Pick_1 x0 [(0 : Int), (0 : Int), (1 : Int), (2 : Int)] x2) x2)
          (spec_l01Next_2 (7 : Int) (spec_l01Pick_1 x0 [(0 : Int), (0 : Int), (1 : Int), (2 : Int)] x2)
            (spec_l01Pick_2 x0 x1 [(0 : Int), (0 : Int), (1 : Int), (2 : Int)] x2) x2)
          x2
      else
        spec_l01Next_2 (7 : Int) (spec_l01Pick_1 x0 [(0 : Int), (0 : Int), (1 : Int), (2 : Int)] x2)
          (spec_l01Pick_2 x0 x1 [(0 : Int), (0 : Int), (1 : Int), (2 : Int)] x2) x2)
      x2)
    [(-1 : Int), (3 : Int)] x2
  else
  bif
      spec_l01Next_0 (40 : Int)
          (bif spec_l01Pick_0 x0 x1 [(0 : Int), (0 : Int), (1 : Int), (2 : Int)] x2 == (2 : Int) && true then
            spec_l01Next_1 (20 : Int) (spec_l01Next_1 (7 : Int) (spec_l01Pick_1 x0 [(0 : Int), (0 : Int), (1 : Int), (2 : Int)] x2) x2) x2
          else spec_l01Next_1 (7 : Int) (spec_l01Pick_1 x0 [(0 : Int), (0 : Int), (1 : Int), (2 : Int)] x2) x2)
          (bif spec_l01Pick_0 x0 x1 [(0 : Int), (0 : Int), (1 : Int), (2 : Int)] x2 == (2 : Int) && true then
            spec_l01Next_2 (20 : Int) (spec_l01Next_1 (7 : Int) (spec_l01Pick_1 x0 [(0 : Int), (0 : Int), (1 : Int), (2 : Int)] x2) x2)
              (spec_l01Next_2 (7 : Int) (spec_l01Pick_1 x0 [(0 : Int), (0 : Int), (1 : Int), (2 : Int)] x2)
                (spec_l01Pick_2 x0 x1 [(0 : Int), (0 : Int), (1 : Int), (2 : Int)] x2) x2)
              x2
          else
            spec_l01Next_2 (7 : Int) (spec_l01Pick_1 x0 [(0 : Int), (0 : Int), (1 : Int), (2 : Int)] x2)
              (spec_l01Pick_2 x0 x1 [(0 : Int), (0 : Int), (1 : Int), (2 : Int)] x2) x2)
          x2 ==
        (1 : Int) then
    bif
        bif spec_l01Pick_0 x0 x1 [(0 : Int), (0 : Int), (1 : Int), (2 : Int)] x2 == (2 : Int) then
          decide
            (spec_l01Next_0 (20 : Int) (spec_l01Next_1 (7 : Int) (spec_l01Pick_1 x0 [(0 : Int), (0 : Int), (1 : Int), (2 : Int)] x2) x2)
                (spec_l01Next_2 (7 : Int) (spec_l01Pick_1 x0 [(0 : Int), (0 : Int), (1 : Int), (2 : Int)] x2)
                  (spec_l01Pick_2 x0 x1 [(0 : Int), (0 : Int), (1 : Int), (2 : Int)] x2) x2)
                x2 >
              (0 : Int))
        else false then
      spec_l01Pick_0 x0 x1 [(0 : Int), (0 : Int), (1 : Int), (2 : Int)] x2
    else spec_l01Pick_0 x0 x1 [(0 : Int), (0 : Int), (1 : Int), (2 : Int)] x2
  else
    bif
        bif spec_l01Pick_0 x0 x1 [(0 : Int), (0 : Int), (1 : Int), (2 : Int)] x2 == (2 : Int) then
          decide
            (spec_l01Next_0 (20 : Int) (spec_l01Next_1 (7 : Int) (spec_l01Pick_1 x0 [(0 : Int), (0 : Int), (1 : Int), (2 : Int)] x2) x2)
                (spec_l01Next_2 (7 : Int) (spec_l01Pick_1 x0 [(0 : Int), (0 : Int), (1 : Int), (2 : Int)] x2)
                  (spec_l01Pick_2 x0 x1 [(0 : Int), (0 : Int), (1 : Int), (2 : Int)] x2) x2)
                x2 >
              (0 : Int))
        else false then
      spec_l01Pick_0 x0 x1 [(0 : Int), (0 : Int), (1 : Int), (2 : Int)] x2
    else spec_l01Pick_0 x0 x1 [(0 : Int), (0 : Int), (1 : Int), (2 : Int)] x2

def spec_l31DrawController_1 (x0 : Int) (x1 : Int) (x2 : List Int) : Int :=
  bif
    spec_l01Next_0 (40 : Int)
        (bif spec_l01Pick_0 x0 x1 [(0 : Int), (0 : Int), (1 : Int), (2 : Int)] x2 == (2 : Int) && true then
          spec_l01Next_1 (20 : Int) (spec_l01Next_1 (7 : Int) (spec_l01Pick_1 x0 [(0 : Int), (0 : Int), (1 : Int), (2 : Int)] x2) x2) x2
        else spec_l01Next_1 (7 : Int) (spec_l01Pick_1 x0 [(0 : Int), (0 : Int), (1 : Int), (2 : Int)] x2) x2)
        (bif spec_l01Pick_0 x0 x1 [(0 : Int), (0 : Int), (1 : Int), (2 : Int)] x2 == (2 : Int) && true then
          spec_l01Next_2 (20 : Int) (spec_l01Next_1 (7 : Int) (spec_l01Pick_1 x0 [(0 : Int), (0 : Int), (1 : Int), (2 : Int)] x2) x2)
            (spec_l01Next_2 (7 : Int) (spec_l01Pick_1 x0 [(0 : Int), (0 : Int), (1 : Int), (2 : Int)] x2)
              (spec_l01Pick_2 x0 x1 [(0 : Int), (0 : Int), (1 : Int), (2 : Int)] x2) x2)
            x2
        else
          spec_l01Next_2 (7 : Int) (spec_l01Pick_1 x0 [(0 : Int), (0 : Int), (1 : Int), (2 : Int)] x2)
            (spec_l01Pick_2 x0 x1 [(0 : Int), (0 : Int), (1 : Int), (2 : Int)] x2) x2)
        x2 ==
      (0 : Int) then
  bif
      bif spec_l01Pick_0 x0 x1 [(0 : Int), (0 : Int), (1 : Int), (2 : Int)] x2 == (2 : Int) then
        decide
          (spec_l01Next_0 (20 : Int) (spec_l01Next_1 (7 : Int) (spec_l01Pick_1 x0 [(0 : Int), (0 : Int), (1 : Int), (2 : Int)] x2) x2)
              (spec_l01Next_2 (7 : Int) (spec_l01Pick_1 x0 [(0 : Int), (0 : Int), (1 : Int), (2 : Int)] x2)
                (spec_l01Pick_2 x0 x1 [(0 : Int), (0 : Int), (1 : Int), (2 : Int)] x2) x2)
              x2 >
            (0 : Int))
      else false then
    (0 : Int)
  else
    spec_l01Next_0 (7 : Int) (spec_l01Pick_1 x0 [(0 : Int), (0 : Int), (1 : Int), (2 : Int)] x2)
      (spec_l01Pick_2 x0 x1 [(0 : Int), (0 : Int), (1 : Int), (2 : Int)] x2) x2
  else
  bif
      spec_l01Next_0 (40 : Int)
          (bif spec_l01Pick_0 x0 x1 [(0 : Int), (0 : Int), (1 : Int), (2 : Int)] x2 == (2 : Int) && true then
            spec_l01Next_1 (20 : Int) (spec_l01Next_1 (7 : Int) (spec_l01Pick_1 x0 [(0 : Int), (0 : Int), (1 : Int), (2 : Int)] x2) x2) x2
          else spec_l01Next_1 (7 : Int) (spec_l01Pick_1 x0 [(0 : Int), (0 : Int), (1 : Int), (2 : Int)] x2) x2)
          (bif spec_l01Pick_0 x0 x1 [(0 : Int), (0 : Int), (1 : Int), (2 : Int)] x2 == (2 : Int) && true then
            spec_l01Next_2 (20 : Int) (spec_l01Next_1 (7 : Int) (spec_l01Pick_1 x0 [(0 : Int), (0 : Int), (1 : Int), (2 : Int)] x2) x2)
              (spec_l01Next_2 (7 : Int) (spec_l01Pick_1 x0 [(0 : Int), (0 : Int), (1 : Int), (2 : Int)] x2)
                (spec_l01Pick_2 x0 x1 [(0 : Int), (0 : Int), (1 : Int), (2 : Int)] x2) x2)
              x2
          else
            spec_l01Next_2 (7 : Int) (spec_l01Pick_1 x0 [(0 : Int), (0 : Int), (1 : Int), (2 : Int)] x2)
              (spec_l01Pick_2 x0 x1 [(0 : Int), (0 : Int), (1 : Int), (2 : Int)] x2) x2)
          x2 ==
        (1 : Int) then
    spec_l01Pick_0
      (spec_l01Next_1 (40 : Int)
        (bif spec_l01Pick_0 x0 x1 [(0 : Int), (0 : Int), (1 : Int), (2 : Int)] x2 == (2 : Int) && true then
          spec_l01Next_1 (20 : Int) (spec_l01Next_1 (7 : Int) (spec_l01Pick_1 x0 [(0 : Int), (0 : Int), (1 : Int), (2 : Int)] x2) x2) x2
        else spec_l01Next_1 (7 : Int) (spec_l01Pick_1 x0 [(0 : Int), (0 : Int), (1 : Int), (2 : Int)] x2) x2)
        x2)
      (spec_l01Next_2 (40 : Int)
        (bif spec_l01Pick_0 x0 x1 [(0 : Int), (0 : Int), (1 : Int), (2 : Int)] x2 == (2 : Int) && true then
          spec_l01Next_1 (20 : Int) (spec_l01Next_1 (7 : Int) (spec_l01Pick_1 x0 [(0 : Int), (0 : Int), (1 : Int), (2 : Int)] x2) x2) x2
        else spec_l01Next_1 (7 : Int) (spec_l01Pick_1 x0 [(0 : Int), (0 : Int), (1 : Int), (2 : Int)] x2) x2)
        (bif spec_l01Pick_0 x0 x1 [(0 : Int), (0 : Int), (1 : Int), (2 : Int)] x2 == (2 : Int) && true then
          spec_l01Next_2 (20 : Int) (spec_l01Next_1 (7 : Int) (spec_l01Pick_1 x0 [(0 : Int), (0 : Int), (1 : Int), (2 : Int)] x2) x2)
            (spec_l01Next_2 (7 : Int) (spec_l01Pick_1 x0 [(0 : Int), (0 : Int), (1 : Int), (2 : Int)] x2)
              (spec_l01Pick_2 x0 x1 [(0 : Int), (0 : Int), (1 : Int), (2 : Int)] x2) x2)
            x2
        else
          spec_l01Next_2 (7 : Int) (spec_l01Pick_1 x0 [(0 : Int), (0 : Int), (1 : Int), (2 : Int)] x2)
            (spec_l01Pick_2 x0 x1 [(0 : Int), (0 : Int), (1 : Int), (2 : Int)] x2) x2)
        x2)
      [(-1 : Int), (7 : Int)] x2
  else
    bif
        bif spec_l01Pick_0 x0 x1 [(0 : Int), (0 : Int), (1 : Int), (2 : Int)] x2 == (2 : Int) then
          decide
            (spec_l01Next_0 (20 : Int) (spec_l01Next_1 (7 : Int) (spec_l01Pick_1 x0 [(0 : Int), (0 : Int), (1 : Int), (2 : Int)] x2) x2)
                (spec_l01Next_2 (7 : Int) (spec_l01Pick_1 x0 [(0 : Int), (0 : Int), (1 : Int), (2 : Int)] x2)
                  (spec_l01Pick_2 x0 x1 [(0 : Int), (0 : Int), (1 : Int), (2 : Int)] x2) x2)
                x2 >
              (0 : Int))
        else false then
      (0 : Int)
    else
      spec_l01Next_0 (7 : Int) (spec_l01Pick_1 x0 [(0 : Int), (0 : Int), (1 : Int), (2 : Int)] x2)
        (spec_l01Pick_2 x0 x1 [(0 : Int), (0 : Int), (1 : Int), (2 : Int)] x2) x2

def spec_l31DrawController_2 (x0 : Int) (x1 : Int) (x2 : List Int) : Int :=
  bif
    spec_l01Next_0 (40 : Int)
        (bif spec_l01Pick_0 x0 x1 [(0 : Int), (0 : Int), (1 : Int), (2 : Int)] x2 == (2 : Int) && true then
          spec_l01Next_1 (20 : Int) (spec_l01Next_1 (7 : Int) (spec_l01Pick_1 x0 [(0 : Int), (0 : Int), (1 : Int), (2 : Int)] x2) x2) x2
        else spec_l01Next_1 (7 : Int) (spec_l01Pick_1 x0 [(0 : Int), (0 : Int), (1 : Int), (2 : Int)] x2) x2)
        (bif spec_l01Pick_0 x0 x1 [(0 : Int), (0 : Int), (1 : Int), (2 : Int)] x2 == (2 : Int) && true then
          spec_l01Next_2 (20 : Int) (spec_l01Next_1 (7 : Int) (spec_l01Pick_1 x0 [(0 : Int), (0 : Int), (1 : Int), (2 : Int)] x2) x2)
            (spec_l01Next_2 (7 : Int) (spec_l01Pick_1 x0 [(0 : Int), (0 : Int), (1 : Int), (2 : Int)] x2)
              (spec_l01Pick_2 x0 x1 [(0 : Int), (0 : Int), (1 : Int), (2 : Int)] x2) x2)
            x2
        else
          spec_l01Next_2 (7 : Int) (spec_l01Pick_1 x0 [(0 : Int), (0 : Int), (1 : Int), (2 : Int)] x2)
            (spec_l01Pick_2 x0 x1 [(0 : Int), (0 : Int), (1 : Int), (2 : Int)] x2) x2)
        x2 ==
      (0 : Int) then
  spec_l01Pick_1
    (spec_l01Next_1 (40 : Int)
      (bif spec_l01Pick_0 x0 x1 [(0 : Int), (0 : Int), (1 : Int), (2 : Int)] x2 == (2 : Int) && true then
        spec_l01Next_1 (20 : Int) (spec_l01Next_1 (7 : Int) (spec_l01Pick_1 x0 [(0 : Int), (0 : Int), (1 : Int), (2 : Int)] x2) x2) x2
      else spec_l01Next_1 (7 : Int) (spec_l01Pick_1 x0 [(0 : Int), (0 : Int), (1 : Int), (2 : Int)] x2) x2)
      x2)
    [(-1 : Int), (3 : Int)] x2
  else
  bif
      spec_l01Next_0 (40 : Int)
          (bif spec_l01Pick_0 x0 x1 [(0 : Int), (0 : Int), (1 : Int), (2 : Int)] x2 == (2 : Int) && true then
            spec_l01Next_1 (20 : Int) (spec_l01Next_1 (7 : Int) (spec_l01Pick_1 x0 [(0 : Int), (0 : Int), (1 : Int), (2 : Int)] x2) x2) x2
          else spec_l01Next_1 (7 : Int) (spec_l01Pick_1 x0 [(0 : Int), (0 : Int), (1 : Int), (2 : Int)] x2) x2)
          (bif spec_l01Pick_0 x0 x1 [(0 : Int), (0 : Int), (1 : Int), (2 : Int)] x2 == (2 : Int) && true then
            spec_l01Next_2 (20 : Int) (spec_l01Next_1 (7 : Int) (spec_l01Pick_1 x0 [(0 : Int), (0 : Int), (1 : Int), (2 : Int)] x2) x2)
              (spec_l01Next_2 (7 : Int) (spec_l01Pick_1 x0 [(0 : Int), (0 : Int), (1 : Int), (2 : Int)] x2)
                (spec_l01Pick_2 x0 x1 [(0 : Int), (0 : Int), (1 : Int), (2 : Int)] x2) x2)
              x2
          else
            spec_l01Next_2 (7 : Int) (spec_l01Pick_1 x0 [(0 : Int), (0 : Int), (1 : Int), (2 : Int)] x2)
              (spec_l01Pick_2 x0 x1 [(0 : Int), (0 : Int), (1 : Int), (2 : Int)] x2) x2)
          x2 ==
        (1 : Int) then
    spec_l01Pick_1
      (spec_l01Next_1 (40 : Int)
        (bif spec_l01Pick_0 x0 x1 [(0 : Int), (0 : Int), (1 : Int), (2 : Int)] x2 == (2 : Int) && true then
          spec_l01Next_1 (20 : Int) (spec_l01Next_1 (7 : Int) (spec_l01Pick_1 x0 [(0 : Int), (0 : Int), (1 : Int), (2 : Int)] x2) x2) x2
        else spec_l01Next_1 (7 : Int) (spec_l01Pick_1 x0 [(0 : Int), (0 : Int), (1 : Int), (2 : Int)] x2) x2)
        x2)
      [(-1 : Int), (7 : Int)] x2
  else
    spec_l01Next_1 (40 : Int)
      (bif spec_l01Pick_0 x0 x1 [(0 : Int), (0 : Int), (1 : Int), (2 : Int)] x2 == (2 : Int) && true then
        spec_l01Next_1 (20 : Int) (spec_l01Next_1 (7 : Int) (spec_l01Pick_1 x0 [(0 : Int), (0 : Int), (1 : Int), (2 : Int)] x2) x2) x2
      else spec_l01Next_1 (7 : Int) (spec_l01Pick_1 x0 [(0 : Int), (0 : Int), (1 : Int), (2 : Int)] x2) x2)
      x2

def spec_l31DrawController_3 (x0 : Int) (x1 : Int) (x2 : List Int) : Int :=
  bif
    spec_l01Next_0 (40 : Int)
        (bif spec_l01Pick_0 x0 x1 [(0 : Int), (0 : Int), (1 : Int), (2 : Int)] x2 == (2 : Int) && true then
          spec_l01Next_1 (20 : Int) (spec_l01Next_1 (7 : Int) (spec_l01Pick_1 x0 [(0 : Int), (0 : Int), (1 : Int), (2 : Int)] x2) x2) x2
        else spec_l01Next_1 (7 : Int) (spec_l01Pick_1 x0 [(0 : Int), (0 : Int), (1 : Int), (2 : Int)] x2) x2)
        (bif spec_l01Pick_0 x0 x1 [(0 : Int), (0 : Int), (1 : Int), (2 : Int)] x2 == (2 : Int) && true then
          spec_l01Next_2 (20 : Int) (spec_l01Next_1 (7 : Int) (spec_l01Pick_1 x0 [(0 : Int), (0 : Int), (1 : Int), (2 : Int)] x2) x2)
            (spec_l01Next_2 (7 : Int) (spec_l01Pick_1 x0 [(0 : Int), (0 : Int), (1 : Int), (2 : Int)] x2)
              (spec_l01Pick_2 x0 x1 [(0 : Int), (0 : Int), (1 : Int), (2 : Int)] x2) x2)
            x2
        else
          spec_l01Next_2 (7 : Int) (spec_l01Pick_1 x0 [(0 : Int), (0 : Int), (1 : Int), (2 : Int)] x2)
            (spec_l01Pick_2 x0 x1 [(0 : Int), (0 : Int), (1 : Int), (2 : Int)] x2) x2)
        x2 ==
      (0 : Int) then
  spec_l01Pick_2
    (spec_l01Next_1 (40 : Int)
      (bif spec_l01Pick_0 x0 x1 [(0 : Int), (0 : Int), (1 : Int), (2 : Int)] x2 == (2 : Int) && true then
        spec_l01Next_1 (20 : Int) (spec_l01Next_1 (7 : Int) (spec_l01Pick_1 x0 [(0 : Int), (0 : Int), (1 : Int), (2 : Int)] x2) x2) x2
      else spec_l01Next_1 (7 : Int) (spec_l01Pick_1 x0 [(0 : Int), (0 : Int), (1 : Int), (2 : Int)] x2) x2)
      x2)
    (spec_l01Next_2 (40 : Int)
      (bif spec_l01Pick_0 x0 x1 [(0 : Int), (0 : Int), (1 : Int), (2 : Int)] x2 == (2 : Int) && true then
        spec_l01Next_1 (20 : Int) (spec_l01Next_1 (7 : Int) (spec_l01Pick_1 x0 [(0 : Int), (0 : Int), (1 : Int), (2 : Int)] x2) x2) x2
      else spec_l01Next_1 (7 : Int) (spec_l01Pick_1 x0 [(0 : Int), (0 : Int), (1 : Int), (2 : Int)] x2) x2)
      (bif spec_l01Pick_0 x0 x1 [(0 : Int), (0 : Int), (1 : Int), (2 : Int)] x2 == (2 : Int) && true then
        spec_l01Next_2 (20 : Int) (spec_l01Next_1 (7 : Int) (spec_l01Pick_1 x0 [(0 : Int), (0 : Int), (1 : Int), (2 : Int)] x2) x2)
          (spec_l01Next_2 (7 : Int) (spec_l01Pick_1 x0 [(0 : Int), (0 : Int), (1 : Int), (2 : Int)] x2)
            (spec_l01Pick_2 x0 x1 [(0 : Int), (0 : Int), (1 : Int), (2 : Int)] x2) x2)
          x2
      else
        spec_l01Next_2 (7 : Int) (spec_l01Pick_1 x0 [(0 : Int), (0 : Int), (1 : Int), (2 : Int)] x2)
          (spec_l01Pick_2 x0 x1 [(0 : Int), (0 : Int), (1 : Int), (2 : Int)] x2) x2)
      x2)
    [(-1 : Int), (3 : Int)] x2
  else
  bif
      spec_l01Next_0 (40 : Int)
          (bif spec_l01Pick_0 x0 x1 [(0 : Int), (0 : Int), (1 : Int), (2 : Int)] x2 == (2 : Int) && true then
            spec_l01Next_1 (20 : Int) (spec_l01Next_1 (7 : Int) (spec_l01Pick_1 x0 [(0 : Int), (0 : Int), (1 : Int), (2 : Int)] x2) x2) x2
          else spec_l01Next_1 (7 : Int) (spec_l01Pick_1 x0 [(0 : Int), (0 : Int), (1 : Int), (2 : Int)] x2) x2)
          (bif spec_l01Pick_0 x0 x1 [(0 : Int), (0 : Int), (1 : Int), (2 : Int)] x2 == (2 : Int) && true then
            spec_l01Next_2 (20 : Int) (spec_l01Next_1 (7 : Int) (spec_l01Pick_1 x0 [(0 : Int), (0 : Int), (1 : Int), (2 : Int)] x2) x2)
              (spec_l01Next_2 (7 : Int) (spec_l01Pick_1 x0 [(0 : Int), (0 : Int), (1 : Int), (2 : Int)] x2)
                (spec_l01Pick_2 x0 x1 [(0 : Int), (0 : Int), (1 : Int), (2 : Int)] x2) x2)
              x2
          else
            spec_l01Next_2 (7 : Int) (spec_l01Pick_1 x0 [(0 : Int), (0 : Int), (1 : Int), (2 : Int)] x2)
              (spec_l01Pick_2 x0 x1 [(0 : Int), (0 : Int), (1 : Int), (2 : Int)] x2) x2)
          x2 ==
        (1 : Int) then
    spec_l01Pick_2
      (spec_l01Next_1 (40 : Int)
        (bif spec_l01Pick_0 x0 x1 [(0 : Int), (0 : Int), (1 : Int), (2 : Int)] x2 == (2 : Int) && true then
          spec_l01Next_1 (20 : Int) (spec_l01Next_1 (7 : Int) (spec_l01Pick_1 x0 [(0 : Int), (0 : Int), (1 : Int), (2 : Int)] x2) x2) x2
        else spec_l01Next_1 (7 : Int) (spec_l01Pick_1 x0 [(0 : Int), (0 : Int), (1 : Int), (2 : Int)] x2) x2)
        x2)
      (spec_l01Next_2 (40 : Int)
        (bif spec_l01Pick_0 x0 x1 [(0 : Int), (0 : Int), (1 : Int), (2 : Int)] x2 == (2 : Int) && true then
          spec_l01Next_1 (20 : Int) (spec_l01Next_1 (7 : Int) (spec_l01Pick_1 x0 [(0 : Int), (0 : Int), (1 : Int), (2 : Int)] x2) x2) x2
        else spec_l01Next_1 (7 : Int) (spec_l01Pick_1 x0 [(0 : Int), (0 : Int), (1 : Int), (2 : Int)] x2) x2)
        (bif spec_l01Pick_0 x0 x1 [(0 : Int), (0 : Int), (1 : Int), (2 : Int)] x2 == (2 : Int) && true then
          spec_l01Next_2 (20 : Int) (spec_l01Next_1 (7 : Int) (spec_l01Pick_1 x0 [(0 : Int), (0 : Int), (1 : Int), (2 : Int)] x2) x2)
            (spec_l01Next_2 (7 : Int) (spec_l01Pick_1 x0 [(0 : Int), (0 : Int), (1 : Int), (2 : Int)] x2)
              (spec_l01Pick_2 x0 x1 [(0 : Int), (0 : Int), (1 : Int), (2 : Int)] x2) x2)
            x2
        else
          spec_l01Next_2 (7 : Int) (spec_l01Pick_1 x0 [(0 : Int), (0 : Int), (1 : Int), (2 : Int)] x2)
            (spec_l01Pick_2 x0 x1 [(0 : Int), (0 : Int), (1 : Int), (2 : Int)] x2) x2)
        x2)
      [(-1 : Int), (7 : Int)] x2
  else
    spec_l01Next_2 (40 : Int)
      (bif spec_l01Pick_0 x0 x1 [(0 : Int), (0 : Int), (1 : Int), (2 : Int)] x2 == (2 : Int) && true then
        spec_l01Next_1 (20 : Int) (spec_l01Next_1 (7 : Int) (spec_l01Pick_1 x0 [(0 : Int), (0 : Int), (1 : Int), (2 : Int)] x2) x2) x2
      else spec_l01Next_1 (7 : Int) (spec_l01Pick_1 x0 [(0 : Int), (0 : Int), (1 : Int), (2 : Int)] x2) x2)
      (bif spec_l01Pick_0 x0 x1 [(0 : Int), (0 : Int), (1 : Int), (2 : Int)] x2 == (2 : Int) && true then
        spec_l01Next_2 (20 : Int) (spec_l01Next_1 (7 : Int) (spec_l01Pick_1 x0 [(0 : Int), (0 : Int), (1 : Int), (2 : Int)] x2) x2)
          (spec_l01Next_2 (7 : Int) (spec_l01Pick_1 x0 [(0 : Int), (0 : Int), (1 : Int), (2 : Int)] x2)
            (spec_l01Pick_2 x0 x1 [(0 : Int), (0 : Int), (1 : Int), (2 : Int)] x2) x2)
          x2
      else
        spec_l01Next_2 (7 : Int) (spec_l01Pick_1 x0 [(0 : Int), (0 : Int), (1 : Int), (2 : Int)] x2)
          (spec_l01Pick_2 x0 x1 [(0 : Int), (0 : Int), (1 : Int), (2 : Int)] x2) x2)
      x2

def spec_l31DrawController_4 (x0 : Int) (x1 : Int) (x2 : List Int) : Bool :=
  allT
  [spec_l01Pick_3 x0 x1 [(0 : Int), (0 : Int), (1 : Int), (2 : Int)] x2,
    spec_l01Next_3 (7 : Int) (spec_l01Pick_1 x0 [(0 : Int), (0 : Int), (1 : Int), (2 : Int)] x2) x2,
    !(spec_l01Pick_0 x0 x1 [(0 : Int), (0 : Int), (1 : Int), (2 : Int)] x2 == (2 : Int) && true) ||
      spec_l01Next_3 (20 : Int) (spec_l01Next_1 (7 : Int) (spec_l01Pick_1 x0 [(0 : Int), (0 : Int), (1 : Int), (2 : Int)] x2) x2) x2,
    spec_l01Next_3 (40 : Int)
      (bif spec_l01Pick_0 x0 x1 [(0 : Int), (0 : Int), (1 : Int), (2 : Int)] x2 == (2 : Int) && true then
        spec_l01Next_1 (20 : Int) (spec_l01Next_1 (7 : Int) (spec_l01Pick_1 x0 [(0 : Int), (0 : Int), (1 : Int), (2 : Int)] x2) x2) x2
      else spec_l01Next_1 (7 : Int) (spec_l01Pick_1 x0 [(0 : Int), (0 : Int), (1 : Int), (2 : Int)] x2) x2)
      x2,
    !spec_l01Next_0 (40 : Int)
            (bif spec_l01Pick_0 x0 x1 [(0 : Int), (0 : Int), (1 : Int), (2 : Int)] x2 == (2 : Int) && true then
              spec_l01Next_1 (20 : Int) (spec_l01Next_1 (7 : Int) (spec_l01Pick_1 x0 [(0 : Int), (0 : Int), (1 : Int), (2 : Int)] x2) x2) x2
            else spec_l01Next_1 (7 : Int) (spec_l01Pick_1 x0 [(0 : Int), (0 : Int), (1 : Int), (2 : Int)] x2) x2)
            (bif spec_l01Pick_0 x0 x1 [(0 : Int), (0 : Int), (1 : Int), (2 : Int)] x2 == (2 : Int) && true then
              spec_l01Next_2 (20 : Int) (spec_l01Next_1 (7 : Int) (spec_l01Pick_1 x0 [(0 : Int), (0 : Int), (1 : Int), (2 : Int)] x2) x2)
                (spec_l01Next_2 (7 : Int) (spec_l01Pick_1 x0 [(0 : Int), (0 : Int), (1 : Int), (2 : Int)] x2)
                  (spec_l01Pick_2 x0 x1 [(0 : Int), (0 : Int), (1 : Int), (2 : Int)] x2) x2)
                x2
            else
              spec_l01Next_2 (7 : Int) (spec_l01Pick_1 x0 [(0 : Int), (0 : Int), (1 : Int), (2 : Int)] x2)
                (spec_l01Pick_2 x0 x1 [(0 : Int), (0 : Int), (1 : Int), (2 : Int)] x2) x2)
            x2 ==
          (0 : Int) ||
      spec_l01Pick_3
        (spec_l01Next_1 (40 : Int)
          (bif spec_l01Pick_0 x0 x1 [(0 : Int), (0 : Int), (1 : Int), (2 : Int)] x2 == (2 : Int) && true then
            spec_l01Next_1 (20 : Int) (spec_l01Next_1 (7 : Int) (spec_l01Pick_1 x0 [(0 : Int), (0 : Int), (1 : Int), (2 : Int)] x2) x2) x2
          else spec_l01Next_1 (7 : Int) (spec_l01Pick_1 x0 [(0 : Int), (0 : Int), (1 : Int), (2 : Int)] x2) x2)
          x2)
        (spec_l01Next_2 (40 : Int)
          (bif spec_l01Pick_0 x0 x1 [(0 : Int), (0 : Int), (1 : Int), (2 : Int)] x2 == (2 : Int) && true then
            spec_l01Next_1 (20 : Int) (spec_l01Next_1 (7 : Int) (spec_l01Pick_1 x0 [(0 : Int), (0 : Int), (1 : Int), (2 : Int)] x2) x2) x2
          else spec_l01Next_1 (7 : Int) (spec_l01Pick_1 x0 [(0 : Int), (0 : Int), (1 : Int), (2 : Int)] x2) x2)
          (bif spec_l01Pick_0 x0 x1 [(0 : Int), (0 : Int), (1 : Int), (2 : Int)] x2 == (2 : Int) && true then
            spec_l01Next_2 (20 : Int) (spec_l01Next_1 (7 : Int) (spec_l01Pick_1 x0 [(0 : Int), (0 : Int), (1 : Int), (2 : Int)] x2) x2)
              (spec_l01Next_2 (7 : Int) (spec_l01Pick_1 x0 [(0 : Int), (0 : Int), (1 : Int), (2 : Int)] x2)
                (spec_l01Pick_2 x0 x1 [(0 : Int), (0 : Int), (1 : Int), (2 : Int)] x2) x2)
              x2
          else
            spec_l01Next_2 (7 : Int) (spec_l01Pick_1 x0 [(0 : Int), (0 : Int), (1 : Int), (2 : Int)] x2)
              (spec_l01Pick_2 x0 x1 [(0 : Int), (0 : Int), (1 : Int), (2 : Int)] x2) x2)
          x2)
        [(-1 : Int), (3 : Int)] x2,
    spec_l01Next_0 (40 : Int)
          (bif spec_l01Pick_0 x0 x1 [(0 : Int), (0 : Int), (1 : Int), (2 : Int)] x2 == (2 : Int) && true then
            spec_l01Next_1 (20 : Int) (spec_l01Next_1 (7 : Int) (spec_l01Pick_1 x0 [(0 : Int), (0 : Int), (1 : Int), (2 : Int)] x2) x2) x2
          else spec_l01Next_1 (7 : Int) (spec_l01Pick_1 x0 [(0 : Int), (0 : Int), (1 : Int), (2 : Int)] x2) x2)
          (bif spec_l01Pick_0 x0 x1 [(0 : Int), (0 : Int), (1 : Int), (2 : Int)] x2 == (2 : Int) && true then
            spec_l01Next_2 (20 : Int) (spec_l01Next_1 (7 : Int) (spec_l01Pick_1 x0 [(0 : Int), (0 : Int), (1 : Int), (2 : Int)] x2) x2)
              (spec_l01Next_2 (7 : Int) (spec_l01Pick_1 x0 [(0 : Int), (0 : Int), (1 : Int), (2 : Int)] x2)
                (spec_l01Pick_2 x0 x1 [(0 : Int), (0 : Int), (1 : Int), (2 : Int)] x2) x2)
              x2
          else
            spec_l01Next_2 (7 : Int) (spec_l01Pick_1 x0 [(0 : Int), (0 : Int), (1 : Int), (2 : Int)] x2)
              (spec_l01Pick_2 x0 x1 [(0 : Int), (0 : Int), (1 : Int), (2 : Int)] x2) x2)
          x2 ==
        (0 : Int) ||
      (!spec_l01Next_0 (40 : Int)
              (bif spec_l01Pick_0 x0 x1 [(0 : Int), (0 : Int), (1 : Int), (2 : Int)] x2 == (2 : Int) && true then
                spec_l01Next_1 (20 : Int) (spec_l01Next_1 (7 : Int) (spec_l01Pick_1 x0 [(0 : Int), (0 : Int), (1 : Int), (2 : Int)] x2) x2) x2
              else spec_l01Next_1 (7 : Int) (spec_l01Pick_1 x0 [(0 : Int), (0 : Int), (1 : Int), (2 : Int)] x2) x2)
              (bif spec_l01Pick_0 x0 x1 [(0 : Int), (0 : Int), (1 : Int), (2 : Int)] x2 == (2 : Int) && true then
                spec_l01Next_2 (20 : Int) (spec_l01Next_1 (7 : Int) (spec_l01Pick_1 x0 [(0 : Int), (0 : Int), (1 : Int), (2 : Int)] x2) x2)
                  (spec_l01Next_2 (7 : Int) (spec_l01Pick_1 x0 [(0 : Int), (0 : Int), (1 : Int), (2 : Int)] x2)
                    (spec_l01Pick_2 x0 x1 [(0 : Int), (0 : Int), (1 : Int), (2 : Int)] x2) x2)
                  x2
              else
                spec_l01Next_2 (7 : Int) (spec_l01Pick_1 x0 [(0 : Int), (0 : Int), (1 : Int), (2 : Int)] x2)
                  (spec_l01Pick_2 x0 x1 [(0 : Int), (0 : Int), (1 : Int), (2 : Int)] x2) x2)
              x2 ==
            (1 : Int) ||
        spec_l01Pick_3
          (spec_l01Next_1 (40 : Int)
            (bif spec_l01Pick_0 x0 x1 [(0 : Int), (0 : Int), (1 : Int), (2 : Int)] x2 == (2 : Int) && true then
              spec_l01Next_1 (20 : Int) (spec_l01Next_1 (7 : Int) (spec_l01Pick_1 x0 [(0 : Int), (0 : Int), (1 : Int), (2 : Int)] x2) x2) x2
            else spec_l01Next_1 (7 : Int) (spec_l01Pick_1 x0 [(0 : Int), (0 : Int), (1 : Int), (2 : Int)] x2) x2)
            x2)
          (spec_l01Next_2 (40 : Int)
            (bif spec_l01Pick_0 x0 x1 [(0 : Int), (0 : Int), (1 : Int), (2 : Int)] x2 == (2 : Int) && true then
              spec_l01Next_1 (20 : Int) (spec_l01Next_1 (7 : Int) (spec_l01Pick_1 x0 [(0 : Int), (0 : Int), (1 : Int), (2 : Int)] x2) x2) x2
            else spec_l01Next_1 (7 : Int) (spec_l01Pick_1 x0 [(0 : Int), (0 : Int), (1 : Int), (2 : Int)] x2) x2)
            (bif spec_l01Pick_0 x0 x1 [(0 : Int), (0 : Int), (1 : Int), (2 : Int)] x2 == (2 : Int) && true then
              spec_l01Next_2 (20 : Int) (spec_l01Next_1 (7 : Int) (spec_l01Pick_1 x0 [(0 : Int), (0 : Int), (1 : Int), (2 : Int)] x2) x2)
                (spec_l01Next_2 (7 : Int) (spec_l01Pick_1 x0 [(0 : Int), (0 : Int), (1 : Int), (2 : Int)] x2)
                  (spec_l01Pick_2 x0 x1 [(0 : Int), (0 : Int), (1 : Int), (2 : Int)] x2) x2)
                x2
            else
              spec_l01Next_2 (7 : Int) (spec_l01Pick_1 x0 [(0 : Int), (0 : Int), (1 : Int), (2 : Int)] x2)
                (spec_l01Pick_2 x0 x1 [(0 : Int), (0 : Int), (1 : Int), (2 : Int)] x2) x2)
            x2)
          [(-1 : Int), (7 : Int)] x2)]

def F_spec_l31DrawController : List SV → List Entry → Option Out
  | [.one ⟨false, [.ptr 0 0]⟩], [.box 121 [.ref 1, .val (.int .i64 x0), .val (.int .i64 x1)], .row false 5 (.int .u8) x2] => some ⟨(.one ⟨true, [(.val (.int IntKind.i64 (spec_l31DrawController_0 x0 x1 x2))), (.val (.int IntKind.i64 (spec_l31DrawController_1 x0 x1 x2)))]⟩), [(.box 121 [(.ref 1), (.val (.int IntKind.i64 (spec_l31DrawController_2 x0 x1 x2))), (.val (.int IntKind.i64 (spec_l31DrawController_3 x0 x1 x2)))]), (.row false 5 (CTy.int IntKind.u8) x2)], [], [(spec_l31DrawController_4 x0 x1 x2)]⟩
  | _, _ => none

def p_spec_l31DrawController : PF Try.prog := PF.ofG Try.prog [p_spec_l01Next, PF.lend p_spec_l01Next, PF.fz p_spec_l01Next, p_spec_l01Pick, PF.lend p_spec_l01Pick, PF.fz p_spec_l01Pick] [] hmix 89 Try.f89 Try.func89 (fun c _ => LOk.nil c) F_spec_l31DrawController (by
  intro vs es r h; unfold F_spec_l31DrawController at h; split at h
  · cases h; kernel_rfl
  · cases h)

def spec_l31DrawPair_0 (x0 : Int) (x1 : Int) (x2 : List Int) : Int :=
  spec_l31DrawController_0 x0 x1 x2

def spec_l31DrawPair_1 (x0 : Int) (x1 : Int) (x2 : List Int) : Int :=
  spec_l31DrawController_1 x0 x1 x2

def spec_l31DrawPair_2 (x0 : Int) (x1 : Int) (x2 : List Int) : Int :=
  spec_l31DrawController_0 (spec_l31DrawController_2 x0 x1 x2) (spec_l31DrawController_3 x0 x1 x2) x2

def spec_l31DrawPair_3 (x0 : Int) (x1 : Int) (x2 : List Int) : Int :=
  spec_l31DrawController_1 (spec_l31DrawController_2 x0 x1 x2) (spec_l31DrawController_3 x0 x1 x2) x2

def spec_l31DrawPair_4 (x0 : Int) (x1 : Int) (x2 : List Int) : Int :=
  spec_l31DrawController_2 (spec_l31DrawController_2 x0 x1 x2) (spec_l31DrawController_3 x0 x1 x2) x2

def spec_l31DrawPair_5 (x0 : Int) (x1 : Int) (x2 : List Int) : Int :=
  spec_l31DrawController_3 (spec_l31DrawController_2 x0 x1 x2) (spec_l31DrawController_3 x0 x1 x2) x2

def spec_l31DrawPair_6 (x0 : Int) (x1 : Int) (x2 : List Int) : Bool :=
  allT [spec_l31DrawController_4 x0 x1 x2, spec_l31DrawController_4 (spec_l31DrawController_2 x0 x1 x2) (spec_l31DrawController_3 x0 x1 x2) x2]

def F_spec_l31DrawPair : List SV → List Entry → Option Out
  | [.one ⟨false, [.ptr 0 0]⟩], [.box 121 [.ref 1, .val (.int .i64 x0), .val (.int .i64 x1)], .row false 5 (.int .u8) x2] => some ⟨(.one ⟨true, [(.val (.int IntKind.i64 (spec_l31DrawPair_0 x0 x1 x2))), (.val (.int IntKind.i64 (spec_l31DrawPair_1 x0 x1 x2))), (.val (.int IntKind.i64 (spec_l31DrawPair_2 x0 x1 x2))), (.val (.int IntKind.i64 (spec_l31DrawPair_3 x0 x1 x2)))]⟩), [(.box 121 [(.ref 1), (.val (.int IntKind.i64 (spec_l31DrawPair_4 x0 x1 x2))), (.val (.int IntKind.i64 (spec_l31DrawPair_5 x0 x1 x2)))]), (.row false 5 (CTy.int IntKind.u8) x2)], [], [(spec_l31DrawPair_6 x0 x1 x2)]⟩
  | _, _ => none

def p_spec_l31DrawPair : PF Try.prog := PF.ofG Try.prog [p_spec_l31DrawController, PF.lend p_spec_l31DrawController, PF.fz p_spec_l31DrawController] [] hmix 65 Try.f65 Try.func65 (fun c _ => LOk.nil c) F_spec_l31DrawPair (by
  intro vs es r h; unfold F_spec_l31DrawPair at h; split at h
  · cases h; kernel_rfl
  · cases h)

abbrev X_spec_l01From_l0 := Int × List Int × Int × Int

def spec_l01From_l0_0 (y0 : Int) (y1 : List Int) : Bool :=
  bif decide (y0 < (↑(List.length y1) : Int)) then decide (y0 < (64 : Int)) else false

def spec_l01From_l0_1 (y0 : Int) : Bool :=
  decide ((0 : Int) ≤ y0)

def spec_l01From_l0_2 (y0 : Int) (y1 : List Int) : Bool :=
  decide (y0 < (↑(List.length y1) : Int))

def spec_l01From_l0_3 (y0 : Int) (y1 : List Int) : Bool :=
  decide (Int.toNat y0 < List.length y1)

def spec_l01From_l0_4  : Bool :=
  decide ((2147483647 : Int) ≠ (0 : Int))

def spec_l01From_l0_5 (y0 : Int) : Int :=
  IntKind.wrap IntKind.i64 (y0 + (1 : Int))

def spec_l01From_l0_6 (y0 : Int) (y1 : List Int) (y3 : Int) : Int :=
  Int.tmod (IntKind.wrap IntKind.i64 (IntKind.wrap IntKind.i64 (y3 * (59 : Int)) + IntKind.wrap IntKind.i64 (Option.getD y1[Int.toNat y0]? (0 : Int))))
  (2147483647 : Int)

def JL_spec_l01From_l0 : X_spec_l01From_l0 → List (Nat × SV)
  | (y0, _, _, _) => [(4, (.one ⟨false, [(.val (.int IntKind.i64 y0))]⟩)), (0, (.one ⟨false, [(.ref 0)]⟩)), (3, (.one ⟨false, [(.ptr 1 0)]⟩))]

def JE_spec_l01From_l0 : X_spec_l01From_l0 → List (Nat × Entry)
  | (_, y1, y2, y3) => [(0, (.row false 5 (CTy.int IntKind.u8) y1)), (1, (.box 121 [(.ref 0), (.val (.int IntKind.i64 y2)), (.val (.int IntKind.i64 y3))]))]

def XL_spec_l01From_l0 : Nat → X_spec_l01From_l0 → List (Nat × SV)
  | _, (_, _, _, _) => []

def XE_spec_l01From_l0 : Nat → X_spec_l01From_l0 → List (Nat × Entry)
  | _, (_, y1, y2, y3) => [(0, (.row false 5 (CTy.int IntKind.u8) y1)), (1, (.box 121 [(.ref 0), (.val (.int IntKind.i64 y2)), (.val (.int IntKind.i64 y3))]))]

def lt_spec_l01From_l0 : X_spec_l01From_l0 → LT X_spec_l01From_l0
  | (y0, y1, y2, y3) => .ite (spec_l01From_l0_0 y0 y1) (.need [(spec_l01From_l0_1 y0), (spec_l01From_l0_2 y0 y1), (spec_l01From_l0_3 y0 y1), (spec_l01From_l0_4)] (.nrm ((spec_l01From_l0_5 y0), y1, y2, (spec_l01From_l0_6 y0 y1 y3)) [(0, 0), (1, 1)])) (.ext 0 [(0, 0), (1, 1)])

def rd_spec_l01From_l0 (s : St) : Option X_spec_l01From_l0 :=
  (match s.look 4 with
  | some ⟨none, (.one ⟨false, [(.val (.int IntKind.i64 y0))]⟩)⟩ =>
  (match s.look 0 with
  | some ⟨none, (.one ⟨false, [(.ref 0)]⟩)⟩ =>
  (match s.look 3 with
  | some ⟨none, (.one ⟨false, [(.ptr 320 0)]⟩)⟩ =>
  (match s.ent 0 with
  | some (.row false 5 (CTy.int IntKind.u8) y1) =>
  (match s.ent 320 with
  | some (.box 121 [(.ref 0), (.val (.int IntKind.i64 y2)), (.val (.int IntKind.i64 y3))]) =>
  some (y0, y1, y2, y3)
  | _ => none)
  | _ => none)
  | _ => none)
  | _ => none)
  | _ => none)

def lp_spec_l01From_l0 : Lp X_spec_l01From_l0 where
  h := ⟨[8, 9, 10, 11, 12, 13, 14, 15, 18, 19, 20, 21, 22, 23, 24, 25, 26, 27, 28, 29, 30, 31, 32, 16, 17, 4], [0, 1], [], []⟩
  JL := JL_spec_l01From_l0
  JE := JE_spec_l01From_l0
  XL := XL_spec_l01From_l0
  XE := XE_spec_l01From_l0
  q := fun j => match j with | _ => .exit 0
  tags := [0]
  lt := lt_spec_l01From_l0
  fuel := fun (y0, y1, y2, y3) => y0.natAbs + y1.length + y2.natAbs + y3.natAbs
  fix := fun (_, y1, y2, _) (y0, _, _, y3) => (y0, y1, y2, y3)
  σ := [(0, 0), (1, 320)]
  rd := rd_spec_l01From_l0

theorem lpok_spec_l01From_l0 : LoopOk Try.prog (fun k => Nat.blt k Try.f66.ntmps) lp_spec_l01From_l0.F (loopAt Try.f66 0) := by
  refine Lp.ok (tbl := []) (lf := []) hmix lp_spec_l01From_l0 (by kernel_rfl) (LOk.nil _) (fun _ => rfl) (fun _ _ => rfl) ?_ ?_ ?_ ?_ (fun _ => rfl) ?_
  · intro x; obtain ⟨y0, y1, y2, y3⟩ := x; kernel_rfl
  · intro x; obtain ⟨y0, y1, y2, y3⟩ := x; kernel_rfl
  · intro s x h
    have h : rd_spec_l01From_l0 s = some x := h
    unfold rd_spec_l01From_l0 at h
    repeat' split at h
    all_goals cases h
    exact ⟨absS_cons (by assumption) rfl (absS_cons (by assumption) rfl (absS_cons (by assumption) rfl (rfl))), absE_cons rfl (by assumption) rfl (absE_cons rfl (by assumption) rfl (rfl))⟩
  · intro x; obtain ⟨y0, y1, y2, y3⟩ := x; kernel_rfl
  · intro x z; obtain ⟨y0, y1, y2, y3⟩ := x; exact (And.intro rfl trivial)

def spec_l01From_0 (x0 : List Int) : Int :=
  Prod.snd (Prod.snd (Prod.snd (Prod.snd (Lp.res lp_spec_l01From_l0 ((0 : Int), x0, (0 : Int), (52021 : Int))))))

def spec_l01From_1 (x0 : List Int) : Bool :=
  allT [Lp.fin lp_spec_l01From_l0 ((0 : Int), x0, (0 : Int), (52021 : Int))]

def F_spec_l01From : List SV → List Entry → Option Out
  | [.one ⟨false, [.ref 0]⟩], [.row false 5 (.int .u8) x0] => some ⟨(.one ⟨false, [(.ptr 1 0)]⟩), [(.row false 5 (CTy.int IntKind.u8) x0)], [(.box 121 [(.ref 0), (.val (.int IntKind.i64 (0 : Int))), (.val (.int IntKind.i64 (spec_l01From_0 x0)))])], [(spec_l01From_1 x0)]⟩
  | _, _ => none

def p_spec_l01From : PF Try.prog := PF.ofG Try.prog [] [lp_spec_l01From_l0.F] hmix 66 Try.f66 Try.func66 (LOk.fnT (l := [loopAt Try.f66 0]) (by kernel_rfl) (.cons lpok_spec_l01From_l0 (.nil _))) F_spec_l01From (by
  intro vs es r h; unfold F_spec_l01From at h; split at h
  · cases h; kernel_rfl
  · cases h)

def spec_DrawTicksToActive_0 (x0 : List Int) : Int :=
  spec_l31DrawPair_0 (0 : Int) (spec_l01From_0 x0) x0

def spec_DrawTicksToActive_1 (x0 : List Int) : Int :=
  spec_l31DrawPair_1 (0 : Int) (spec_l01From_0 x0) x0

def spec_DrawTicksToActive_2 (x0 : List Int) : Int :=
  spec_l31DrawPair_2 (0 : Int) (spec_l01From_0 x0) x0

def spec_DrawTicksToActive_3 (x0 : List Int) : Int :=
  spec_l31DrawPair_3 (0 : Int) (spec_l01From_0 x0) x0

def spec_DrawTicksToActive_4 (x0 : List Int) : Bool :=
  allT [spec_l01From_1 x0, spec_l31DrawPair_6 (0 : Int) (spec_l01From_0 x0) x0]

def F_spec_DrawTicksToActive : List SV → List Entry → Option Out
  | [.one ⟨false, [.ref 0]⟩], [.row false 5 (.int .u8) x0] => some ⟨(.one ⟨true, [(.val (.int IntKind.i64 (spec_DrawTicksToActive_0 x0))), (.val (.int IntKind.i64 (spec_DrawTicksToActive_1 x0))), (.val (.int IntKind.i64 (spec_DrawTicksToActive_2 x0))), (.val (.int IntKind.i64 (spec_DrawTicksToActive_3 x0)))]⟩), [(.row false 5 (CTy.int IntKind.u8) x0)], [], [(spec_DrawTicksToActive_4 x0)]⟩
  | _, _ => none

def p_spec_DrawTicksToActive : PF Try.prog := PF.ofG Try.prog [p_spec_l31DrawPair, PF.lend p_spec_l31DrawPair, PF.fz p_spec_l31DrawPair, p_spec_l01From, PF.lend p_spec_l01From, PF.fz p_spec_l01From] [] hmix 27 Try.f27 Try.func27 (fun c _ => LOk.nil c) F_spec_DrawTicksToActive (by
  intro vs es r h; unfold F_spec_DrawTicksToActive at h; split at h
  · cases h; kernel_rfl
  · cases h)

def impl_ActiveCount_0 (x0 : Int) (x1 : Int) (x2 : Int) (x3 : Int) : Int :=
  bif !impl_IsPair_0 x0 x1 x2 x3 then (0 : Int) else loop_example_g00916_impl_Pair_active_0 x0 x2

def impl_ActiveCount_1 (x0 : Int) (x1 : Int) (x2 : Int) (x3 : Int) : Int :=
  bif !impl_IsPair_0 x0 x1 x2 x3 then (1 : Int) else (0 : Int)

def F_impl_ActiveCount : List SV → List Entry → Option Out
  | [.one ⟨true, [.val (.int .i64 x0), .val (.int .i64 x1), .val (.int .i64 x2), .val (.int .i64 x3)]⟩], [] => some ⟨(.tup [⟨false, [(.val (.int IntKind.i64 (impl_ActiveCount_0 x0 x1 x2 x3)))]⟩, ⟨false, [(.val (.int IntKind.i64 (impl_ActiveCount_1 x0 x1 x2 x3)))]⟩]), [], [], []⟩
  | _, _ => none

def p_impl_ActiveCount : PF Try.prog := PF.ofG Try.prog [p_impl_IsPair, p_loop_example_g00916_impl_Pair_active] [] hmix 29 Try.f29 Try.func29 (fun c _ => LOk.nil c) F_impl_ActiveCount (by
  intro vs es r h; unfold F_impl_ActiveCount at h; split at h
  · cases h; kernel_rfl
  · cases h)

def laws_FnPairTicks_0 (x0 : List Int) : Bool :=
  bif laws_big_0 x0 then true
  else
  bif
      bif
          impl_TicksToActive_1 (spec_DrawTicksToActive_0 x0) (spec_DrawTicksToActive_1 x0) (spec_DrawTicksToActive_2 x0)
              (spec_DrawTicksToActive_3 x0) !=
            spec_TicksToActive_1 (spec_DrawTicksToActive_0 x0) (spec_DrawTicksToActive_1 x0) (spec_DrawTicksToActive_2 x0)
              (spec_DrawTicksToActive_3 x0) then
        true
      else
        impl_TicksToActive_0 (spec_DrawTicksToActive_0 x0) (spec_DrawTicksToActive_1 x0) (spec_DrawTicksToActive_2 x0)
            (spec_DrawTicksToActive_3 x0) !=
          spec_TicksToActive_0 (spec_DrawTicksToActive_0 x0) (spec_DrawTicksToActive_1 x0) (spec_DrawTicksToActive_2 x0)
            (spec_DrawTicksToActive_3 x0) then
    false
  else
    bif
        bif
            impl_TicksToActive_1 (spec_DrawTicksToActive_0 x0) (spec_DrawTicksToActive_1 x0) (spec_DrawTicksToActive_2 x0)
                (spec_DrawTicksToActive_3 x0) !=
              (0 : Int) then
          true
        else
          decide
            (spec_TicksToActive_0 (spec_DrawTicksToActive_0 x0) (spec_DrawTicksToActive_1 x0) (spec_DrawTicksToActive_2 x0)
                (spec_DrawTicksToActive_3 x0) <
              (0 : Int)) then
      true
    else
      bif
          bif
              bif
                  bif
                      impl_RunPair_4 (spec_DrawTicksToActive_0 x0) (spec_DrawTicksToActive_1 x0) (spec_DrawTicksToActive_2 x0)
                          (spec_DrawTicksToActive_3 x0)
                          (List.replicate
                            (Int.toNat
                              (spec_TicksToActive_0 (spec_DrawTicksToActive_0 x0) (spec_DrawTicksToActive_1 x0) (spec_DrawTicksToActive_2 x0)
                                (spec_DrawTicksToActive_3 x0)))
                            ((0 : Int), (0 : Int), false, false)) !=
                        (0 : Int) then
                    true
                  else
                    impl_ActiveCount_1
                        (impl_RunPair_0 (spec_DrawTicksToActive_0 x0) (spec_DrawTicksToActive_1 x0) (spec_DrawTicksToActive_2 x0)
                          (spec_DrawTicksToActive_3 x0)
                          (List.replicate
                            (Int.toNat
                              (spec_TicksToActive_0 (spec_DrawTicksToActive_0 x0) (spec_DrawTicksToActive_1 x0) (spec_DrawTicksToActive_2 x0)
                                (spec_DrawTicksToActive_3 x0)))
                            ((0 : Int), (0 : Int), false, false)))
                        (impl_RunPair_1 (spec_DrawTicksToActive_0 x0) (spec_DrawTicksToActive_1 x0) (spec_DrawTicksToActive_2 x0)
                          (spec_DrawTicksToActive_3 x0)
                          (List.replicate
                            (Int.toNat
                              (spec_TicksToActive_0 (spec_DrawTicksToActive_0 x0) (spec_DrawTicksToActive_1 x0) (spec_DrawTicksToActive_2 x0)
                                (spec_DrawTicksToActive_3 x0)))
                            ((0 : Int), (0 : Int), false, false)))
                        (impl_RunPair_2 (spec_DrawTicksToActive_0 x0) (spec_DrawTicksToActive_1 x0) (spec_DrawTicksToActive_2 x0)
                          (spec_DrawTicksToActive_3 x0)
                          (List.replicate
                            (Int.toNat
                              (spec_TicksToActive_0 (spec_DrawTicksToActive_0 x0) (spec_DrawTicksToActive_1 x0) (spec_DrawTicksToActive_2 x0)
                                (spec_DrawTicksToActive_3 x0)))
                            ((0 : Int), (0 : Int), false, false)))
                        (impl_RunPair_3 (spec_DrawTicksToActive_0 x0) (spec_DrawTicksToActive_1 x0) (spec_DrawTicksToActive_2 x0)
                          (spec_DrawTicksToActive_3 x0)
                          (List.replicate
                            (Int.toNat
                              (spec_TicksToActive_0 (spec_DrawTicksToActive_0 x0) (spec_DrawTicksToActive_1 x0) (spec_DrawTicksToActive_2 x0)
                                (spec_DrawTicksToActive_3 x0)))
                            ((0 : Int), (0 : Int), false, false))) !=
                      (0 : Int) then
                true
              else
                decide
                  (impl_ActiveCount_0
                      (impl_RunPair_0 (spec_DrawTicksToActive_0 x0) (spec_DrawTicksToActive_1 x0) (spec_DrawTicksToActive_2 x0)
                        (spec_DrawTicksToActive_3 x0)
                        (List.replicate
                          (Int.toNat
                            (spec_TicksToActive_0 (spec_DrawTicksToActive_0 x0) (spec_DrawTicksToActive_1 x0) (spec_DrawTicksToActive_2 x0)
                              (spec_DrawTicksToActive_3 x0)))
                          ((0 : Int), (0 : Int), false, false)))
                      (impl_RunPair_1 (spec_DrawTicksToActive_0 x0) (spec_DrawTicksToActive_1 x0) (spec_DrawTicksToActive_2 x0)
                        (spec_DrawTicksToActive_3 x0)
                        (List.replicate
                          (Int.toNat
                            (spec_TicksToActive_0 (spec_DrawTicksToActive_0 x0) (spec_DrawTicksToActive_1 x0) (spec_DrawTicksToActive_2 x0)
                              (spec_DrawTicksToActive_3 x0)))
                          ((0 : Int), (0 : Int), false, false)))
                      (impl_RunPair_2 (spec_DrawTicksToActive_0 x0) (spec_DrawTicksToActive_1 x0) (spec_DrawTicksToActive_2 x0)
                        (spec_DrawTicksToActive_3 x0)
                        (List.replicate
                          (Int.toNat
                            (spec_TicksToActive_0 (spec_DrawTicksToActive_0 x0) (spec_DrawTicksToActive_1 x0) (spec_DrawTicksToActive_2 x0)
                              (spec_DrawTicksToActive_3 x0)))
                          ((0 : Int), (0 : Int), false, false)))
                      (impl_RunPair_3 (spec_DrawTicksToActive_0 x0) (spec_DrawTicksToActive_1 x0) (spec_DrawTicksToActive_2 x0)
                        (spec_DrawTicksToActive_3 x0)
                        (List.replicate
                          (Int.toNat
                            (spec_TicksToActive_0 (spec_DrawTicksToActive_0 x0) (spec_DrawTicksToActive_1 x0) (spec_DrawTicksToActive_2 x0)
                              (spec_DrawTicksToActive_3 x0)))
                          ((0 : Int), (0 : Int), false, false))) <
                    (1 : Int)) then
            true
          else
            decide
              (spec_TicksToActive_0 (spec_DrawTicksToActive_0 x0) (spec_DrawTicksToActive_1 x0) (spec_DrawTicksToActive_2 x0)
                  (spec_DrawTicksToActive_3 x0) >
                (6 : Int)) then
        false
      else
        bif
            spec_TicksToActive_0 (spec_DrawTicksToActive_0 x0) (spec_DrawTicksToActive_1 x0) (spec_DrawTicksToActive_2 x0)
                (spec_DrawTicksToActive_3 x0) ==
              (0 : Int) then
          true
        else
          bif
              bif
                  impl_RunPair_4 (spec_DrawTicksToActive_0 x0) (spec_DrawTicksToActive_1 x0) (spec_DrawTicksToActive_2 x0)
                      (spec_DrawTicksToActive_3 x0)
                      (List.replicate
                        (Int.toNat
                          (IntKind.wrap IntKind.i64
                            (spec_TicksToActive_0 (spec_DrawTicksToActive_0 x0) (spec_DrawTicksToActive_1 x0) (spec_DrawTicksToActive_2 x0)
                                (spec_DrawTicksToActive_3 x0) -
                              (1 : Int))))
                        ((0 : Int), (0 : Int), false, false)) ==
                    (0 : Int) then
                impl_ActiveCount_1
                    (impl_RunPair_0 (spec_DrawTicksToActive_0 x0) (spec_DrawTicksToActive_1 x0) (spec_DrawTicksToActive_2 x0)
                      (spec_DrawTicksToActive_3 x0)
                      (List.replicate
                        (Int.toNat
                          (IntKind.wrap IntKind.i64
                            (spec_TicksToActive_0 (spec_DrawTicksToActive_0 x0) (spec_DrawTicksToActive_1 x0) (spec_DrawTicksToActive_2 x0)
                                (spec_DrawTicksToActive_3 x0) -
                              (1 : Int))))
                        ((0 : Int), (0 : Int), false, false)))
                    (impl_RunPair_1 (spec_DrawTicksToActive_0 x0) (spec_DrawTicksToActive_1 x0) (spec_DrawTicksToActive_2 x0)
                      (spec_DrawTicksToActive_3 x0)
                      (List.replicate
                        (Int.toNat
                          (IntKind.wrap IntKind.i64
                            (spec_TicksToActive_0 (spec_DrawTicksToActive_0 x0) (spec_DrawTicksToActive_1 x0) (spec_DrawTicksToActive_2 x0)
                                (spec_DrawTicksToActive_3 x0) -
                              (1 : Int))))
                        ((0 : Int), (0 : Int), false, false)))
                    (impl_RunPair_2 (spec_DrawTicksToActive_0 x0) (spec_DrawTicksToActive_1 x0) (spec_DrawTicksToActive_2 x0)
                      (spec_DrawTicksToActive_3 x0)
                      (List.replicate
                        (Int.toNat
                          (IntKind.wrap IntKind.i64
                            (spec_TicksToActive_0 (spec_DrawTicksToActive_0 x0) (spec_DrawTicksToActive_1 x0) (spec_DrawTicksToActive_2 x0)
                                (spec_DrawTicksToActive_3 x0) -
                              (1 : Int))))
                        ((0 : Int), (0 : Int), false, false)))
                    (impl_RunPair_3 (spec_DrawTicksToActive_0 x0) (spec_DrawTicksToActive_1 x0) (spec_DrawTicksToActive_2 x0)
                      (spec_DrawTicksToActive_3 x0)
                      (List.replicate
                        (Int.toNat
                          (IntKind.wrap IntKind.i64
                            (spec_TicksToActive_0 (spec_DrawTicksToActive_0 x0) (spec_DrawTicksToActive_1 x0) (spec_DrawTicksToActive_2 x0)
                                (spec_DrawTicksToActive_3 x0) -
                              (1 : Int))))
                        ((0 : Int), (0 : Int), false, false))) ==
                  (0 : Int)
              else false then
            impl_ActiveCount_0
                (impl_RunPair_0 (spec_DrawTicksToActive_0 x0) (spec_DrawTicksToActive_1 x0) (spec_DrawTicksToActive_2 x0)
                  (spec_DrawTicksToActive_3 x0)
                  (List.replicate
                    (Int.toNat
                      (IntKind.wrap IntKind.i64
                        (spec_TicksToActive_0 (spec_DrawTicksToActive_0 x0) (spec_DrawTicksToActive_1 x0) (spec_DrawTicksToActive_2 x0)
                            (spec_DrawTicksToActive_3 x0) -
                          (1 : Int))))
                    ((0 : Int), (0 : Int), false, false)))
                (impl_RunPair_1 (spec_DrawTicksToActive_0 x0) (spec_DrawTicksToActive_1 x0) (spec_DrawTicksToActive_2 x0)
                  (spec_DrawTicksToActive_3 x0)
                  (List.replicate
                    (Int.toNat
                      (IntKind.wrap IntKind.i64
                        (spec_TicksToActive_0 (spec_DrawTicksToActive_0 x0) (spec_DrawTicksToActive_1 x0) (spec_DrawTicksToActive_2 x0)
                            (spec_DrawTicksToActive_3 x0) -
                          (1 : Int))))
                    ((0 : Int), (0 : Int), false, false)))
                (impl_RunPair_2 (spec_DrawTicksToActive_0 x0) (spec_DrawTicksToActive_1 x0) (spec_DrawTicksToActive_2 x0)
                  (spec_DrawTicksToActive_3 x0)
                  (List.replicate
                    (Int.toNat
                      (IntKind.wrap IntKind.i64
                        (spec_TicksToActive_0 (spec_DrawTicksToActive_0 x0) (spec_DrawTicksToActive_1 x0) (spec_DrawTicksToActive_2 x0)
                            (spec_DrawTicksToActive_3 x0) -
                          (1 : Int))))
                    ((0 : Int), (0 : Int), false, false)))
                (impl_RunPair_3 (spec_DrawTicksToActive_0 x0) (spec_DrawTicksToActive_1 x0) (spec_DrawTicksToActive_2 x0)
                  (spec_DrawTicksToActive_3 x0)
                  (List.replicate
                    (Int.toNat
                      (IntKind.wrap IntKind.i64
                        (spec_TicksToActive_0 (spec_DrawTicksToActive_0 x0) (spec_DrawTicksToActive_1 x0) (spec_DrawTicksToActive_2 x0)
                            (spec_DrawTicksToActive_3 x0) -
                          (1 : Int))))
                    ((0 : Int), (0 : Int), false, false))) ==
              (0 : Int)
          else false

def laws_FnPairTicks_1 (x0 : List Int) : Bool :=
  allT
  [laws_big_0 x0 || spec_DrawTicksToActive_4 x0,
    laws_big_0 x0 ||
      impl_TicksToActive_2 (spec_DrawTicksToActive_0 x0) (spec_DrawTicksToActive_1 x0) (spec_DrawTicksToActive_2 x0) (spec_DrawTicksToActive_3 x0),
    laws_big_0 x0 ||
      spec_TicksToActive_2 (spec_DrawTicksToActive_0 x0) (spec_DrawTicksToActive_1 x0) (spec_DrawTicksToActive_2 x0) (spec_DrawTicksToActive_3 x0),
    laws_big_0 x0 ||
      ((bif
            impl_TicksToActive_1 (spec_DrawTicksToActive_0 x0) (spec_DrawTicksToActive_1 x0) (spec_DrawTicksToActive_2 x0)
                (spec_DrawTicksToActive_3 x0) !=
              spec_TicksToActive_1 (spec_DrawTicksToActive_0 x0) (spec_DrawTicksToActive_1 x0) (spec_DrawTicksToActive_2 x0)
                (spec_DrawTicksToActive_3 x0) then
          true
        else
          impl_TicksToActive_0 (spec_DrawTicksToActive_0 x0) (spec_DrawTicksToActive_1 x0) (spec_DrawTicksToActive_2 x0)
              (spec_DrawTicksToActive_3 x0) !=
            spec_TicksToActive_0 (spec_DrawTicksToActive_0 x0) (spec_DrawTicksToActive_1 x0) (spec_DrawTicksToActive_2 x0)
              (spec_DrawTicksToActive_3 x0)) ||
        ((bif
              impl_TicksToActive_1 (spec_DrawTicksToActive_0 x0) (spec_DrawTicksToActive_1 x0) (spec_DrawTicksToActive_2 x0)
                  (spec_DrawTicksToActive_3 x0) !=
                (0 : Int) then
            true
          else
            decide
              (spec_TicksToActive_0 (spec_DrawTicksToActive_0 x0) (spec_DrawTicksToActive_1 x0) (spec_DrawTicksToActive_2 x0)
                  (spec_DrawTicksToActive_3 x0) <
                (0 : Int))) ||
          decide
            ((0 : Int) ≤
              spec_TicksToActive_0 (spec_DrawTicksToActive_0 x0) (spec_DrawTicksToActive_1 x0) (spec_DrawTicksToActive_2 x0)
                (spec_DrawTicksToActive_3 x0)))),
    laws_big_0 x0 ||
      ((bif
            impl_TicksToActive_1 (spec_DrawTicksToActive_0 x0) (spec_DrawTicksToActive_1 x0) (spec_DrawTicksToActive_2 x0)
                (spec_DrawTicksToActive_3 x0) !=
              spec_TicksToActive_1 (spec_DrawTicksToActive_0 x0) (spec_DrawTicksToActive_1 x0) (spec_DrawTicksToActive_2 x0)
                (spec_DrawTicksToActive_3 x0) then
          true
        else
          impl_TicksToActive_0 (spec_DrawTicksToActive_0 x0) (spec_DrawTicksToActive_1 x0) (spec_DrawTicksToActive_2 x0)
              (spec_DrawTicksToActive_3 x0) !=
            spec_TicksToActive_0 (spec_DrawTicksToActive_0 x0) (spec_DrawTicksToActive_1 x0) (spec_DrawTicksToActive_2 x0)
              (spec_DrawTicksToActive_3 x0)) ||
        ((bif
              impl_TicksToActive_1 (spec_DrawTicksToActive_0 x0) (spec_DrawTicksToActive_1 x0) (spec_DrawTicksToActive_2 x0)
                  (spec_DrawTicksToActive_3 x0) !=
                (0 : Int) then
            true
          else
            decide
              (spec_TicksToActive_0 (spec_DrawTicksToActive_0 x0) (spec_DrawTicksToActive_1 x0) (spec_DrawTicksToActive_2 x0)
                  (spec_DrawTicksToActive_3 x0) <
                (0 : Int))) ||
          decide
            (spec_TicksToActive_0 (spec_DrawTicksToActive_0 x0) (spec_DrawTicksToActive_1 x0) (spec_DrawTicksToActive_2 x0)
                (spec_DrawTicksToActive_3 x0) ≤
              spec_TicksToActive_0 (spec_DrawTicksToActive_0 x0) (spec_DrawTicksToActive_1 x0) (spec_DrawTicksToActive_2 x0)
                (spec_DrawTicksToActive_3 x0)))),
    laws_big_0 x0 ||
      ((bif
            impl_TicksToActive_1 (spec_DrawTicksToActive_0 x0) (spec_DrawTicksToActive_1 x0) (spec_DrawTicksToActive_2 x0)
                (spec_DrawTicksToActive_3 x0) !=
              spec_TicksToActive_1 (spec_DrawTicksToActive_0 x0) (spec_DrawTicksToActive_1 x0) (spec_DrawTicksToActive_2 x0)
                (spec_DrawTicksToActive_3 x0) then
          true
        else
          impl_TicksToActive_0 (spec_DrawTicksToActive_0 x0) (spec_DrawTicksToActive_1 x0) (spec_DrawTicksToActive_2 x0)
              (spec_DrawTicksToActive_3 x0) !=
            spec_TicksToActive_0 (spec_DrawTicksToActive_0 x0) (spec_DrawTicksToActive_1 x0) (spec_DrawTicksToActive_2 x0)
              (spec_DrawTicksToActive_3 x0)) ||
        ((bif
              impl_TicksToActive_1 (spec_DrawTicksToActive_0 x0) (spec_DrawTicksToActive_1 x0) (spec_DrawTicksToActive_2 x0)
                  (spec_DrawTicksToActive_3 x0) !=
                (0 : Int) then
            true
          else
            decide
              (spec_TicksToActive_0 (spec_DrawTicksToActive_0 x0) (spec_DrawTicksToActive_1 x0) (spec_DrawTicksToActive_2 x0)
                  (spec_DrawTicksToActive_3 x0) <
                (0 : Int))) ||
          decide
            ((↑(24 : Nat) : Int) *
                spec_TicksToActive_0 (spec_DrawTicksToActive_0 x0) (spec_DrawTicksToActive_1 x0) (spec_DrawTicksToActive_2 x0)
                  (spec_DrawTicksToActive_3 x0) ≤
              (281474976710656 : Int)))),
    laws_big_0 x0 ||
      ((bif
            impl_TicksToActive_1 (spec_DrawTicksToActive_0 x0) (spec_DrawTicksToActive_1 x0) (spec_DrawTicksToActive_2 x0)
                (spec_DrawTicksToActive_3 x0) !=
              spec_TicksToActive_1 (spec_DrawTicksToActive_0 x0) (spec_DrawTicksToActive_1 x0) (spec_DrawTicksToActive_2 x0)
                (spec_DrawTicksToActive_3 x0) then
          true
        else
          impl_TicksToActive_0 (spec_DrawTicksToActive_0 x0) (spec_DrawTicksToActive_1 x0) (spec_DrawTicksToActive_2 x0)
              (spec_DrawTicksToActive_3 x0) !=
            spec_TicksToActive_0 (spec_DrawTicksToActive_0 x0) (spec_DrawTicksToActive_1 x0) (spec_DrawTicksToActive_2 x0)
              (spec_DrawTicksToActive_3 x0)) ||
        ((bif
              impl_TicksToActive_1 (spec_DrawTicksToActive_0 x0) (spec_DrawTicksToActive_1 x0) (spec_DrawTicksToActive_2 x0)
                  (spec_DrawTicksToActive_3 x0) !=
                (0 : Int) then
            true
          else
            decide
              (spec_TicksToActive_0 (spec_DrawTicksToActive_0 x0) (spec_DrawTicksToActive_1 x0) (spec_DrawTicksToActive_2 x0)
                  (spec_DrawTicksToActive_3 x0) <
                (0 : Int))) ||
          decide
            (spec_TicksToActive_0 (spec_DrawTicksToActive_0 x0) (spec_DrawTicksToActive_1 x0) (spec_DrawTicksToActive_2 x0)
                (spec_DrawTicksToActive_3 x0) ≤
              (9223372036854775807 : Int)))),
    laws_big_0 x0 ||
      ((bif
            impl_TicksToActive_1 (spec_DrawTicksToActive_0 x0) (spec_DrawTicksToActive_1 x0) (spec_DrawTicksToActive_2 x0)
                (spec_DrawTicksToActive_3 x0) !=
              spec_TicksToActive_1 (spec_DrawTicksToActive_0 x0) (spec_DrawTicksToActive_1 x0) (spec_DrawTicksToActive_2 x0)
                (spec_DrawTicksToActive_3 x0) then
          true
        else
          impl_TicksToActive_0 (spec_DrawTicksToActive_0 x0) (spec_DrawTicksToActive_1 x0) (spec_DrawTicksToActive_2 x0)
              (spec_DrawTicksToActive_3 x0) !=
            spec_TicksToActive_0 (spec_DrawTicksToActive_0 x0) (spec_DrawTicksToActive_1 x0) (spec_DrawTicksToActive_2 x0)
              (spec_DrawTicksToActive_3 x0)) ||
        ((bif
              impl_TicksToActive_1 (spec_DrawTicksToActive_0 x0) (spec_DrawTicksToActive_1 x0) (spec_DrawTicksToActive_2 x0)
                  (spec_DrawTicksToActive_3 x0) !=
                (0 : Int) then
            true
          else
            decide
              (spec_TicksToActive_0 (spec_DrawTicksToActive_0 x0) (spec_DrawTicksToActive_1 x0) (spec_DrawTicksToActive_2 x0)
                  (spec_DrawTicksToActive_3 x0) <
                (0 : Int))) ||
          impl_RunPair_5 (spec_DrawTicksToActive_0 x0) (spec_DrawTicksToActive_1 x0) (spec_DrawTicksToActive_2 x0) (spec_DrawTicksToActive_3 x0)
            (List.replicate
              (Int.toNat
                (spec_TicksToActive_0 (spec_DrawTicksToActive_0 x0) (spec_DrawTicksToActive_1 x0) (spec_DrawTicksToActive_2 x0)
                  (spec_DrawTicksToActive_3 x0)))
              ((0 : Int), (0 : Int), false, false)))),
    laws_big_0 x0 ||
      ((bif
            impl_TicksToActive_1 (spec_DrawTicksToActive_0 x0) (spec_DrawTicksToActive_1 x0) (spec_DrawTicksToActive_2 x0)
                (spec_DrawTicksToActive_3 x0) !=
              spec_TicksToActive_1 (spec_DrawTicksToActive_0 x0) (spec_DrawTicksToActive_1 x0) (spec_DrawTicksToActive_2 x0)
                (spec_DrawTicksToActive_3 x0) then
          true
        else
          impl_TicksToActive_0 (spec_DrawTicksToActive_0 x0) (spec_DrawTicksToActive_1 x0) (spec_DrawTicksToActive_2 x0)
              (spec_DrawTicksToActive_3 x0) !=
            spec_TicksToActive_0 (spec_DrawTicksToActive_0 x0) (spec_DrawTicksToActive_1 x0) (spec_DrawTicksToActive_2 x0)
              (spec_DrawTicksToActive_3 x0)) ||
        ((bif
              impl_TicksToActive_1 (spec_DrawTicksToActive_0 x0) (spec_DrawTicksToActive_1 x0) (spec_DrawTicksToActive_2 x0)
                  (spec_DrawTicksToActive_3 x0) !=
                (0 : Int) then
            true
          else
            decide
              (spec_TicksToActive_0 (spec_DrawTicksToActive_0 x0) (spec_DrawTicksToActive_1 x0) (spec_DrawTicksToActive_2 x0)
                  (spec_DrawTicksToActive_3 x0) <
                (0 : Int))) ||
          ((bif
                bif
                    bif
                        impl_RunPair_4 (spec_DrawTicksToActive_0 x0) (spec_DrawTicksToActive_1 x0) (spec_DrawTicksToActive_2 x0)
                            (spec_DrawTicksToActive_3 x0)
                            (List.replicate
                              (Int.toNat
                                (spec_TicksToActive_0 (spec_DrawTicksToActive_0 x0) (spec_DrawTicksToActive_1 x0) (spec_DrawTicksToActive_2 x0)
                                  (spec_DrawTicksToActive_3 x0)))
                              ((0 : Int), (0 : Int), false, false)) !=
                          (0 : Int) then
                      true
                    else
                      impl_ActiveCount_1
                          (impl_RunPair_0 (spec_DrawTicksToActive_0 x0) (spec_DrawTicksToActive_1 x0) (spec_DrawTicksToActive_2 x0)
                            (spec_DrawTicksToActive_3 x0)
                            (List.replicate
                              (Int.toNat
                                (spec_TicksToActive_0 (spec_DrawTicksToActive_0 x0) (spec_DrawTicksToActive_1 x0) (spec_DrawTicksToActive_2 x0)
                                  (spec_DrawTicksToActive_3 x0)))
                              ((0 : Int), (0 : Int), false, false)))
                          (impl_RunPair_1 (spec_DrawTicksToActive_0 x0) (spec_DrawTicksToActive_1 x0) (spec_DrawTicksToActive_2 x0)
                            (spec_DrawTicksToActive_3 x0)
                            (List.replicate
                              (Int.toNat
                                (spec_TicksToActive_0 (spec_DrawTicksToActive_0 x0) (spec_DrawTicksToActive_1 x0) (spec_DrawTicksToActive_2 x0)
                                  (spec_DrawTicksToActive_3 x0)))
                              ((0 : Int), (0 : Int), false, false)))
                          (impl_RunPair_2 (spec_DrawTicksToActive_0 x0) (spec_DrawTicksToActive_1 x0) (spec_DrawTicksToActive_2 x0)
                            (spec_DrawTicksToActive_3 x0)
                            (List.replicate
                              (Int.toNat
                                (spec_TicksToActive_0 (spec_DrawTicksToActive_0 x0) (spec_DrawTicksToActive_1 x0) (spec_DrawTicksToActive_2 x0)
                                  (spec_DrawTicksToActive_3 x0)))
                              ((0 : Int), (0 : Int), false, false)))
                          (impl_RunPair_3 (spec_DrawTicksToActive_0 x0) (spec_DrawTicksToActive_1 x0) (spec_DrawTicksToActive_2 x0)
                            (spec_DrawTicksToActive_3 x0)
                            (List.replicate
                              (Int.toNat
                                (spec_TicksToActive_0 (spec_DrawTicksToActive_0 x0) (spec_DrawTicksToActive_1 x0) (spec_DrawTicksToActive_2 x0)
                                  (spec_DrawTicksToActive_3 x0)))
                              ((0 : Int), (0 : Int), false, false))) !=
                        (0 : Int) then
                  true
                else
                  decide
                    (impl_ActiveCount_0
                        (impl_RunPair_0 (spec_DrawTicksToActive_0 x0) (spec_DrawTicksToActive_1 x0) (spec_DrawTicksToActive_2 x0)
                          (spec_DrawTicksToActive_3 x0)
                          (List.replicate
                            (Int.toNat
                              (spec_TicksToActive_0 (spec_DrawTicksToActive_0 x0) (spec_DrawTicksToActive_1 x0) (spec_DrawTicksToActive_2 x0)
                                (spec_DrawTicksToActive_3 x0)))
                            ((0 : Int), (0 : Int), false, false)))
                        (impl_RunPair_1 (spec_DrawTicksToActive_0 x0) (spec_DrawTicksToActive_1 x0) (spec_DrawTicksToActive_2 x0)
                          (spec_DrawTicksToActive_3 x0)
                          (List.replicate
                            (Int.toNat
                              (spec_TicksToActive_0 (spec_DrawTicksToActive_0 x0) (spec_DrawTicksToActive_1 x0) (spec_DrawTicksToActive_2 x0)
                                (spec_DrawTicksToActive_3 x0)))
                            ((0 : Int), (0 : Int), false, false)))
                        (impl_RunPair_2 (spec_DrawTicksToActive_0 x0) (spec_DrawTicksToActive_1 x0) (spec_DrawTicksToActive_2 x0)
                          (spec_DrawTicksToActive_3 x0)
                          (List.replicate
                            (Int.toNat
                              (spec_TicksToActive_0 (spec_DrawTicksToActive_0 x0) (spec_DrawTicksToActive_1 x0) (spec_DrawTicksToActive_2 x0)
                                (spec_DrawTicksToActive_3 x0)))
                            ((0 : Int), (0 : Int), false, false)))
                        (impl_RunPair_3 (spec_DrawTicksToActive_0 x0) (spec_DrawTicksToActive_1 x0) (spec_DrawTicksToActive_2 x0)
                          (spec_DrawTicksToActive_3 x0)
                          (List.replicate
                            (Int.toNat
                              (spec_TicksToActive_0 (spec_DrawTicksToActive_0 x0) (spec_DrawTicksToActive_1 x0) (spec_DrawTicksToActive_2 x0)
                                (spec_DrawTicksToActive_3 x0)))
                            ((0 : Int), (0 : Int), false, false))) <
                      (1 : Int)) then
              true
            else
              decide
                (spec_TicksToActive_0 (spec_DrawTicksToActive_0 x0) (spec_DrawTicksToActive_1 x0) (spec_DrawTicksToActive_2 x0)
                    (spec_DrawTicksToActive_3 x0) >
                  (6 : Int))) ||
            (spec_TicksToActive_0 (spec_DrawTicksToActive_0 x0) (spec_DrawTicksToActive_1 x0) (spec_DrawTicksToActive_2 x0)
                  (spec_DrawTicksToActive_3 x0) ==
                (0 : Int) ||
              decide
                ((0 : Int) ≤
                  IntKind.wrap IntKind.i64
                    (spec_TicksToActive_0 (spec_DrawTicksToActive_0 x0) (spec_DrawTicksToActive_1 x0) (spec_DrawTicksToActive_2 x0)
                        (spec_DrawTicksToActive_3 x0) -
                      (1 : Int))))))),
    laws_big_0 x0 ||
      ((bif
            impl_TicksToActive_1 (spec_DrawTicksToActive_0 x0) (spec_DrawTicksToActive_1 x0) (spec_DrawTicksToActive_2 x0)
                (spec_DrawTicksToActive_3 x0) !=
              spec_TicksToActive_1 (spec_DrawTicksToActive_0 x0) (spec_DrawTicksToActive_1 x0) (spec_DrawTicksToActive_2 x0)
                (spec_DrawTicksToActive_3 x0) then
          true
        else
          impl_TicksToActive_0 (spec_DrawTicksToActive_0 x0) (spec_DrawTicksToActive_1 x0) (spec_DrawTicksToActive_2 x0)
              (spec_DrawTicksToActive_3 x0) !=
            spec_TicksToActive_0 (spec_DrawTicksToActive_0 x0) (spec_DrawTicksToActive_1 x0) (spec_DrawTicksToActive_2 x0)
              (spec_DrawTicksToActive_3 x0)) ||
        ((bif
              impl_TicksToActive_1 (spec_DrawTicksToActive_0 x0) (spec_DrawTicksToActive_1 x0) (spec_DrawTicksToActive_2 x0)
                  (spec_DrawTicksToActive_3 x0) !=
                (0 : Int) then
            true
          else
            decide
              (spec_TicksToActive_0 (spec_DrawTicksToActive_0 x0) (spec_DrawTicksToActive_1 x0) (spec_DrawTicksToActive_2 x0)
                  (spec_DrawTicksToActive_3 x0) <
                (0 : Int))) ||
          ((bif
                bif
                    bif
                        impl_RunPair_4 (spec_DrawTicksToActive_0 x0) (spec_DrawTicksToActive_1 x0) (spec_DrawTicksToActive_2 x0)
                            (spec_DrawTicksToActive_3 x0)
                            (List.replicate
                              (Int.toNat
                                (spec_TicksToActive_0 (spec_DrawTicksToActive_0 x0) (spec_DrawTicksToActive_1 x0) (spec_DrawTicksToActive_2 x0)
                                  (spec_DrawTicksToActive_3 x0)))
                              ((0 : Int), (0 : Int), false, false)) !=
                          (0 : Int) then
                      true
                    else
                      impl_ActiveCount_1
                          (impl_RunPair_0 (spec_DrawTicksToActive_0 x0) (spec_DrawTicksToActive_1 x0) (spec_DrawTicksToActive_2 x0)
                            (spec_DrawTicksToActive_3 x0)
                            (List.replicate
                              (Int.toNat
                                (spec_TicksToActive_0 (spec_DrawTicksToActive_0 x0) (spec_DrawTicksToActive_1 x0) (spec_DrawTicksToActive_2 x0)
                                  (spec_DrawTicksToActive_3 x0)))
                              ((0 : Int), (0 : Int), false, false)))
                          (impl_RunPair_1 (spec_DrawTicksToActive_0 x0) (spec_DrawTicksToActive_1 x0) (spec_DrawTicksToActive_2 x0)
                            (spec_DrawTicksToActive_3 x0)
                            (List.replicate
                              (Int.toNat
                                (spec_TicksToActive_0 (spec_DrawTicksToActive_0 x0) (spec_DrawTicksToActive_1 x0) (spec_DrawTicksToActive_2 x0)
                                  (spec_DrawTicksToActive_3 x0)))
                              ((0 : Int), (0 : Int), false, false)))
                          (impl_RunPair_2 (spec_DrawTicksToActive_0 x0) (spec_DrawTicksToActive_1 x0) (spec_DrawTicksToActive_2 x0)
                            (spec_DrawTicksToActive_3 x0)
                            (List.replicate
                              (Int.toNat
                                (spec_TicksToActive_0 (spec_DrawTicksToActive_0 x0) (spec_DrawTicksToActive_1 x0) (spec_DrawTicksToActive_2 x0)
                                  (spec_DrawTicksToActive_3 x0)))
                              ((0 : Int), (0 : Int), false, false)))
                          (impl_RunPair_3 (spec_DrawTicksToActive_0 x0) (spec_DrawTicksToActive_1 x0) (spec_DrawTicksToActive_2 x0)
                            (spec_DrawTicksToActive_3 x0)
                            (List.replicate
                              (Int.toNat
                                (spec_TicksToActive_0 (spec_DrawTicksToActive_0 x0) (spec_DrawTicksToActive_1 x0) (spec_DrawTicksToActive_2 x0)
                                  (spec_DrawTicksToActive_3 x0)))
                              ((0 : Int), (0 : Int), false, false))) !=
                        (0 : Int) then
                  true
                else
                  decide
                    (impl_ActiveCount_0
                        (impl_RunPair_0 (spec_DrawTicksToActive_0 x0) (spec_DrawTicksToActive_1 x0) (spec_DrawTicksToActive_2 x0)
                          (spec_DrawTicksToActive_3 x0)
                          (List.replicate
                            (Int.toNat
                              (spec_TicksToActive_0 (spec_DrawTicksToActive_0 x0) (spec_DrawTicksToActive_1 x0) (spec_DrawTicksToActive_2 x0)
                                (spec_DrawTicksToActive_3 x0)))
                            ((0 : Int), (0 : Int), false, false)))
                        (impl_RunPair_1 (spec_DrawTicksToActive_0 x0) (spec_DrawTicksToActive_1 x0) (spec_DrawTicksToActive_2 x0)
                          (spec_DrawTicksToActive_3 x0)
                          (List.replicate
                            (Int.toNat
                              (spec_TicksToActive_0 (spec_DrawTicksToActive_0 x0) (spec_DrawTicksToActive_1 x0) (spec_DrawTicksToActive_2 x0)
                                (spec_DrawTicksToActive_3 x0)))
                            ((0 : Int), (0 : Int), false, false)))
                        (impl_RunPair_2 (spec_DrawTicksToActive_0 x0) (spec_DrawTicksToActive_1 x0) (spec_DrawTicksToActive_2 x0)
                          (spec_DrawTicksToActive_3 x0)
                          (List.replicate
                            (Int.toNat
                              (spec_TicksToActive_0 (spec_DrawTicksToActive_0 x0) (spec_DrawTicksToActive_1 x0) (spec_DrawTicksToActive_2 x0)
                                (spec_DrawTicksToActive_3 x0)))
                            ((0 : Int), (0 : Int), false, false)))
                        (impl_RunPair_3 (spec_DrawTicksToActive_0 x0) (spec_DrawTicksToActive_1 x0) (spec_DrawTicksToActive_2 x0)
                          (spec_DrawTicksToActive_3 x0)
                          (List.replicate
                            (Int.toNat
                              (spec_TicksToActive_0 (spec_DrawTicksToActive_0 x0) (spec_DrawTicksToActive_1 x0) (spec_DrawTicksToActive_2 x0)
                                (spec_DrawTicksToActive_3 x0)))
                            ((0 : Int), (0 : Int), false, false))) <
                      (1 : Int)) then
              true
            else
              decide
                (spec_TicksToActive_0 (spec_DrawTicksToActive_0 x0) (spec_DrawTicksToActive_1 x0) (spec_DrawTicksToActive_2 x0)
                    (spec_DrawTicksToActive_3 x0) >
                  (6 : Int))) ||
            (spec_TicksToActive_0 (spec_DrawTicksToActive_0 x0) (spec_DrawTicksToActive_1 x0) (spec_DrawTicksToActive_2 x0)
                  (spec_DrawTicksToActive_3 x0) ==
                (0 : Int) ||
              decide
                (IntKind.wrap IntKind.i64
                    (spec_TicksToActive_0 (spec_DrawTicksToActive_0 x0) (spec_DrawTicksToActive_1 x0) (spec_DrawTicksToActive_2 x0)
                        (spec_DrawTicksToActive_3 x0) -
                      (1 : Int)) ≤
                  IntKind.wrap IntKind.i64
                    (spec_TicksToActive_0 (spec_DrawTicksToActive_0 x0) (spec_DrawTicksToActive_1 x0) (spec_DrawTicksToActive_2 x0)
                        (spec_DrawTicksToActive_3 x0) -
                      (1 : Int))))))),
    laws_big_0 x0 ||
      ((bif
            impl_TicksToActive_1 (spec_DrawTicksToActive_0 x0) (spec_DrawTicksToActive_1 x0) (spec_DrawTicksToActive_2 x0)
                (spec_DrawTicksToActive_3 x0) !=
              spec_TicksToActive_1 (spec_DrawTicksToActive_0 x0) (spec_DrawTicksToActive_1 x0) (spec_DrawTicksToActive_2 x0)
                (spec_DrawTicksToActive_3 x0) then
          true
        else
          impl_TicksToActive_0 (spec_DrawTicksToActive_0 x0) (spec_DrawTicksToActive_1 x0) (spec_DrawTicksToActive_2 x0)
              (spec_DrawTicksToActive_3 x0) !=
            spec_TicksToActive_0 (spec_DrawTicksToActive_0 x0) (spec_DrawTicksToActive_1 x0) (spec_DrawTicksToActive_2 x0)
              (spec_DrawTicksToActive_3 x0)) ||
        ((bif
              impl_TicksToActive_1 (spec_DrawTicksToActive_0 x0) (spec_DrawTicksToActive_1 x0) (spec_DrawTicksToActive_2 x0)
                  (spec_DrawTicksToActive_3 x0) !=
                (0 : Int) then
            true
          else
            decide
              (spec_TicksToActive_0 (spec_DrawTicksToActive_0 x0) (spec_DrawTicksToActive_1 x0) (spec_DrawTicksToActive_2 x0)
                  (spec_DrawTicksToActive_3 x0) <
                (0 : Int))) ||
          ((bif
                bif
                    bif
                        impl_RunPair_4 (spec_DrawTicksToActive_0 x0) (spec_DrawTicksToActive_1 x0) (spec_DrawTicksToActive_2 x0)
                            (spec_DrawTicksToActive_3 x0)
                            (List.replicate
                              (Int.toNat
                                (spec_TicksToActive_0 (spec_DrawTicksToActive_0 x0) (spec_DrawTicksToActive_1 x0) (spec_DrawTicksToActive_2 x0)
                                  (spec_DrawTicksToActive_3 x0)))
                              ((0 : Int), (0 : Int), false, false)) !=
                          (0 : Int) then
                      true
                    else
                      impl_ActiveCount_1
                          (impl_RunPair_0 (spec_DrawTicksToActive_0 x0) (spec_DrawTicksToActive_1 x0) (spec_DrawTicksToActive_2 x0)
                            (spec_DrawTicksToActive_3 x0)
                            (List.replicate
                              (Int.toNat
                                (spec_TicksToActive_0 (spec_DrawTicksToActive_0 x0) (spec_DrawTicksToActive_1 x0) (spec_DrawTicksToActive_2 x0)
                                  (spec_DrawTicksToActive_3 x0)))
                              ((0 : Int), (0 : Int), false, false)))
                          (impl_RunPair_1 (spec_DrawTicksToActive_0 x0) (spec_DrawTicksToActive_1 x0) (spec_DrawTicksToActive_2 x0)
                            (spec_DrawTicksToActive_3 x0)
                            (List.replicate
                              (Int.toNat
                                (spec_TicksToActive_0 (spec_DrawTicksToActive_0 x0) (spec_DrawTicksToActive_1 x0) (spec_DrawTicksToActive_2 x0)
                                  (spec_DrawTicksToActive_3 x0)))
                              ((0 : Int), (0 : Int), false, false)))
                          (impl_RunPair_2 (spec_DrawTicksToActive_0 x0) (spec_DrawTicksToActive_1 x0) (spec_DrawTicksToActive_2 x0)
                            (spec_DrawTicksToActive_3 x0)
                            (List.replicate
                              (Int.toNat
                                (spec_TicksToActive_0 (spec_DrawTicksToActive_0 x0) (spec_DrawTicksToActive_1 x0) (spec_DrawTicksToActive_2 x0)
                                  (spec_DrawTicksToActive_3 x0)))
                              ((0 : Int), (0 : Int), false, false)))
                          (impl_RunPair_3 (spec_DrawTicksToActive_0 x0) (spec_DrawTicksToActive_1 x0) (spec_DrawTicksToActive_2 x0)
                            (spec_DrawTicksToActive_3 x0)
                            (List.replicate
                              (Int.toNat
                                (spec_TicksToActive_0 (spec_DrawTicksToActive_0 x0) (spec_DrawTicksToActive_1 x0) (spec_DrawTicksToActive_2 x0)
                                  (spec_DrawTicksToActive_3 x0)))
                              ((0 : Int), (0 : Int), false, false))) !=
                        (0 : Int) then
                  true
                else
                  decide
                    (impl_ActiveCount_0
                        (impl_RunPair_0 (spec_DrawTicksToActive_0 x0) (spec_DrawTicksToActive_1 x0) (spec_DrawTicksToActive_2 x0)
                          (spec_DrawTicksToActive_3 x0)
                          (List.replicate
                            (Int.toNat
                              (spec_TicksToActive_0 (spec_DrawTicksToActive_0 x0) (spec_DrawTicksToActive_1 x0) (spec_DrawTicksToActive_2 x0)
                                (spec_DrawTicksToActive_3 x0)))
                            ((0 : Int), (0 : Int), false, false)))
                        (impl_RunPair_1 (spec_DrawTicksToActive_0 x0) (spec_DrawTicksToActive_1 x0) (spec_DrawTicksToActive_2 x0)
                          (spec_DrawTicksToActive_3 x0)
                          (List.replicate
                            (Int.toNat
                              (spec_TicksToActive_0 (spec_DrawTicksToActive_0 x0) (spec_DrawTicksToActive_1 x0) (spec_DrawTicksToActive_2 x0)
                                (spec_DrawTicksToActive_3 x0)))
                            ((0 : Int), (0 : Int), false, false)))
                        (impl_RunPair_2 (spec_DrawTicksToActive_0 x0) (spec_DrawTicksToActive_1 x0) (spec_DrawTicksToActive_2 x0)
                          (spec_DrawTicksToActive_3 x0)
                          (List.replicate
                            (Int.toNat
                              (spec_TicksToActive_0 (spec_DrawTicksToActive_0 x0) (spec_DrawTicksToActive_1 x0) (spec_DrawTicksToActive_2 x0)
                                (spec_DrawTicksToActive_3 x0)))
                            ((0 : Int), (0 : Int), false, false)))
                        (impl_RunPair_3 (spec_DrawTicksToActive_0 x0) (spec_DrawTicksToActive_1 x0) (spec_DrawTicksToActive_2 x0)
                          (spec_DrawTicksToActive_3 x0)
                          (List.replicate
                            (Int.toNat
                              (spec_TicksToActive_0 (spec_DrawTicksToActive_0 x0) (spec_DrawTicksToActive_1 x0) (spec_DrawTicksToActive_2 x0)
                                (spec_DrawTicksToActive_3 x0)))
                            ((0 : Int), (0 : Int), false, false))) <
                      (1 : Int)) then
              true
            else
              decide
                (spec_TicksToActive_0 (spec_DrawTicksToActive_0 x0) (spec_DrawTicksToActive_1 x0) (spec_DrawTicksToActive_2 x0)
                    (spec_DrawTicksToActive_3 x0) >
                  (6 : Int))) ||
            (spec_TicksToActive_0 (spec_DrawTicksToActive_0 x0) (spec_DrawTicksToActive_1 x0) (spec_DrawTicksToActive_2 x0)
                  (spec_DrawTicksToActive_3 x0) ==
                (0 : Int) ||
              decide
                ((↑(24 : Nat) : Int) *
                    IntKind.wrap IntKind.i64
                      (spec_TicksToActive_0 (spec_DrawTicksToActive_0 x0) (spec_DrawTicksToActive_1 x0) (spec_DrawTicksToActive_2 x0)
                          (spec_DrawTicksToActive_3 x0) -
                        (1 : Int)) ≤
                  (281474976710656 : Int)))))),
    laws_big_0 x0 ||
      ((bif
            impl_TicksToActive_1 (spec_DrawTicksToActive_0 x0) (spec_DrawTicksToActive_1 x0) (spec_DrawTicksToActive_2 x0)
                (spec_DrawTicksToActive_3 x0) !=
              spec_TicksToActive_1 (spec_DrawTicksToActive_0 x0) (spec_DrawTicksToActive_1 x0) (spec_DrawTicksToActive_2 x0)
                (spec_DrawTicksToActive_3 x0) then
          true
        else
          impl_TicksToActive_0 (spec_DrawTicksToActive_0 x0) (spec_DrawTicksToActive_1 x0) (spec_DrawTicksToActive_2 x0)
              (spec_DrawTicksToActive_3 x0) !=
            spec_TicksToActive_0 (spec_DrawTicksToActive_0 x0) (spec_DrawTicksToActive_1 x0) (spec_DrawTicksToActive_2 x0)
              (spec_DrawTicksToActive_3 x0)) ||
        ((bif
              impl_TicksToActive_1 (spec_DrawTicksToActive_0 x0) (spec_DrawTicksToActive_1 x0) (spec_DrawTicksToActive_2 x0)
                  (spec_DrawTicksToActive_3 x0) !=
                (0 : Int) then
            true
          else
            decide
              (spec_TicksToActive_0 (spec_DrawTicksToActive_0 x0) (spec_DrawTicksToActive_1 x0) (spec_DrawTicksToActive_2 x0)
                  (spec_DrawTicksToActive_3 x0) <
                (0 : Int))) ||
          ((bif
                bif
                    bif
                        impl_RunPair_4 (spec_DrawTicksToActive_0 x0) (spec_DrawTicksToActive_1 x0) (spec_DrawTicksToActive_2 x0)
                            (spec_DrawTicksToActive_3 x0)
                            (List.replicate
                              (Int.toNat
                                (spec_TicksToActive_0 (spec_DrawTicksToActive_0 x0) (spec_DrawTicksToActive_1 x0) (spec_DrawTicksToActive_2 x0)
                                  (spec_DrawTicksToActive_3 x0)))
                              ((0 : Int), (0 : Int), false, false)) !=
                          (0 : Int) then
                      true
                    else
                      impl_ActiveCount_1
                          (impl_RunPair_0 (spec_DrawTicksToActive_0 x0) (spec_DrawTicksToActive_1 x0) (spec_DrawTicksToActive_2 x0)
                            (spec_DrawTicksToActive_3 x0)
                            (List.replicate
                              (Int.toNat
                                (spec_TicksToActive_0 (spec_DrawTicksToActive_0 x0) (spec_DrawTicksToActive_1 x0) (spec_DrawTicksToActive_2 x0)
                                  (spec_DrawTicksToActive_3 x0)))
                              ((0 : Int), (0 : Int), false, false)))
                          (impl_RunPair_1 (spec_DrawTicksToActive_0 x0) (spec_DrawTicksToActive_1 x0) (spec_DrawTicksToActive_2 x0)
                            (spec_DrawTicksToActive_3 x0)
                            (List.replicate
                              (Int.toNat
                                (spec_TicksToActive_0 (spec_DrawTicksToActive_0 x0) (spec_DrawTicksToActive_1 x0) (spec_DrawTicksToActive_2 x0)
                                  (spec_DrawTicksToActive_3 x0)))
                              ((0 : Int), (0 : Int), false, false)))
                          (impl_RunPair_2 (spec_DrawTicksToActive_0 x0) (spec_DrawTicksToActive_1 x0) (spec_DrawTicksToActive_2 x0)
                            (spec_DrawTicksToActive_3 x0)
                            (List.replicate
                              (Int.toNat
                                (spec_TicksToActive_0 (spec_DrawTicksToActive_0 x0) (spec_DrawTicksToActive_1 x0) (spec_DrawTicksToActive_2 x0)
                                  (spec_DrawTicksToActive_3 x0)))
                              ((0 : Int), (0 : Int), false, false)))
                          (impl_RunPair_3 (spec_DrawTicksToActive_0 x0) (spec_DrawTicksToActive_1 x0) (spec_DrawTicksToActive_2 x0)
                            (spec_DrawTicksToActive_3 x0)
                            (List.replicate
                              (Int.toNat
                                (spec_TicksToActive_0 (spec_DrawTicksToActive_0 x0) (spec_DrawTicksToActive_1 x0) (spec_DrawTicksToActive_2 x0)
                                  (spec_DrawTicksToActive_3 x0)))
                              ((0 : Int), (0 : Int), false, false))) !=
                        (0 : Int) then
                  true
                else
                  decide
                    (impl_ActiveCount_0
                        (impl_RunPair_0 (spec_DrawTicksToActive_0 x0) (spec_DrawTicksToActive_1 x0) (spec_DrawTicksToActive_2 x0)
                          (spec_DrawTicksToActive_3 x0)
                          (List.replicate
                            (Int.toNat
                              (spec_TicksToActive_0 (spec_DrawTicksToActive_0 x0) (spec_DrawTicksToActive_1 x0) (spec_DrawTicksToActive_2 x0)
                                (spec_DrawTicksToActive_3 x0)))
                            ((0 : Int), (0 : Int), false, false)))
                        (impl_RunPair_1 (spec_DrawTicksToActive_0 x0) (spec_DrawTicksToActive_1 x0) (spec_DrawTicksToActive_2 x0)
                          (spec_DrawTicksToActive_3 x0)
                          (List.replicate
                            (Int.toNat
                              (spec_TicksToActive_0 (spec_DrawTicksToActive_0 x0) (spec_DrawTicksToActive_1 x0) (spec_DrawTicksToActive_2 x0)
                                (spec_DrawTicksToActive_3 x0)))
                            ((0 : Int), (0 : Int), false, false)))
                        (impl_RunPair_2 (spec_DrawTicksToActive_0 x0) (spec_DrawTicksToActive_1 x0) (spec_DrawTicksToActive_2 x0)
                          (spec_DrawTicksToActive_3 x0)
                          (List.replicate
                            (Int.toNat
                              (spec_TicksToActive_0 (spec_DrawTicksToActive_0 x0) (spec_DrawTicksToActive_1 x0) (spec_DrawTicksToActive_2 x0)
                                (spec_DrawTicksToActive_3 x0)))
                            ((0 : Int), (0 : Int), false, false)))
                        (impl_RunPair_3 (spec_DrawTicksToActive_0 x0) (spec_DrawTicksToActive_1 x0) (spec_DrawTicksToActive_2 x0)
                          (spec_DrawTicksToActive_3 x0)
                          (List.replicate
                            (Int.toNat
                              (spec_TicksToActive_0 (spec_DrawTicksToActive_0 x0) (spec_DrawTicksToActive_1 x0) (spec_DrawTicksToActive_2 x0)
                                (spec_DrawTicksToActive_3 x0)))
                            ((0 : Int), (0 : Int), false, false))) <
                      (1 : Int)) then
              true
            else
              decide
                (spec_TicksToActive_0 (spec_DrawTicksToActive_0 x0) (spec_DrawTicksToActive_1 x0) (spec_DrawTicksToActive_2 x0)
                    (spec_DrawTicksToActive_3 x0) >
                  (6 : Int))) ||
            (spec_TicksToActive_0 (spec_DrawTicksToActive_0 x0) (spec_DrawTicksToActive_1 x0) (spec_DrawTicksToActive_2 x0)
                  (spec_DrawTicksToActive_3 x0) ==
                (0 : Int) ||
              decide
                (IntKind.wrap IntKind.i64
                    (spec_TicksToActive_0 (spec_DrawTicksToActive_0 x0) (spec_DrawTicksToActive_1 x0) (spec_DrawTicksToActive_2 x0)
                        (spec_DrawTicksToActive_3 x0) -
                      (1 : Int)) ≤
                  (9223372036854775807 : Int)))))),
    laws_big_0 x0 ||
      ((bif
            impl_TicksToActive_1 (spec_DrawTicksToActive_0 x0) (spec_DrawTicksToActive_1 x0) (spec_DrawTicksToActive_2 x0)
                (spec_DrawTicksToActive_3 x0) !=
              spec_TicksToActive_1 (spec_DrawTicksToActive_0 x0) (spec_DrawTicksToActive_1 x0) (spec_DrawTicksToActive_2 x0)
                (spec_DrawTicksToActive_3 x0) then
          true
        else
          impl_TicksToActive_0 (spec_DrawTicksToActive_0 x0) (spec_DrawTicksToActive_1 x0) (spec_DrawTicksToActive_2 x0)
              (spec_DrawTicksToActive_3 x0) !=
            spec_TicksToActive_0 (spec_DrawTicksToActive_0 x0) (spec_DrawTicksToActive_1 x0) (spec_DrawTicksToActive_2 x0)
              (spec_DrawTicksToActive_3 x0)) ||
        ((bif
              impl_TicksToActive_1 (spec_DrawTicksToActive_0 x0) (spec_DrawTicksToActive_1 x0) (spec_DrawTicksToActive_2 x0)
                  (spec_DrawTicksToActive_3 x0) !=
                (0 : Int) then
            true
          else
            decide
              (spec_TicksToActive_0 (spec_DrawTicksToActive_0 x0) (spec_DrawTicksToActive_1 x0) (spec_DrawTicksToActive_2 x0)
                  (spec_DrawTicksToActive_3 x0) <
                (0 : Int))) ||
          ((bif
                bif
                    bif
                        impl_RunPair_4 (spec_DrawTicksToActive_0 x0) (spec_DrawTicksToActive_1 x0) (spec_DrawTicksToActive_2 x0)
                            (spec_DrawTicksToActive_3 x0)
                            (List.replicate
                              (Int.toNat
                                (spec_TicksToActive_0 (spec_DrawTicksToActive_0 x0) (spec_DrawTicksToActive_1 x0) (spec_DrawTicksToActive_2 x0)
                                  (spec_DrawTicksToActive_3 x0)))
                              ((0 : Int), (0 : Int), false, false)) !=
                          (0 : Int) then
                      true
                    else
                      impl_ActiveCount_1
                          (impl_RunPair_0 (spec_DrawTicksToActive_0 x0) (spec_DrawTicksToActive_1 x0) (spec_DrawTicksToActive_2 x0)
                            (spec_DrawTicksToActive_3 x0)
                            (List.replicate
                              (Int.toNat
                                (spec_TicksToActive_0 (spec_DrawTicksToActive_0 x0) (spec_DrawTicksToActive_1 x0) (spec_DrawTicksToActive_2 x0)
                                  (spec_DrawTicksToActive_3 x0)))
                              ((0 : Int), (0 : Int), false, false)))
                          (impl_RunPair_1 (spec_DrawTicksToActive_0 x0) (spec_DrawTicksToActive_1 x0) (spec_DrawTicksToActive_2 x0)
                            (spec_DrawTicksToActive_3 x0)
                            (List.replicate
                              (Int.toNat
                                (spec_TicksToActive_0 (spec_DrawTicksToActive_0 x0) (spec_DrawTicksToActive_1 x0) (spec_DrawTicksToActive_2 x0)
                                  (spec_DrawTicksToActive_3 x0)))
                              ((0 : Int), (0 : Int), false, false)))
                          (impl_RunPair_2 (spec_DrawTicksToActive_0 x0) (spec_DrawTicksToActive_1 x0) (spec_DrawTicksToActive_2 x0)
                            (spec_DrawTicksToActive_3 x0)
                            (List.replicate
                              (Int.toNat
                                (spec_TicksToActive_0 (spec_DrawTicksToActive_0 x0) (spec_DrawTicksToActive_1 x0) (spec_DrawTicksToActive_2 x0)
                                  (spec_DrawTicksToActive_3 x0)))
                              ((0 : Int), (0 : Int), false, false)))
                          (impl_RunPair_3 (spec_DrawTicksToActive_0 x0) (spec_DrawTicksToActive_1 x0) (spec_DrawTicksToActive_2 x0)
                            (spec_DrawTicksToActive_3 x0)
                            (List.replicate
                              (Int.toNat
                                (spec_TicksToActive_0 (spec_DrawTicksToActive_0 x0) (spec_DrawTicksToActive_1 x0) (spec_DrawTicksToActive_2 x0)
                                  (spec_DrawTicksToActive_3 x0)))
                              ((0 : Int), (0 : Int), false, false))) !=
                        (0 : Int) then
                  true
                else
                  decide
                    (impl_ActiveCount_0
                        (impl_RunPair_0 (spec_DrawTicksToActive_0 x0) (spec_DrawTicksToActive_1 x0) (spec_DrawTicksToActive_2 x0)
                          (spec_DrawTicksToActive_3 x0)
                          (List.replicate
                            (Int.toNat
                              (spec_TicksToActive_0 (spec_DrawTicksToActive_0 x0) (spec_DrawTicksToActive_1 x0) (spec_DrawTicksToActive_2 x0)
                                (spec_DrawTicksToActive_3 x0)))
                            ((0 : Int), (0 : Int), false, false)))
                        (impl_RunPair_1 (spec_DrawTicksToActive_0 x0) (spec_DrawTicksToActive_1 x0) (spec_DrawTicksToActive_2 x0)
                          (spec_DrawTicksToActive_3 x0)
                          (List.replicate
                            (Int.toNat
                              (spec_TicksToActive_0 (spec_DrawTicksToActive_0 x0) (spec_DrawTicksToActive_1 x0) (spec_DrawTicksToActive_2 x0)
                                (spec_DrawTicksToActive_3 x0)))
                            ((0 : Int), (0 : Int), false, false)))
                        (impl_RunPair_2 (spec_DrawTicksToActive_0 x0) (spec_DrawTicksToActive_1 x0) (spec_DrawTicksToActive_2 x0)
                          (spec_DrawTicksToActive_3 x0)
                          (List.replicate
                            (Int.toNat
                              (spec_TicksToActive_0 (spec_DrawTicksToActive_0 x0) (spec_DrawTicksToActive_1 x0) (spec_DrawTicksToActive_2 x0)
                                (spec_DrawTicksToActive_3 x0)))
                            ((0 : Int), (0 : Int), false, false)))
                        (impl_RunPair_3 (spec_DrawTicksToActive_0 x0) (spec_DrawTicksToActive_1 x0) (spec_DrawTicksToActive_2 x0)
                          (spec_DrawTicksToActive_3 x0)
                          (List.replicate
                            (Int.toNat
                              (spec_TicksToActive_0 (spec_DrawTicksToActive_0 x0) (spec_DrawTicksToActive_1 x0) (spec_DrawTicksToActive_2 x0)
                                (spec_DrawTicksToActive_3 x0)))
                            ((0 : Int), (0 : Int), false, false))) <
                      (1 : Int)) then
              true
            else
              decide
                (spec_TicksToActive_0 (spec_DrawTicksToActive_0 x0) (spec_DrawTicksToActive_1 x0) (spec_DrawTicksToActive_2 x0)
                    (spec_DrawTicksToActive_3 x0) >
                  (6 : Int))) ||
            (spec_TicksToActive_0 (spec_DrawTicksToActive_0 x0) (spec_DrawTicksToActive_1 x0) (spec_DrawTicksToActive_2 x0)
                  (spec_DrawTicksToActive_3 x0) ==
                (0 : Int) ||
              impl_RunPair_5 (spec_DrawTicksToActive_0 x0) (spec_DrawTicksToActive_1 x0) (spec_DrawTicksToActive_2 x0) (spec_DrawTicksToActive_3 x0)
                (List.replicate
                  (Int.toNat
                    (IntKind.wrap IntKind.i64
                      (spec_TicksToActive_0 (spec_DrawTicksToActive_0 x0) (spec_DrawTicksToActive_1 x0) (spec_DrawTicksToActive_2 x0)
                          (spec_DrawTicksToActive_3 x0) -
                        (1 : Int))))
                  ((0 : Int), (0 : Int), false, false))))))]

def F_laws_FnPairTicks : List SV → List Entry → Option Out
  | [.one ⟨false, [.ref 0]⟩], [.row false 5 (.int .u8) x0] => some ⟨(.one ⟨false, [(.val (.bool (laws_FnPairTicks_0 x0)))]⟩), [(.row false 5 (CTy.int IntKind.u8) x0)], [], [(laws_FnPairTicks_1 x0)]⟩
  | _, _ => none

def p_laws_FnPairTicks : PF Try.prog := PF.ofG Try.prog [p_spec_TicksToActive, p_impl_TicksToActive, p_laws_big, PF.lend p_laws_big, PF.fz p_laws_big, p_spec_DrawTicksToActive, PF.lend p_spec_DrawTicksToActive, PF.fz p_spec_DrawTicksToActive, p_impl_RunPair, PF.lend p_impl_RunPair, PF.fz p_impl_RunPair, p_impl_ActiveCount] [] hmix 6 Try.f6 Try.func6 (fun c _ => LOk.nil c) F_laws_FnPairTicks (by
  intro vs es r h; unfold F_laws_FnPairTicks at h; split at h
  · cases h; kernel_rfl
  · cases h)

def spec_l31DrawEvent_0 (x0 : Int) (x1 : Int) (x2 : List Int) : Int :=
  bif
    spec_l01Next_0 (80 : Int)
        (bif
            spec_l01Next_0 (6 : Int) (spec_l01Next_1 (3 : Int) (spec_l01Next_1 (3 : Int) x0 x2) x2)
                (spec_l01Next_2 (3 : Int) (spec_l01Next_1 (3 : Int) x0 x2) (spec_l01Next_2 (3 : Int) x0 x1 x2) x2) x2 ==
              (0 : Int) then
          spec_l01Next_1 (2 : Int)
            (spec_l01Next_1 (2 : Int) (spec_l01Next_1 (6 : Int) (spec_l01Next_1 (3 : Int) (spec_l01Next_1 (3 : Int) x0 x2) x2) x2) x2) x2
        else spec_l01Next_1 (6 : Int) (spec_l01Next_1 (3 : Int) (spec_l01Next_1 (3 : Int) x0 x2) x2) x2)
        (bif
            spec_l01Next_0 (6 : Int) (spec_l01Next_1 (3 : Int) (spec_l01Next_1 (3 : Int) x0 x2) x2)
                (spec_l01Next_2 (3 : Int) (spec_l01Next_1 (3 : Int) x0 x2) (spec_l01Next_2 (3 : Int) x0 x1 x2) x2) x2 ==
              (0 : Int) then
          spec_l01Next_2 (2 : Int)
            (spec_l01Next_1 (2 : Int) (spec_l01Next_1 (6 : Int) (spec_l01Next_1 (3 : Int) (spec_l01Next_1 (3 : Int) x0 x2) x2) x2) x2)
            (spec_l01Next_2 (2 : Int) (spec_l01Next_1 (6 : Int) (spec_l01Next_1 (3 : Int) (spec_l01Next_1 (3 : Int) x0 x2) x2) x2)
              (spec_l01Next_2 (6 : Int) (spec_l01Next_1 (3 : Int) (spec_l01Next_1 (3 : Int) x0 x2) x2)
                (spec_l01Next_2 (3 : Int) (spec_l01Next_1 (3 : Int) x0 x2) (spec_l01Next_2 (3 : Int) x0 x1 x2) x2) x2)
              x2)
            x2
        else
          spec_l01Next_2 (6 : Int) (spec_l01Next_1 (3 : Int) (spec_l01Next_1 (3 : Int) x0 x2) x2)
            (spec_l01Next_2 (3 : Int) (spec_l01Next_1 (3 : Int) x0 x2) (spec_l01Next_2 (3 : Int) x0 x1 x2) x2) x2)
        x2 ==
      (0 : Int) then
  spec_l01Pick_0
    (spec_l01Next_1 (80 : Int)
      (bif
          spec_l01Next_0 (6 : Int) (spec_l01Next_1 (3 : Int) (spec_l01Next_1 (3 : Int) x0 x2) x2)
              (spec_l01Next_2 (3 : Int) (spec_l01Next_1 (3 : Int) x0 x2) (spec_l01Next_2 (3 : Int) x0 x1 x2) x2) x2 ==
            (0 : Int) then
        spec_l01Next_1 (2 : Int)
          (spec_l01Next_1 (2 : Int) (spec_l01Next_1 (6 : Int) (spec_l01Next_1 (3 : Int) (spec_l01Next_1 (3 : Int) x0 x2) x2) x2) x2) x2
      else spec_l01Next_1 (6 : Int) (spec_l01Next_1 (3 : Int) (spec_l01Next_1 (3 : Int) x0 x2) x2) x2)
      x2)
    (spec_l01Next_2 (80 : Int)
      (bif
          spec_l01Next_0 (6 : Int) (spec_l01Next_1 (3 : Int) (spec_l01Next_1 (3 : Int) x0 x2) x2)
              (spec_l01Next_2 (3 : Int) (spec_l01Next_1 (3 : Int) x0 x2) (spec_l01Next_2 (3 : Int) x0 x1 x2) x2) x2 ==
            (0 : Int) then
        spec_l01Next_1 (2 : Int)
          (spec_l01Next_1 (2 : Int) (spec_l01Next_1 (6 : Int) (spec_l01Next_1 (3 : Int) (spec_l01Next_1 (3 : Int) x0 x2) x2) x2) x2) x2
      else spec_l01Next_1 (6 : Int) (spec_l01Next_1 (3 : Int) (spec_l01Next_1 (3 : Int) x0 x2) x2) x2)
      (bif
          spec_l01Next_0 (6 : Int) (spec_l01Next_1 (3 : Int) (spec_l01Next_1 (3 : Int) x0 x2) x2)
              (spec_l01Next_2 (3 : Int) (spec_l01Next_1 (3 : Int) x0 x2) (spec_l01Next_2 (3 : Int) x0 x1 x2) x2) x2 ==
            (0 : Int) then
        spec_l01Next_2 (2 : Int)
          (spec_l01Next_1 (2 : Int) (spec_l01Next_1 (6 : Int) (spec_l01Next_1 (3 : Int) (spec_l01Next_1 (3 : Int) x0 x2) x2) x2) x2)
          (spec_l01Next_2 (2 : Int) (spec_l01Next_1 (6 : Int) (spec_l01Next_1 (3 : Int) (spec_l01Next_1 (3 : Int) x0 x2) x2) x2)
            (spec_l01Next_2 (6 : Int) (spec_l01Next_1 (3 : Int) (spec_l01Next_1 (3 : Int) x0 x2) x2)
              (spec_l01Next_2 (3 : Int) (spec_l01Next_1 (3 : Int) x0 x2) (spec_l01Next_2 (3 : Int) x0 x1 x2) x2) x2)
            x2)
          x2
      else
        spec_l01Next_2 (6 : Int) (spec_l01Next_1 (3 : Int) (spec_l01Next_1 (3 : Int) x0 x2) x2)
          (spec_l01Next_2 (3 : Int) (spec_l01Next_1 (3 : Int) x0 x2) (spec_l01Next_2 (3 : Int) x0 x1 x2) x2) x2)
      x2)
    [(-1 : Int), (3 : Int), (1 : Int)] x2
  else
  bif
      spec_l01Next_0 (80 : Int)
          (bif
              spec_l01Next_0 (6 : Int) (spec_l01Next_1 (3 : Int) (spec_l01Next_1 (3 : Int) x0 x2) x2)
                  (spec_l01Next_2 (3 : Int) (spec_l01Next_1 (3 : Int) x0 x2) (spec_l01Next_2 (3 : Int) x0 x1 x2) x2) x2 ==
                (0 : Int) then
            spec_l01Next_1 (2 : Int)
              (spec_l01Next_1 (2 : Int) (spec_l01Next_1 (6 : Int) (spec_l01Next_1 (3 : Int) (spec_l01Next_1 (3 : Int) x0 x2) x2) x2) x2) x2
          else spec_l01Next_1 (6 : Int) (spec_l01Next_1 (3 : Int) (spec_l01Next_1 (3 : Int) x0 x2) x2) x2)
          (bif
              spec_l01Next_0 (6 : Int) (spec_l01Next_1 (3 : Int) (spec_l01Next_1 (3 : Int) x0 x2) x2)
                  (spec_l01Next_2 (3 : Int) (spec_l01Next_1 (3 : Int) x0 x2) (spec_l01Next_2 (3 : Int) x0 x1 x2) x2) x2 ==
                (0 : Int) then
            spec_l01Next_2 (2 : Int)
              (spec_l01Next_1 (2 : Int) (spec_l01Next_1 (6 : Int) (spec_l01Next_1 (3 : Int) (spec_l01Next_1 (3 : Int) x0 x2) x2) x2) x2)
              (spec_l01Next_2 (2 : Int) (spec_l01Next_1 (6 : Int) (spec_l01Next_1 (3 : Int) (spec_l01Next_1 (3 : Int) x0 x2) x2) x2)
                (spec_l01Next_2 (6 : Int) (spec_l01Next_1 (3 : Int) (spec_l01Next_1 (3 : Int) x0 x2) x2)
                  (spec_l01Next_2 (3 : Int) (spec_l01Next_1 (3 : Int) x0 x2) (spec_l01Next_2 (3 : Int) x0 x1 x2) x2) x2)
                x2)
              x2
          else
            spec_l01Next_2 (6 : Int) (spec_l01Next_1 (3 : Int) (spec_l01Next_1 (3 : Int) x0 x2) x2)
              (spec_l01Next_2 (3 : Int) (spec_l01Next_1 (3 : Int) x0 x2) (spec_l01Next_2 (3 : Int) x0 x1 x2) x2) x2)
          x2 ==
        (1 : Int) then
    bif
        spec_l01Next_0 (6 : Int) (spec_l01Next_1 (3 : Int) (spec_l01Next_1 (3 : Int) x0 x2) x2)
            (spec_l01Next_2 (3 : Int) (spec_l01Next_1 (3 : Int) x0 x2) (spec_l01Next_2 (3 : Int) x0 x1 x2) x2) x2 ==
          (0 : Int) then
      IntKind.wrap IntKind.i64
        ((1 : Int) +
          spec_l01Next_0 (2 : Int) (spec_l01Next_1 (6 : Int) (spec_l01Next_1 (3 : Int) (spec_l01Next_1 (3 : Int) x0 x2) x2) x2)
            (spec_l01Next_2 (6 : Int) (spec_l01Next_1 (3 : Int) (spec_l01Next_1 (3 : Int) x0 x2) x2)
              (spec_l01Next_2 (3 : Int) (spec_l01Next_1 (3 : Int) x0 x2) (spec_l01Next_2 (3 : Int) x0 x1 x2) x2) x2)
            x2)
    else (0 : Int)
  else
    bif
        spec_l01Next_0 (6 : Int) (spec_l01Next_1 (3 : Int) (spec_l01Next_1 (3 : Int) x0 x2) x2)
            (spec_l01Next_2 (3 : Int) (spec_l01Next_1 (3 : Int) x0 x2) (spec_l01Next_2 (3 : Int) x0 x1 x2) x2) x2 ==
          (0 : Int) then
      IntKind.wrap IntKind.i64
        ((1 : Int) +
          spec_l01Next_0 (2 : Int) (spec_l01Next_1 (6 : Int) (spec_l01Next_1 (3 : Int) (spec_l01Next_1 (3 : Int) x0 x2) x2) x2)
            (spec_l01Next_2 (6 : Int) (spec_l01Next_1 (3 : Int) (spec_l01Next_1 (3 : Int) x0 x2) x2)
              (spec_l01Next_2 (3 : Int) (spec_l01Next_1 (3 : Int) x0 x2) (spec_l01Next_2 (3 : Int) x0 x1 x2) x2) x2)
            x2)
    else (0 : Int)

def spec_l31DrawEvent_1 (x0 : Int) (x1 : Int) (x2 : List Int) : Int :=
  bif
    spec_l01Next_0 (80 : Int)
        (bif
            spec_l01Next_0 (6 : Int) (spec_l01Next_1 (3 : Int) (spec_l01Next_1 (3 : Int) x0 x2) x2)
                (spec_l01Next_2 (3 : Int) (spec_l01Next_1 (3 : Int) x0 x2) (spec_l01Next_2 (3 : Int) x0 x1 x2) x2) x2 ==
              (0 : Int) then
          spec_l01Next_1 (2 : Int)
            (spec_l01Next_1 (2 : Int) (spec_l01Next_1 (6 : Int) (spec_l01Next_1 (3 : Int) (spec_l01Next_1 (3 : Int) x0 x2) x2) x2) x2) x2
        else spec_l01Next_1 (6 : Int) (spec_l01Next_1 (3 : Int) (spec_l01Next_1 (3 : Int) x0 x2) x2) x2)
        (bif
            spec_l01Next_0 (6 : Int) (spec_l01Next_1 (3 : Int) (spec_l01Next_1 (3 : Int) x0 x2) x2)
                (spec_l01Next_2 (3 : Int) (spec_l01Next_1 (3 : Int) x0 x2) (spec_l01Next_2 (3 : Int) x0 x1 x2) x2) x2 ==
              (0 : Int) then
          spec_l01Next_2 (2 : Int)
            (spec_l01Next_1 (2 : Int) (spec_l01Next_1 (6 : Int) (spec_l01Next_1 (3 : Int) (spec_l01Next_1 (3 : Int) x0 x2) x2) x2) x2)
            (spec_l01Next_2 (2 : Int) (spec_l01Next_1 (6 : Int) (spec_l01Next_1 (3 : Int) (spec_l01Next_1 (3 : Int) x0 x2) x2) x2)
              (spec_l01Next_2 (6 : Int) (spec_l01Next_1 (3 : Int) (spec_l01Next_1 (3 : Int) x0 x2) x2)
                (spec_l01Next_2 (3 : Int) (spec_l01Next_1 (3 : Int) x0 x2) (spec_l01Next_2 (3 : Int) x0 x1 x2) x2) x2)
              x2)
            x2
        else
          spec_l01Next_2 (6 : Int) (spec_l01Next_1 (3 : Int) (spec_l01Next_1 (3 : Int) x0 x2) x2)
            (spec_l01Next_2 (3 : Int) (spec_l01Next_1 (3 : Int) x0 x2) (spec_l01Next_2 (3 : Int) x0 x1 x2) x2) x2)
        x2 ==
      (0 : Int) then
  bif
      spec_l01Next_0 (6 : Int) (spec_l01Next_1 (3 : Int) (spec_l01Next_1 (3 : Int) x0 x2) x2)
          (spec_l01Next_2 (3 : Int) (spec_l01Next_1 (3 : Int) x0 x2) (spec_l01Next_2 (3 : Int) x0 x1 x2) x2) x2 ==
        (0 : Int) then
    spec_l01Next_0 (2 : Int)
      (spec_l01Next_1 (2 : Int) (spec_l01Next_1 (6 : Int) (spec_l01Next_1 (3 : Int) (spec_l01Next_1 (3 : Int) x0 x2) x2) x2) x2)
      (spec_l01Next_2 (2 : Int) (spec_l01Next_1 (6 : Int) (spec_l01Next_1 (3 : Int) (spec_l01Next_1 (3 : Int) x0 x2) x2) x2)
        (spec_l01Next_2 (6 : Int) (spec_l01Next_1 (3 : Int) (spec_l01Next_1 (3 : Int) x0 x2) x2)
          (spec_l01Next_2 (3 : Int) (spec_l01Next_1 (3 : Int) x0 x2) (spec_l01Next_2 (3 : Int) x0 x1 x2) x2) x2)
        x2)
      x2
  else (0 : Int)
  else
  bif
      spec_l01Next_0 (80 : Int)
          (bif
              spec_l01Next_0 (6 : Int) (spec_l01Next_1 (3 : Int) (spec_l01Next_1 (3 : Int) x0 x2) x2)
                  (spec_l01Next_2 (3 : Int) (spec_l01Next_1 (3 : Int) x0 x2) (spec_l01Next_2 (3 : Int) x0 x1 x2) x2) x2 ==
                (0 : Int) then
            spec_l01Next_1 (2 : Int)
              (spec_l01Next_1 (2 : Int) (spec_l01Next_1 (6 : Int) (spec_l01Next_1 (3 : Int) (spec_l01Next_1 (3 : Int) x0 x2) x2) x2) x2) x2
          else spec_l01Next_1 (6 : Int) (spec_l01Next_1 (3 : Int) (spec_l01Next_1 (3 : Int) x0 x2) x2) x2)
          (bif
              spec_l01Next_0 (6 : Int) (spec_l01Next_1 (3 : Int) (spec_l01Next_1 (3 : Int) x0 x2) x2)
                  (spec_l01Next_2 (3 : Int) (spec_l01Next_1 (3 : Int) x0 x2) (spec_l01Next_2 (3 : Int) x0 x1 x2) x2) x2 ==
                (0 : Int) then
            spec_l01Next_2 (2 : Int)
              (spec_l01Next_1 (2 : Int) (spec_l01Next_1 (6 : Int) (spec_l01Next_1 (3 : Int) (spec_l01Next_1 (3 : Int) x0 x2) x2) x2) x2)
              (spec_l01Next_2 (2 : Int) (spec_l01Next_1 (6 : Int) (spec_l01Next_1 (3 : Int) (spec_l01Next_1 (3 : Int) x0 x2) x2) x2)
                (spec_l01Next_2 (6 : Int) (spec_l01Next_1 (3 : Int) (spec_l01Next_1 (3 : Int) x0 x2) x2)
                  (spec_l01Next_2 (3 : Int) (spec_l01Next_1 (3 : Int) x0 x2) (spec_l01Next_2 (3 : Int) x0 x1 x2) x2) x2)
                x2)
              x2
          else
            spec_l01Next_2 (6 : Int) (spec_l01Next_1 (3 : Int) (spec_l01Next_1 (3 : Int) x0 x2) x2)
              (spec_l01Next_2 (3 : Int) (spec_l01Next_1 (3 : Int) x0 x2) (spec_l01Next_2 (3 : Int) x0 x1 x2) x2) x2)
          x2 ==
        (1 : Int) then
    spec_l01Pick_0
      (spec_l01Next_1 (80 : Int)
        (bif
            spec_l01Next_0 (6 : Int) (spec_l01Next_1 (3 : Int) (spec_l01Next_1 (3 : Int) x0 x2) x2)
                (spec_l01Next_2 (3 : Int) (spec_l01Next_1 (3 : Int) x0 x2) (spec_l01Next_2 (3 : Int) x0 x1 x2) x2) x2 ==
              (0 : Int) then
          spec_l01Next_1 (2 : Int)
            (spec_l01Next_1 (2 : Int) (spec_l01Next_1 (6 : Int) (spec_l01Next_1 (3 : Int) (spec_l01Next_1 (3 : Int) x0 x2) x2) x2) x2) x2
        else spec_l01Next_1 (6 : Int) (spec_l01Next_1 (3 : Int) (spec_l01Next_1 (3 : Int) x0 x2) x2) x2)
        x2)
      (spec_l01Next_2 (80 : Int)
        (bif
            spec_l01Next_0 (6 : Int) (spec_l01Next_1 (3 : Int) (spec_l01Next_1 (3 : Int) x0 x2) x2)
                (spec_l01Next_2 (3 : Int) (spec_l01Next_1 (3 : Int) x0 x2) (spec_l01Next_2 (3 : Int) x0 x1 x2) x2) x2 ==
              (0 : Int) then
          spec_l01Next_1 (2 : Int)
            (spec_l01Next_1 (2 : Int) (spec_l01Next_1 (6 : Int) (spec_l01Next_1 (3 : Int) (spec_l01Next_1 (3 : Int) x0 x2) x2) x2) x2) x2
        else spec_l01Next_1 (6 : Int) (spec_l01Next_1 (3 : Int) (spec_l01Next_1 (3 : Int) x0 x2) x2) x2)
        (bif
            spec_l01Next_0 (6 : Int) (spec_l01Next_1 (3 : Int) (spec_l01Next_1 (3 : Int) x0 x2) x2)
                (spec_l01Next_2 (3 : Int) (spec_l01Next_1 (3 : Int) x0 x2) (spec_l01Next_2 (3 : Int) x0 x1 x2) x2) x2 ==
              (0 : Int) then
          spec_l01Next_2 (2 : Int)
            (spec_l01Next_1 (2 : Int) (spec_l01Next_1 (6 : Int) (spec_l01Next_1 (3 : Int) (spec_l01Next_1 (3 : Int) x0 x2) x2) x2) x2)
            (spec_l01Next_2 (2 : Int) (spec_l01Next_1 (6 : Int) (spec_l01Next_1 (3 : Int) (spec_l01Next_1 (3 : Int) x0 x2) x2) x2)
              (spec_l01Next_2 (6 : Int) (spec_l01Next_1 (3 : Int) (spec_l01Next_1 (3 : Int) x0 x2) x2)
                (spec_l01Next_2 (3 : Int) (spec_l01Next_1 (3 : Int) x0 x2) (spec_l01Next_2 (3 : Int) x0 x1 x2) x2) x2)
              x2)
            x2
        else
          spec_l01Next_2 (6 : Int) (spec_l01Next_1 (3 : Int) (spec_l01Next_1 (3 : Int) x0 x2) x2)
            (spec_l01Next_2 (3 : Int) (spec_l01Next_1 (3 : Int) x0 x2) (spec_l01Next_2 (3 : Int) x0 x1 x2) x2) x2)
        x2)
      [(-1 : Int), (1 : Int), (2 : Int)] x2
  else
    bif
        spec_l01Next_0 (6 : Int) (spec_l01Next_1 (3 : Int) (spec_l01Next_1 (3 : Int) x0 x2) x2)
            (spec_l01Next_2 (3 : Int) (spec_l01Next_1 (3 : Int) x0 x2) (spec_l01Next_2 (3 : Int) x0 x1 x2) x2) x2 ==
          (0 : Int) then
      spec_l01Next_0 (2 : Int)
        (spec_l01Next_1 (2 : Int) (spec_l01Next_1 (6 : Int) (spec_l01Next_1 (3 : Int) (spec_l01Next_1 (3 : Int) x0 x2) x2) x2) x2)
        (spec_l01Next_2 (2 : Int) (spec_l01Next_1 (6 : Int) (spec_l01Next_1 (3 : Int) (spec_l01Next_1 (3 : Int) x0 x2) x2) x2)
          (spec_l01Next_2 (6 : Int) (spec_l01Next_1 (3 : Int) (spec_l01Next_1 (3 : Int) x0 x2) x2)
            (spec_l01Next_2 (3 : Int) (spec_l01Next_1 (3 : Int) x0 x2) (spec_l01Next_2 (3 : Int) x0 x1 x2) x2) x2)
          x2)
        x2
    else (0 : Int)

def spec_l31DrawEvent_2 (x0 : Int) (x1 : Int) (x2 : List Int) : Bool :=
  bif
    spec_l01Next_0 (80 : Int)
        (bif
            spec_l01Next_0 (6 : Int) (spec_l01Next_1 (3 : Int) (spec_l01Next_1 (3 : Int) x0 x2) x2)
                (spec_l01Next_2 (3 : Int) (spec_l01Next_1 (3 : Int) x0 x2) (spec_l01Next_2 (3 : Int) x0 x1 x2) x2) x2 ==
              (0 : Int) then
          spec_l01Next_1 (2 : Int)
            (spec_l01Next_1 (2 : Int) (spec_l01Next_1 (6 : Int) (spec_l01Next_1 (3 : Int) (spec_l01Next_1 (3 : Int) x0 x2) x2) x2) x2) x2
        else spec_l01Next_1 (6 : Int) (spec_l01Next_1 (3 : Int) (spec_l01Next_1 (3 : Int) x0 x2) x2) x2)
        (bif
            spec_l01Next_0 (6 : Int) (spec_l01Next_1 (3 : Int) (spec_l01Next_1 (3 : Int) x0 x2) x2)
                (spec_l01Next_2 (3 : Int) (spec_l01Next_1 (3 : Int) x0 x2) (spec_l01Next_2 (3 : Int) x0 x1 x2) x2) x2 ==
              (0 : Int) then
          spec_l01Next_2 (2 : Int)
            (spec_l01Next_1 (2 : Int) (spec_l01Next_1 (6 : Int) (spec_l01Next_1 (3 : Int) (spec_l01Next_1 (3 : Int) x0 x2) x2) x2) x2)
            (spec_l01Next_2 (2 : Int) (spec_l01Next_1 (6 : Int) (spec_l01Next_1 (3 : Int) (spec_l01Next_1 (3 : Int) x0 x2) x2) x2)
              (spec_l01Next_2 (6 : Int) (spec_l01Next_1 (3 : Int) (spec_l01Next_1 (3 : Int) x0 x2) x2)
                (spec_l01Next_2 (3 : Int) (spec_l01Next_1 (3 : Int) x0 x2) (spec_l01Next_2 (3 : Int) x0 x1 x2) x2) x2)
              x2)
            x2
        else
          spec_l01Next_2 (6 : Int) (spec_l01Next_1 (3 : Int) (spec_l01Next_1 (3 : Int) x0 x2) x2)
            (spec_l01Next_2 (3 : Int) (spec_l01Next_1 (3 : Int) x0 x2) (spec_l01Next_2 (3 : Int) x0 x1 x2) x2) x2)
        x2 ==
      (0 : Int) then
  bif
      spec_l01Next_0 (6 : Int) (spec_l01Next_1 (3 : Int) (spec_l01Next_1 (3 : Int) x0 x2) x2)
          (spec_l01Next_2 (3 : Int) (spec_l01Next_1 (3 : Int) x0 x2) (spec_l01Next_2 (3 : Int) x0 x1 x2) x2) x2 ==
        (0 : Int) then
    false
  else spec_l01Next_0 (3 : Int) x0 x1 x2 == (0 : Int)
  else
  bif
      spec_l01Next_0 (80 : Int)
          (bif
              spec_l01Next_0 (6 : Int) (spec_l01Next_1 (3 : Int) (spec_l01Next_1 (3 : Int) x0 x2) x2)
                  (spec_l01Next_2 (3 : Int) (spec_l01Next_1 (3 : Int) x0 x2) (spec_l01Next_2 (3 : Int) x0 x1 x2) x2) x2 ==
                (0 : Int) then
            spec_l01Next_1 (2 : Int)
              (spec_l01Next_1 (2 : Int) (spec_l01Next_1 (6 : Int) (spec_l01Next_1 (3 : Int) (spec_l01Next_1 (3 : Int) x0 x2) x2) x2) x2) x2
          else spec_l01Next_1 (6 : Int) (spec_l01Next_1 (3 : Int) (spec_l01Next_1 (3 : Int) x0 x2) x2) x2)
          (bif
              spec_l01Next_0 (6 : Int) (spec_l01Next_1 (3 : Int) (spec_l01Next_1 (3 : Int) x0 x2) x2)
                  (spec_l01Next_2 (3 : Int) (spec_l01Next_1 (3 : Int) x0 x2) (spec_l01Next_2 (3 : Int) x0 x1 x2) x2) x2 ==
                (0 : Int) then
            spec_l01Next_2 (2 : Int)
              (spec_l01Next_1 (2 : Int) (spec_l01Next_1 (6 : Int) (spec_l01Next_1 (3 : Int) (spec_l01Next_1 (3 : Int) x0 x2) x2) x2) x2)
              (spec_l01Next_2 (2 : Int) (spec_l01Next_1 (6 : Int) (spec_l01Next_1 (3 : Int) (spec_l01Next_1 (3 : Int) x0 x2) x2) x2)
                (spec_l01Next_2 (6 : Int) (spec_l01Next_1 (3 : Int) (spec_l01Next_1 (3 : Int) x0 x2) x2)
                  (spec_l01Next_2 (3 : Int) (spec_l01Next_1 (3 : Int) x0 x2) (spec_l01Next_2 (3 : Int) x0 x1 x2) x2) x2)
                x2)
              x2
          else
            spec_l01Next_2 (6 : Int) (spec_l01Next_1 (3 : Int) (spec_l01Next_1 (3 : Int) x0 x2) x2)
              (spec_l01Next_2 (3 : Int) (spec_l01Next_1 (3 : Int) x0 x2) (spec_l01Next_2 (3 : Int) x0 x1 x2) x2) x2)
          x2 ==
        (1 : Int) then
    bif
        spec_l01Next_0 (6 : Int) (spec_l01Next_1 (3 : Int) (spec_l01Next_1 (3 : Int) x0 x2) x2)
            (spec_l01Next_2 (3 : Int) (spec_l01Next_1 (3 : Int) x0 x2) (spec_l01Next_2 (3 : Int) x0 x1 x2) x2) x2 ==
          (0 : Int) then
      false
    else spec_l01Next_0 (3 : Int) x0 x1 x2 == (0 : Int)
  else
    bif
        spec_l01Next_0 (6 : Int) (spec_l01Next_1 (3 : Int) (spec_l01Next_1 (3 : Int) x0 x2) x2)
            (spec_l01Next_2 (3 : Int) (spec_l01Next_1 (3 : Int) x0 x2) (spec_l01Next_2 (3 : Int) x0 x1 x2) x2) x2 ==
          (0 : Int) then
      false
    else spec_l01Next_0 (3 : Int) x0 x1 x2 == (0 : Int)

def spec_l31DrawEvent_3 (x0 : Int) (x1 : Int) (x2 : List Int) : Bool :=
  bif
    spec_l01Next_0 (80 : Int)
        (bif
            spec_l01Next_0 (6 : Int) (spec_l01Next_1 (3 : Int) (spec_l01Next_1 (3 : Int) x0 x2) x2)
                (spec_l01Next_2 (3 : Int) (spec_l01Next_1 (3 : Int) x0 x2) (spec_l01Next_2 (3 : Int) x0 x1 x2) x2) x2 ==
              (0 : Int) then
          spec_l01Next_1 (2 : Int)
            (spec_l01Next_1 (2 : Int) (spec_l01Next_1 (6 : Int) (spec_l01Next_1 (3 : Int) (spec_l01Next_1 (3 : Int) x0 x2) x2) x2) x2) x2
        else spec_l01Next_1 (6 : Int) (spec_l01Next_1 (3 : Int) (spec_l01Next_1 (3 : Int) x0 x2) x2) x2)
        (bif
            spec_l01Next_0 (6 : Int) (spec_l01Next_1 (3 : Int) (spec_l01Next_1 (3 : Int) x0 x2) x2)
                (spec_l01Next_2 (3 : Int) (spec_l01Next_1 (3 : Int) x0 x2) (spec_l01Next_2 (3 : Int) x0 x1 x2) x2) x2 ==
              (0 : Int) then
          spec_l01Next_2 (2 : Int)
            (spec_l01Next_1 (2 : Int) (spec_l01Next_1 (6 : Int) (spec_l01Next_1 (3 : Int) (spec_l01Next_1 (3 : Int) x0 x2) x2) x2) x2)
            (spec_l01Next_2 (2 : Int) (spec_l01Next_1 (6 : Int) (spec_l01Next_1 (3 : Int) (spec_l01Next_1 (3 : Int) x0 x2) x2) x2)
              (spec_l01Next_2 (6 : Int) (spec_l01Next_1 (3 : Int) (spec_l01Next_1 (3 : Int) x0 x2) x2)
                (spec_l01Next_2 (3 : Int) (spec_l01Next_1 (3 : Int) x0 x2) (spec_l01Next_2 (3 : Int) x0 x1 x2) x2) x2)
              x2)
            x2
        else
          spec_l01Next_2 (6 : Int) (spec_l01Next_1 (3 : Int) (spec_l01Next_1 (3 : Int) x0 x2) x2)
            (spec_l01Next_2 (3 : Int) (spec_l01Next_1 (3 : Int) x0 x2) (spec_l01Next_2 (3 : Int) x0 x1 x2) x2) x2)
        x2 ==
      (0 : Int) then
  bif
      spec_l01Next_0 (6 : Int) (spec_l01Next_1 (3 : Int) (spec_l01Next_1 (3 : Int) x0 x2) x2)
          (spec_l01Next_2 (3 : Int) (spec_l01Next_1 (3 : Int) x0 x2) (spec_l01Next_2 (3 : Int) x0 x1 x2) x2) x2 ==
        (0 : Int) then
    false
  else spec_l01Next_0 (3 : Int) (spec_l01Next_1 (3 : Int) x0 x2) (spec_l01Next_2 (3 : Int) x0 x1 x2) x2 == (0 : Int)
  else
  bif
      spec_l01Next_0 (80 : Int)
          (bif
              spec_l01Next_0 (6 : Int) (spec_l01Next_1 (3 : Int) (spec_l01Next_1 (3 : Int) x0 x2) x2)
                  (spec_l01Next_2 (3 : Int) (spec_l01Next_1 (3 : Int) x0 x2) (spec_l01Next_2 (3 : Int) x0 x1 x2) x2) x2 ==
                (0 : Int) then
            spec_l01Next_1 (2 : Int)
              (spec_l01Next_1 (2 : Int) (spec_l01Next_1 (6 : Int) (spec_l01Next_1 (3 : Int) (spec_l01Next_1 (3 : Int) x0 x2) x2) x2) x2) x2
          else spec_l01Next_1 (6 : Int) (spec_l01Next_1 (3 : Int) (spec_l01Next_1 (3 : Int) x0 x2) x2) x2)
          (bif
              spec_l01Next_0 (6 : Int) (spec_l01Next_1 (3 : Int) (spec_l01Next_1 (3 : Int) x0 x2) x2)
                  (spec_l01Next_2 (3 : Int) (spec_l01Next_1 (3 : Int) x0 x2) (spec_l01Next_2 (3 : Int) x0 x1 x2) x2) x2 ==
                (0 : Int) then
            spec_l01Next_2 (2 : Int)
              (spec_l01Next_1 (2 : Int) (spec_l01Next_1 (6 : Int) (spec_l01Next_1 (3 : Int) (spec_l01Next_1 (3 : Int) x0 x2) x2) x2) x2)
              (spec_l01Next_2 (2 : Int) (spec_l01Next_1 (6 : Int) (spec_l01Next_1 (3 : Int) (spec_l01Next_1 (3 : Int) x0 x2) x2) x2)
                (spec_l01Next_2 (6 : Int) (spec_l01Next_1 (3 : Int) (spec_l01Next_1 (3 : Int) x0 x2) x2)
                  (spec_l01Next_2 (3 : Int) (spec_l01Next_1 (3 : Int) x0 x2) (spec_l01Next_2 (3 : Int) x0 x1 x2) x2) x2)
                x2)
              x2
          else
            spec_l01Next_2 (6 : Int) (spec_l01Next_1 (3 : Int) (spec_l01Next_1 (3 : Int) x0 x2) x2)
              (spec_l01Next_2 (3 : Int) (spec_l01Next_1 (3 : Int) x0 x2) (spec_l01Next_2 (3 : Int) x0 x1 x2) x2) x2)
          x2 ==
        (1 : Int) then
    bif
        spec_l01Next_0 (6 : Int) (spec_l01Next_1 (3 : Int) (spec_l01Next_1 (3 : Int) x0 x2) x2)
            (spec_l01Next_2 (3 : Int) (spec_l01Next_1 (3 : Int) x0 x2) (spec_l01Next_2 (3 : Int) x0 x1 x2) x2) x2 ==
          (0 : Int) then
      false
    else spec_l01Next_0 (3 : Int) (spec_l01Next_1 (3 : Int) x0 x2) (spec_l01Next_2 (3 : Int) x0 x1 x2) x2 == (0 : Int)
  else
    bif
        spec_l01Next_0 (6 : Int) (spec_l01Next_1 (3 : Int) (spec_l01Next_1 (3 : Int) x0 x2) x2)
            (spec_l01Next_2 (3 : Int) (spec_l01Next_1 (3 : Int) x0 x2) (spec_l01Next_2 (3 : Int) x0 x1 x2) x2) x2 ==
          (0 : Int) then
      false
    else spec_l01Next_0 (3 : Int) (spec_l01Next_1 (3 : Int) x0 x2) (spec_l01Next_2 (3 : Int) x0 x1 x2) x2 == (0 : Int)

def spec_l31DrawEvent_4 (x0 : Int) (x1 : Int) (x2 : List Int) : Int :=
  bif
    spec_l01Next_0 (80 : Int)
        (bif
            spec_l01Next_0 (6 : Int) (spec_l01Next_1 (3 : Int) (spec_l01Next_1 (3 : Int) x0 x2) x2)
                (spec_l01Next_2 (3 : Int) (spec_l01Next_1 (3 : Int) x0 x2) (spec_l01Next_2 (3 : Int) x0 x1 x2) x2) x2 ==
              (0 : Int) then
          spec_l01Next_1 (2 : Int)
            (spec_l01Next_1 (2 : Int) (spec_l01Next_1 (6 : Int) (spec_l01Next_1 (3 : Int) (spec_l01Next_1 (3 : Int) x0 x2) x2) x2) x2) x2
        else spec_l01Next_1 (6 : Int) (spec_l01Next_1 (3 : Int) (spec_l01Next_1 (3 : Int) x0 x2) x2) x2)
        (bif
            spec_l01Next_0 (6 : Int) (spec_l01Next_1 (3 : Int) (spec_l01Next_1 (3 : Int) x0 x2) x2)
                (spec_l01Next_2 (3 : Int) (spec_l01Next_1 (3 : Int) x0 x2) (spec_l01Next_2 (3 : Int) x0 x1 x2) x2) x2 ==
              (0 : Int) then
          spec_l01Next_2 (2 : Int)
            (spec_l01Next_1 (2 : Int) (spec_l01Next_1 (6 : Int) (spec_l01Next_1 (3 : Int) (spec_l01Next_1 (3 : Int) x0 x2) x2) x2) x2)
            (spec_l01Next_2 (2 : Int) (spec_l01Next_1 (6 : Int) (spec_l01Next_1 (3 : Int) (spec_l01Next_1 (3 : Int) x0 x2) x2) x2)
              (spec_l01Next_2 (6 : Int) (spec_l01Next_1 (3 : Int) (spec_l01Next_1 (3 : Int) x0 x2) x2)
                (spec_l01Next_2 (3 : Int) (spec_l01Next_1 (3 : Int) x0 x2) (spec_l01Next_2 (3 : Int) x0 x1 x2) x2) x2)
              x2)
            x2
        else
          spec_l01Next_2 (6 : Int) (spec_l01Next_1 (3 : Int) (spec_l01Next_1 (3 : Int) x0 x2) x2)
            (spec_l01Next_2 (3 : Int) (spec_l01Next_1 (3 : Int) x0 x2) (spec_l01Next_2 (3 : Int) x0 x1 x2) x2) x2)
        x2 ==
      (0 : Int) then
  spec_l01Pick_1
    (spec_l01Next_1 (80 : Int)
      (bif
          spec_l01Next_0 (6 : Int) (spec_l01Next_1 (3 : Int) (spec_l01Next_1 (3 : Int) x0 x2) x2)
              (spec_l01Next_2 (3 : Int) (spec_l01Next_1 (3 : Int) x0 x2) (spec_l01Next_2 (3 : Int) x0 x1 x2) x2) x2 ==
            (0 : Int) then
        spec_l01Next_1 (2 : Int)
          (spec_l01Next_1 (2 : Int) (spec_l01Next_1 (6 : Int) (spec_l01Next_1 (3 : Int) (spec_l01Next_1 (3 : Int) x0 x2) x2) x2) x2) x2
      else spec_l01Next_1 (6 : Int) (spec_l01Next_1 (3 : Int) (spec_l01Next_1 (3 : Int) x0 x2) x2) x2)
      x2)
    [(-1 : Int), (3 : Int), (1 : Int)] x2
  else
  bif
      spec_l01Next_0 (80 : Int)
          (bif
              spec_l01Next_0 (6 : Int) (spec_l01Next_1 (3 : Int) (spec_l01Next_1 (3 : Int) x0 x2) x2)
                  (spec_l01Next_2 (3 : Int) (spec_l01Next_1 (3 : Int) x0 x2) (spec_l01Next_2 (3 : Int) x0 x1 x2) x2) x2 ==
                (0 : Int) then
            spec_l01Next_1 (2 : Int)
              (spec_l01Next_1 (2 : Int) (spec_l01Next_1 (6 : Int) (spec_l01Next_1 (3 : Int) (spec_l01Next_1 (3 : Int) x0 x2) x2) x2) x2) x2
          else spec_l01Next_1 (6 : Int) (spec_l01Next_1 (3 : Int) (spec_l01Next_1 (3 : Int) x0 x2) x2) x2)
          (bif
              spec_l01Next_0 (6 : Int) (spec_l01Next_1 (3 : Int) (spec_l01Next_1 (3 : Int) x0 x2) x2)
                  (spec_l01Next_2 (3 : Int) (spec_l01Next_1 (3 : Int) x0 x2) (spec_l01Next_2 (3 : Int) x0 x1 x2) x2) x2 ==
                (0 : Int) then
            spec_l01Next_2 (2 : Int)
              (spec_l01Next_1 (2 : Int) (spec_l01Next_1 (6 : Int) (spec_l01Next_1 (3 : Int) (spec_l01Next_1 (3 : Int) x0 x2) x2) x2) x2)
              (spec_l01Next_2 (2 : Int) (spec_l01Next_1 (6 : Int) (spec_l01Next_1 (3 : Int) (spec_l01Next_1 (3 : Int) x0 x2) x2) x2)
                (spec_l01Next_2 (6 : Int) (spec_l01Next_1 (3 : Int) (spec_l01Next_1 (3 : Int) x0 x2) x2)
                  (spec_l01Next_2 (3 : Int) (spec_l01Next_1 (3 : Int) x0 x2) (spec_l01Next_2 (3 : Int) x0 x1 x2) x2) x2)
                x2)
              x2
          else
            spec_l01Next_2 (6 : Int) (spec_l01Next_1 (3 : Int) (spec_l01Next_1 (3 : Int) x0 x2) x2)
              (spec_l01Next_2 (3 : Int) (spec_l01Next_1 (3 : Int) x0 x2) (spec_l01Next_2 (3 : Int) x0 x1 x2) x2) x2)
          x2 ==
        (1 : Int) then
    spec_l01Pick_1
      (spec_l01Next_1 (80 : Int)
        (bif
            spec_l01Next_0 (6 : Int) (spec_l01Next_1 (3 : Int) (spec_l01Next_1 (3 : Int) x0 x2) x2)
                (spec_l01Next_2 (3 : Int) (spec_l01Next_1 (3 : Int) x0 x2) (spec_l01Next_2 (3 : Int) x0 x1 x2) x2) x2 ==
              (0 : Int) then
          spec_l01Next_1 (2 : Int)
            (spec_l01Next_1 (2 : Int) (spec_l01Next_1 (6 : Int) (spec_l01Next_1 (3 : Int) (spec_l01Next_1 (3 : Int) x0 x2) x2) x2) x2) x2
        else spec_l01Next_1 (6 : Int) (spec_l01Next_1 (3 : Int) (spec_l01Next_1 (3 : Int) x0 x2) x2) x2)
        x2)
      [(-1 : Int), (1 : Int), (2 : Int)] x2
  else
    spec_l01Next_1 (80 : Int)
      (bif
          spec_l01Next_0 (6 : Int) (spec_l01Next_1 (3 : Int) (spec_l01Next_1 (3 : Int) x0 x2) x2)
              (spec_l01Next_2 (3 : Int) (spec_l01Next_1 (3 : Int) x0 x2) (spec_l01Next_2 (3 : Int) x0 x1 x2) x2) x2 ==
            (0 : Int) then
        spec_l01Next_1 (2 : Int)
          (spec_l01Next_1 (2 : Int) (spec_l01Next_1 (6 : Int) (spec_l01Next_1 (3 : Int) (spec_l01Next_1 (3 : Int) x0 x2) x2) x2) x2) x2
      else spec_l01Next_1 (6 : Int) (spec_l01Next_1 (3 : Int) (spec_l01Next_1 (3 : Int) x0 x2) x2) x2)
      x2

def spec_l31DrawEvent_5 (x0 : Int) (x1 : Int) (x2 : List Int) : Int :=
  bif
    spec_l01Next_0 (80 : Int)
        (bif
            spec_l01Next_0 (6 : Int) (spec_l01Next_1 (3 : Int) (spec_l01Next_1 (3 : Int) x0 x2) x2)
                (spec_l01Next_2 (3 : Int) (spec_l01Next_1 (3 : Int) x0 x2) (spec_l01Next_2 (3 : Int) x0 x1 x2) x2) x2 ==
              (0 : Int) then
          spec_l01Next_1 (2 : Int)
            (spec_l01Next_1 (2 : Int) (spec_l01Next_1 (6 : Int) (spec_l01Next_1 (3 : Int) (spec_l01Next_1 (3 : Int) x0 x2) x2) x2) x2) x2
        else spec_l01Next_1 (6 : Int) (spec_l01Next_1 (3 : Int) (spec_l01Next_1 (3 : Int) x0 x2) x2) x2)
        (bif
            spec_l01Next_0 (6 : Int) (spec_l01Next_1 (3 : Int) (spec_l01Next_1 (3 : Int) x0 x2) x2)
                (spec_l01Next_2 (3 : Int) (spec_l01Next_1 (3 : Int) x0 x2) (spec_l01Next_2 (3 : Int) x0 x1 x2) x2) x2 ==
              (0 : Int) then
          spec_l01Next_2 (2 : Int)
            (spec_l01Next_1 (2 : Int) (spec_l01Next_1 (6 : Int) (spec_l01Next_1 (3 : Int) (spec_l01Next_1 (3 : Int) x0 x2) x2) x2) x2)
            (spec_l01Next_2 (2 : Int) (spec_l01Next_1 (6 : Int) (spec_l01Next_1 (3 : Int) (spec_l01Next_1 (3 : Int) x0 x2) x2) x2)
              (spec_l01Next_2 (6 : Int) (spec_l01Next_1 (3 : Int) (spec_l01Next_1 (3 : Int) x0 x2) x2)
                (spec_l01Next_2 (3 : Int) (spec_l01Next_1 (3 : Int) x0 x2) (spec_l01Next_2 (3 : Int) x0 x1 x2) x2) x2)
              x2)
            x2
        else
          spec_l01Next_2 (6 : Int) (spec_l01Next_1 (3 : Int) (spec_l01Next_1 (3 : Int) x0 x2) x2)
            (spec_l01Next_2 (3 : Int) (spec_l01Next_1 (3 : Int) x0 x2) (spec_l01Next_2 (3 : Int) x0 x1 x2) x2) x2)
        x2 ==
      (0 : Int) then
  spec_l01Pick_2
    (spec_l01Next_1 (80 : Int)
      (bif
          spec_l01Next_0 (6 : Int) (spec_l01Next_1 (3 : Int) (spec_l01Next_1 (3 : Int) x0 x2) x2)
              (spec_l01Next_2 (3 : Int) (spec_l01Next_1 (3 : Int) x0 x2) (spec_l01Next_2 (3 : Int) x0 x1 x2) x2) x2 ==
            (0 : Int) then
        spec_l01Next_1 (2 : Int)
          (spec_l01Next_1 (2 : Int) (spec_l01Next_1 (6 : Int) (spec_l01Next_1 (3 : Int) (spec_l01Next_1 (3 : Int) x0 x2) x2) x2) x2) x2
      else spec_l01Next_1 (6 : Int) (spec_l01Next_1 (3 : Int) (spec_l01Next_1 (3 : Int) x0 x2) x2) x2)
      x2)
    (spec_l01Next_2 (80 : Int)
      (bif
          spec_l01Next_0 (6 : Int) (spec_l01Next_1 (3 : Int) (spec_l01Next_1 (3 : Int) x0 x2) x2)
              (spec_l01Next_2 (3 : Int) (spec_l01Next_1 (3 : Int) x0 x2) (spec_l01Next_2 (3 : Int) x0 x1 x2) x2) x2 ==
            (0 : Int) then
        spec_l01Next_1 (2 : Int)
          (spec_l01Next_1 (2 : Int) (spec_l01Next_1 (6 : Int) (spec_l01Next_1 (3 : Int) (spec_l01Next_1 (3 : Int) x0 x2) x2) x2) x2) x2
      else spec_l01Next_1 (6 : Int) (spec_l01Next_1 (3 : Int) (spec_l01Next_1 (3 : Int) x0 x2) x2) x2)
      (bif
          spec_l01Next_0 (6 : Int) (spec_l01Next_1 (3 : Int) (spec_l01Next_1 (3 : Int) x0 x2) x2)
              (spec_l01Next_2 (3 : Int) (spec_l01Next_1 (3 : Int) x0 x2) (spec_l01Next_2 (3 : Int) x0 x1 x2) x2) x2 ==
            (0 : Int) then
        spec_l01Next_2 (2 : Int)
          (spec_l01Next_1 (2 : Int) (spec_l01Next_1 (6 : Int) (spec_l01Next_1 (3 : Int) (spec_l01Next_1 (3 : Int) x0 x2) x2) x2) x2)
          (spec_l01Next_2 (2 : Int) (spec_l01Next_1 (6 : Int) (spec_l01Next_1 (3 : Int) (spec_l01Next_1 (3 : Int) x0 x2) x2) x2)
            (spec_l01Next_2 (6 : Int) (spec_l01Next_1 (3 : Int) (spec_l01Next_1 (3 : Int) x0 x2) x2)
              (spec_l01Next_2 (3 : Int) (spec_l01Next_1 (3 : Int) x0 x2) (spec_l01Next_2 (3 : Int) x0 x1 x2) x2) x2)
            x2)
          x2
      else
        spec_l01Next_2 (6 : Int) (spec_l01Next_1 (3 : Int) (spec_l01Next_1 (3 : Int) x0 x2) x2)
          (spec_l01Next_2 (3 : Int) (spec_l01Next_1 (3 : Int) x0 x2) (spec_l01Next_2 (3 : Int) x0 x1 x2) x2) x2)
      x2)
    [(-1 : Int), (3 : Int), (1 : Int)] x2
  else
  bif
      spec_l01Next_0 (80 : Int)
          (bif
              spec_l01Next_0 (6 : Int) (spec_l01Next_1 (3 : Int) (spec_l01Next_1 (3 : Int) x0 x2) x2)
                  (spec_l01Next_2 (3 : Int) (spec_l01Next_1 (3 : Int) x0 x2) (spec_l01Next_2 (3 : Int) x0 x1 x2) x2) x2 ==
                (0 : Int) then
            spec_l01Next_1 (2 : Int)
              (spec_l01Next_1 (2 : Int) (spec_l01Next_1 (6 : Int) (spec_l01Next_1 (3 : Int) (spec_l01Next_1 (3 : Int) x0 x2) x2) x2) x2) x2
          else spec_l01Next_1 (6 : Int) (spec_l01Next_1 (3 : Int) (spec_l01Next_1 (3 : Int) x0 x2) x2) x2)
          (bif
              spec_l01Next_0 (6 : Int) (spec_l01Next_1 (3 : Int) (spec_l01Next_1 (3 : Int) x0 x2) x2)
                  (spec_l01Next_2 (3 : Int) (spec_l01Next_1 (3 : Int) x0 x2) (spec_l01Next_2 (3 : Int) x0 x1 x2) x2) x2 ==
                (0 : Int) then
            spec_l01Next_2 (2 : Int)
              (spec_l01Next_1 (2 : Int) (spec_l01Next_1 (6 : Int) (spec_l01Next_1 (3 : Int) (spec_l01Next_1 (3 : Int) x0 x2) x2) x2) x2)
              (spec_l01Next_2 (2 : Int) (spec_l01Next_1 (6 : Int) (spec_l01Next_1 (3 : Int) (spec_l01Next_1 (3 : Int) x0 x2) x2) x2)
                (spec_l01Next_2 (6 : Int) (spec_l01Next_1 (3 : Int) (spec_l01Next_1 (3 : Int) x0 x2) x2)
                  (spec_l01Next_2 (3 : Int) (spec_l01Next_1 (3 : Int) x0 x2) (spec_l01Next_2 (3 : Int) x0 x1 x2) x2) x2)
                x2)
              x2
          else
            spec_l01Next_2 (6 : Int) (spec_l01Next_1 (3 : Int) (spec_l01Next_1 (3 : Int) x0 x2) x2)
              (spec_l01Next_2 (3 : Int) (spec_l01Next_1 (3 : Int) x0 x2) (spec_l01Next_2 (3 : Int) x0 x1 x2) x2) x2)
          x2 ==
        (1 : Int) then
    spec_l01Pick_2
      (spec_l01Next_1 (80 : Int)
        (bif
            spec_l01Next_0 (6 : Int) (spec_l01Next_1 (3 : Int) (spec_l01Next_1 (3 : Int) x0 x2) x2)
                (spec_l01Next_2 (3 : Int) (spec_l01Next_1 (3 : Int) x0 x2) (spec_l01Next_2 (3 : Int) x0 x1 x2) x2) x2 ==
              (0 : Int) then
          spec_l01Next_1 (2 : Int)
            (spec_l01Next_1 (2 : Int) (spec_l01Next_1 (6 : Int) (spec_l01Next_1 (3 : Int) (spec_l01Next_1 (3 : Int) x0 x2) x2) x2) x2) x2
        else spec_l01Next_1 (6 : Int) (spec_l01Next_1 (3 : Int) (spec_l01Next_1 (3 : Int) x0 x2) x2) x2)
        x2)
      (spec_l01Next_2 (80 : Int)
        (bif
            spec_l01Next_0 (6 : Int) (spec_l01Next_1 (3 : Int) (spec_l01Next_1 (3 : Int) x0 x2) x2)
                (spec_l01Next_2 (3 : Int) (spec_l01Next_1 (3 : Int) x0 x2) (spec_l01Next_2 (3 : Int) x0 x1 x2) x2) x2 ==
              (0 : Int) then
          spec_l01Next_1 (2 : Int)
            (spec_l01Next_1 (2 : Int) (spec_l01Next_1 (6 : Int) (spec_l01Next_1 (3 : Int) (spec_l01Next_1 (3 : Int) x0 x2) x2) x2) x2) x2
        else spec_l01Next_1 (6 : Int) (spec_l01Next_1 (3 : Int) (spec_l01Next_1 (3 : Int) x0 x2) x2) x2)
        (bif
            spec_l01Next_0 (6 : Int) (spec_l01Next_1 (3 : Int) (spec_l01Next_1 (3 : Int) x0 x2) x2)
                (spec_l01Next_2 (3 : Int) (spec_l01Next_1 (3 : Int) x0 x2) (spec_l01Next_2 (3 : Int) x0 x1 x2) x2) x2 ==
              (0 : Int) then
          spec_l01Next_2 (2 : Int)
            (spec_l01Next_1 (2 : Int) (spec_l01Next_1 (6 : Int) (spec_l01Next_1 (3 : Int) (spec_l01Next_1 (3 : Int) x0 x2) x2) x2) x2)
            (spec_l01Next_2 (2 : Int) (spec_l01Next_1 (6 : Int) (spec_l01Next_1 (3 : Int) (spec_l01Next_1 (3 : Int) x0 x2) x2) x2)
              (spec_l01Next_2 (6 : Int) (spec_l01Next_1 (3 : Int) (spec_l01Next_1 (3 : Int) x0 x2) x2)
                (spec_l01Next_2 (3 : Int) (spec_l01Next_1 (3 : Int) x0 x2) (spec_l01Next_2 (3 : Int) x0 x1 x2) x2) x2)
              x2)
            x2
        else
          spec_l01Next_2 (6 : Int) (spec_l01Next_1 (3 : Int) (spec_l01Next_1 (3 : Int) x0 x2) x2)
            (spec_l01Next_2 (3 : Int) (spec_l01Next_1 (3 : Int) x0 x2) (spec_l01Next_2 (3 : Int) x0 x1 x2) x2) x2)
        x2)
      [(-1 : Int), (1 : Int), (2 : Int)] x2
  else
    spec_l01Next_2 (80 : Int)
      (bif
          spec_l01Next_0 (6 : Int) (spec_l01Next_1 (3 : Int) (spec_l01Next_1 (3 : Int) x0 x2) x2)
              (spec_l01Next_2 (3 : Int) (spec_l01Next_1 (3 : Int) x0 x2) (spec_l01Next_2 (3 : Int) x0 x1 x2) x2) x2 ==
            (0 : Int) then
        spec_l01Next_1 (2 : Int)
          (spec_l01Next_1 (2 : Int) (spec_l01Next_1 (6 : Int) (spec_l01Next_1 (3 : Int) (spec_l01Next_1 (3 : Int) x0 x2) x2) x2) x2) x2
      else spec_l01Next_1 (6 : Int) (spec_l01Next_1 (3 : Int) (spec_l01Next_1 (3 : Int) x0 x2) x2) x2)
      (bif
          spec_l01Next_0 (6 : Int) (spec_l01Next_1 (3 : Int) (spec_l01Next_1 (3 : Int) x0 x2) x2)
              (spec_l01Next_2 (3 : Int) (spec_l01Next_1 (3 : Int) x0 x2) (spec_l01Next_2 (3 : Int) x0 x1 x2) x2) x2 ==
            (0 : Int) then
        spec_l01Next_2 (2 : Int)
          (spec_l01Next_1 (2 : Int) (spec_l01Next_1 (6 : Int) (spec_l01Next_1 (3 : Int) (spec_l01Next_1 (3 : Int) x0 x2) x2) x2) x2)
          (spec_l01Next_2 (2 : Int) (spec_l01Next_1 (6 : Int) (spec_l01Next_1 (3 : Int) (spec_l01Next_1 (3 : Int) x0 x2) x2) x2)
            (spec_l01Next_2 (6 : Int) (spec_l01Next_1 (3 : Int) (spec_l01Next_1 (3 : Int) x0 x2) x2)
              (spec_l01Next_2 (3 : Int) (spec_l01Next_1 (3 : Int) x0 x2) (spec_l01Next_2 (3 : Int) x0 x1 x2) x2) x2)
            x2)
          x2
      else
        spec_l01Next_2 (6 : Int) (spec_l01Next_1 (3 : Int) (spec_l01Next_1 (3 : Int) x0 x2) x2)
          (spec_l01Next_2 (3 : Int) (spec_l01Next_1 (3 : Int) x0 x2) (spec_l01Next_2 (3 : Int) x0 x1 x2) x2) x2)
      x2

def spec_l31DrawEvent_6 (x0 : Int) (x1 : Int) (x2 : List Int) : Bool :=
  allT
  [spec_l01Next_3 (3 : Int) x0 x2, spec_l01Next_3 (3 : Int) (spec_l01Next_1 (3 : Int) x0 x2) x2,
    spec_l01Next_3 (6 : Int) (spec_l01Next_1 (3 : Int) (spec_l01Next_1 (3 : Int) x0 x2) x2) x2,
    !spec_l01Next_0 (6 : Int) (spec_l01Next_1 (3 : Int) (spec_l01Next_1 (3 : Int) x0 x2) x2)
            (spec_l01Next_2 (3 : Int) (spec_l01Next_1 (3 : Int) x0 x2) (spec_l01Next_2 (3 : Int) x0 x1 x2) x2) x2 ==
          (0 : Int) ||
      spec_l01Next_3 (2 : Int) (spec_l01Next_1 (6 : Int) (spec_l01Next_1 (3 : Int) (spec_l01Next_1 (3 : Int) x0 x2) x2) x2) x2,
    !spec_l01Next_0 (6 : Int) (spec_l01Next_1 (3 : Int) (spec_l01Next_1 (3 : Int) x0 x2) x2)
            (spec_l01Next_2 (3 : Int) (spec_l01Next_1 (3 : Int) x0 x2) (spec_l01Next_2 (3 : Int) x0 x1 x2) x2) x2 ==
          (0 : Int) ||
      spec_l01Next_3 (2 : Int)
        (spec_l01Next_1 (2 : Int) (spec_l01Next_1 (6 : Int) (spec_l01Next_1 (3 : Int) (spec_l01Next_1 (3 : Int) x0 x2) x2) x2) x2) x2,
    spec_l01Next_3 (80 : Int)
      (bif
          spec_l01Next_0 (6 : Int) (spec_l01Next_1 (3 : Int) (spec_l01Next_1 (3 : Int) x0 x2) x2)
              (spec_l01Next_2 (3 : Int) (spec_l01Next_1 (3 : Int) x0 x2) (spec_l01Next_2 (3 : Int) x0 x1 x2) x2) x2 ==
            (0 : Int) then
        spec_l01Next_1 (2 : Int)
          (spec_l01Next_1 (2 : Int) (spec_l01Next_1 (6 : Int) (spec_l01Next_1 (3 : Int) (spec_l01Next_1 (3 : Int) x0 x2) x2) x2) x2) x2
      else spec_l01Next_1 (6 : Int) (spec_l01Next_1 (3 : Int) (spec_l01Next_1 (3 : Int) x0 x2) x2) x2)
      x2,
    !spec_l01Next_0 (80 : Int)
            (bif
                spec_l01Next_0 (6 : Int) (spec_l01Next_1 (3 : Int) (spec_l01Next_1 (3 : Int) x0 x2) x2)
                    (spec_l01Next_2 (3 : Int) (spec_l01Next_1 (3 : Int) x0 x2) (spec_l01Next_2 (3 : Int) x0 x1 x2) x2) x2 ==
                  (0 : Int) then
              spec_l01Next_1 (2 : Int)
                (spec_l01Next_1 (2 : Int) (spec_l01Next_1 (6 : Int) (spec_l01Next_1 (3 : Int) (spec_l01Next_1 (3 : Int) x0 x2) x2) x2) x2) x2
            else spec_l01Next_1 (6 : Int) (spec_l01Next_1 (3 : Int) (spec_l01Next_1 (3 : Int) x0 x2) x2) x2)
            (bif
                spec_l01Next_0 (6 : Int) (spec_l01Next_1 (3 : Int) (spec_l01Next_1 (3 : Int) x0 x2) x2)
                    (spec_l01Next_2 (3 : Int) (spec_l01Next_1 (3 : Int) x0 x2) (spec_l01Next_2 (3 : Int) x0 x1 x2) x2) x2 ==
                  (0 : Int) then
              spec_l01Next_2 (2 : Int)
                (spec_l01Next_1 (2 : Int) (spec_l01Next_1 (6 : Int) (spec_l01Next_1 (3 : Int) (spec_l01Next_1 (3 : Int) x0 x2) x2) x2) x2)
                (spec_l01Next_2 (2 : Int) (spec_l01Next_1 (6 : Int) (spec_l01Next_1 (3 : Int) (spec_l01Next_1 (3 : Int) x0 x2) x2) x2)
                  (spec_l01Next_2 (6 : Int) (spec_l01Next_1 (3 : Int) (spec_l01Next_1 (3 : Int) x0 x2) x2)
                    (spec_l01Next_2 (3 : Int) (spec_l01Next_1 (3 : Int) x0 x2) (spec_l01Next_2 (3 : Int) x0 x1 x2) x2) x2)
                  x2)
                x2
            else
              spec_l01Next_2 (6 : Int) (spec_l01Next_1 (3 : Int) (spec_l01Next_1 (3 : Int) x0 x2) x2)
                (spec_l01Next_2 (3 : Int) (spec_l01Next_1 (3 : Int) x0 x2) (spec_l01Next_2 (3 : Int) x0 x1 x2) x2) x2)
            x2 ==
          (0 : Int) ||
      spec_l01Pick_3
        (spec_l01Next_1 (80 : Int)
          (bif
              spec_l01Next_0 (6 : Int) (spec_l01Next_1 (3 : Int) (spec_l01Next_1 (3 : Int) x0 x2) x2)
                  (spec_l01Next_2 (3 : Int) (spec_l01Next_1 (3 : Int) x0 x2) (spec_l01Next_2 (3 : Int) x0 x1 x2) x2) x2 ==
                (0 : Int) then
            spec_l01Next_1 (2 : Int)
              (spec_l01Next_1 (2 : Int) (spec_l01Next_1 (6 : Int) (spec_l01Next_1 (3 : Int) (spec_l01Next_1 (3 : Int) x0 x2) x2) x2) x2) x2
          else spec_l01Next_1 (6 : Int) (spec_l01Next_1 (3 : Int) (spec_l01Next_1 (3 : Int) x0 x2) x2) x2)
          x2)
        (spec_l01Next_2 (80 : Int)
          (bif
              spec_l01Next_0 (6 : Int) (spec_l01Next_1 (3 : Int) (spec_l01Next_1 (3 : Int) x0 x2) x2)
                  (spec_l01Next_2 (3 : Int) (spec_l01Next_1 (3 : Int) x0 x2) (spec_l01Next_2 (3 : Int) x0 x1 x2) x2) x2 ==
                (0 : Int) then
            spec_l01Next_1 (2 : Int)
              (spec_l01Next_1 (2 : Int) (spec_l01Next_1 (6 : Int) (spec_l01Next_1 (3 : Int) (spec_l01Next_1 (3 : Int) x0 x2) x2) x2) x2) x2
          else spec_l01Next_1 (6 : Int) (spec_l01Next_1 (3 : Int) (spec_l01Next_1 (3 : Int) x0 x2) x2) x2)
          (bif
              spec_l01Next_0 (6 : Int) (spec_l01Next_1 (3 : Int) (spec_l01Next_1 (3 : Int) x0 x2) x2)
                  (spec_l01Next_2 (3 : Int) (spec_l01Next_1 (3 : Int) x0 x2) (spec_l01Next_2 (3 : Int) x0 x1 x2) x2) x2 ==
                (0 : Int) then
            spec_l01Next_2 (2 : Int)
              (spec_l01Next_1 (2 : Int) (spec_l01Next_1 (6 : Int) (spec_l01Next_1 (3 : Int) (spec_l01Next_1 (3 : Int) x0 x2) x2) x2) x2)
              (spec_l01Next_2 (2 : Int) (spec_l01Next_1 (6 : Int) (spec_l01Next_1 (3 : Int) (spec_l01Next_1 (3 : Int) x0 x2) x2) x2)
                (spec_l01Next_2 (6 : Int) (spec_l01Next_1 (3 : Int) (spec_l01Next_1 (3 : Int) x0 x2) x2)
                  (spec_l01Next_2 (3 : Int) (spec_l01Next_1 (3 : Int) x0 x2) (spec_l01Next_2 (3 : Int) x0 x1 x2) x2) x2)
                x2)
              x2
          else
            spec_l01Next_2 (6 : Int) (spec_l01Next_1 (3 : Int) (spec_l01Next_1 (3 : Int) x0 x2) x2)
              (spec_l01Next_2 (3 : Int) (spec_l01Next_1 (3 : Int) x0 x2) (spec_l01Next_2 (3 : Int) x0 x1 x2) x2) x2)
          x2)
        [(-1 : Int), (3 : Int), (1 : Int)] x2,
    spec_l01Next_0 (80 : Int)
          (bif
              spec_l01Next_0 (6 : Int) (spec_l01Next_1 (3 : Int) (spec_l01Next_1 (3 : Int) x0 x2) x2)
                  (spec_l01Next_2 (3 : Int) (spec_l01Next_1 (3 : Int) x0 x2) (spec_l01Next_2 (3 : Int) x0 x1 x2) x2) x2 ==
                (0 : Int) then
            spec_l01Next_1 (2 : Int)
              (spec_l01Next_1 (2 : Int) (spec_l01Next_1 (6 : Int) (spec_l01Next_1 (3 : Int) (spec_l01Next_1 (3 : Int) x0 x2) x2) x2) x2) x2
          else spec_l01Next_1 (6 : Int) (spec_l01Next_1 (3 : Int) (spec_l01Next_1 (3 : Int) x0 x2) x2) x2)
          (bif
              spec_l01Next_0 (6 : Int) (spec_l01Next_1 (3 : Int) (spec_l01Next_1 (3 : Int) x0 x2) x2)
                  (spec_l01Next_2 (3 : Int) (spec_l01Next_1 (3 : Int) x0 x2) (spec_l01Next_2 (3 : Int) x0 x1 x2) x2) x2 ==
                (0 : Int) then
            spec_l01Next_2 (2 : Int)
              (spec_l01Next_1 (2 : Int) (spec_l01Next_1 (6 : Int) (spec_l01Next_1 (3 : Int) (spec_l01Next_1 (3 : Int) x0 x2) x2) x2) x2)
              (spec_l01Next_2 (2 : Int) (spec_l01Next_1 (6 : Int) (spec_l01Next_1 (3 : Int) (spec_l01Next_1 (3 : Int) x0 x2) x2) x2)
                (spec_l01Next_2 (6 : Int) (spec_l01Next_1 (3 : Int) (spec_l01Next_1 (3 : Int) x0 x2) x2)
                  (spec_l01Next_2 (3 : Int) (spec_l01Next_1 (3 : Int) x0 x2) (spec_l01Next_2 (3 : Int) x0 x1 x2) x2) x2)
                x2)
              x2
          else
            spec_l01Next_2 (6 : Int) (spec_l01Next_1 (3 : Int) (spec_l01Next_1 (3 : Int) x0 x2) x2)
              (spec_l01Next_2 (3 : Int) (spec_l01Next_1 (3 : Int) x0 x2) (spec_l01Next_2 (3 : Int) x0 x1 x2) x2) x2)
          x2 ==
        (0 : Int) ||
      (!spec_l01Next_0 (80 : Int)
              (bif
                  spec_l01Next_0 (6 : Int) (spec_l01Next_1 (3 : Int) (spec_l01Next_1 (3 : Int) x0 x2) x2)
                      (spec_l01Next_2 (3 : Int) (spec_l01Next_1 (3 : Int) x0 x2) (spec_l01Next_2 (3 : Int) x0 x1 x2) x2) x2 ==
                    (0 : Int) then
                spec_l01Next_1 (2 : Int)
                  (spec_l01Next_1 (2 : Int) (spec_l01Next_1 (6 : Int) (spec_l01Next_1 (3 : Int) (spec_l01Next_1 (3 : Int) x0 x2) x2) x2) x2) x2
              else spec_l01Next_1 (6 : Int) (spec_l01Next_1 (3 : Int) (spec_l01Next_1 (3 : Int) x0 x2) x2) x2)
              (bif
                  spec_l01Next_0 (6 : Int) (spec_l01Next_1 (3 : Int) (spec_l01Next_1 (3 : Int) x0 x2) x2)
                      (spec_l01Next_2 (3 : Int) (spec_l01Next_1 (3 : Int) x0 x2) (spec_l01Next_2 (3 : Int) x0 x1 x2) x2) x2 ==
                    (0 : Int) then
                spec_l01Next_2 (2 : Int)
                  (spec_l01Next_1 (2 : Int) (spec_l01Next_1 (6 : Int) (spec_l01Next_1 (3 : Int) (spec_l01Next_1 (3 : Int) x0 x2) x2) x2) x2)
                  (spec_l01Next_2 (2 : Int) (spec_l01Next_1 (6 : Int) (spec_l01Next_1 (3 : Int) (spec_l01Next_1 (3 : Int) x0 x2) x2) x2)
                    (spec_l01Next_2 (6 : Int) (spec_l01Next_1 (3 : Int) (spec_l01Next_1 (3 : Int) x0 x2) x2)
                      (spec_l01Next_2 (3 : Int) (spec_l01Next_1 (3 : Int) x0 x2) (spec_l01Next_2 (3 : Int) x0 x1 x2) x2) x2)
                    x2)
                  x2
              else
                spec_l01Next_2 (6 : Int) (spec_l01Next_1 (3 : Int) (spec_l01Next_1 (3 : Int) x0 x2) x2)
                  (spec_l01Next_2 (3 : Int) (spec_l01Next_1 (3 : Int) x0 x2) (spec_l01Next_2 (3 : Int) x0 x1 x2) x2) x2)
              x2 ==
            (1 : Int) ||
        spec_l01Pick_3
          (spec_l01Next_1 (80 : Int)
            (bif
                spec_l01Next_0 (6 : Int) (spec_l01Next_1 (3 : Int) (spec_l01Next_1 (3 : Int) x0 x2) x2)
                    (spec_l01Next_2 (3 : Int) (spec_l01Next_1 (3 : Int) x0 x2) (spec_l01Next_2 (3 : Int) x0 x1 x2) x2) x2 ==
                  (0 : Int) then
              spec_l01Next_1 (2 : Int)
                (spec_l01Next_1 (2 : Int) (spec_l01Next_1 (6 : Int) (spec_l01Next_1 (3 : Int) (spec_l01Next_1 (3 : Int) x0 x2) x2) x2) x2) x2
            else spec_l01Next_1 (6 : Int) (spec_l01Next_1 (3 : Int) (spec_l01Next_1 (3 : Int) x0 x2) x2) x2)
            x2)
          (spec_l01Next_2 (80 : Int)
            (bif
                spec_l01Next_0 (6 : Int) (spec_l01Next_1 (3 : Int) (spec_l01Next_1 (3 : Int) x0 x2) x2)
                    (spec_l01Next_2 (3 : Int) (spec_l01Next_1 (3 : Int) x0 x2) (spec_l01Next_2 (3 : Int) x0 x1 x2) x2) x2 ==
                  (0 : Int) then
              spec_l01Next_1 (2 : Int)
                (spec_l01Next_1 (2 : Int) (spec_l01Next_1 (6 : Int) (spec_l01Next_1 (3 : Int) (spec_l01Next_1 (3 : Int) x0 x2) x2) x2) x2) x2
            else spec_l01Next_1 (6 : Int) (spec_l01Next_1 (3 : Int) (spec_l01Next_1 (3 : Int) x0 x2) x2) x2)
            (bif
                spec_l01Next_0 (6 : Int) (spec_l01Next_1 (3 : Int) (spec_l01Next_1 (3 : Int) x0 x2) x2)
                    (spec_l01Next_2 (3 : Int) (spec_l01Next_1 (3 : Int) x0 x2) (spec_l01Next_2 (3 : Int) x0 x1 x2) x2) x2 ==
                  (0 : Int) then
              spec_l01Next_2 (2 : Int)
                (spec_l01Next_1 (2 : Int) (spec_l01Next_1 (6 : Int) (spec_l01Next_1 (3 : Int) (spec_l01Next_1 (3 : Int) x0 x2) x2) x2) x2)
                (spec_l01Next_2 (2 : Int) (spec_l01Next_1 (6 : Int) (spec_l01Next_1 (3 : Int) (spec_l01Next_1 (3 : Int) x0 x2) x2) x2)
                  (spec_l01Next_2 (6 : Int) (spec_l01Next_1 (3 : Int) (spec_l01Next_1 (3 : Int) x0 x2) x2)
                    (spec_l01Next_2 (3 : Int) (spec_l01Next_1 (3 : Int) x0 x2) (spec_l01Next_2 (3 : Int) x0 x1 x2) x2) x2)
                  x2)
                x2
            else
              spec_l01Next_2 (6 : Int) (spec_l01Next_1 (3 : Int) (spec_l01Next_1 (3 : Int) x0 x2) x2)
                (spec_l01Next_2 (3 : Int) (spec_l01Next_1 (3 : Int) x0 x2) (spec_l01Next_2 (3 : Int) x0 x1 x2) x2) x2)
            x2)
          [(-1 : Int), (1 : Int), (2 : Int)] x2)]

def F_spec_l31DrawEvent : List SV → List Entry → Option Out
  | [.one ⟨false, [.ptr 0 0]⟩], [.box 121 [.ref 1, .val (.int .i64 x0), .val (.int .i64 x1)], .row false 5 (.int .u8) x2] => some ⟨(.one ⟨true, [(.val (.int IntKind.i64 (spec_l31DrawEvent_0 x0 x1 x2))), (.val (.int IntKind.i64 (spec_l31DrawEvent_1 x0 x1 x2))), (.val (.bool (spec_l31DrawEvent_2 x0 x1 x2))), (.val (.bool (spec_l31DrawEvent_3 x0 x1 x2)))]⟩), [(.box 121 [(.ref 1), (.val (.int IntKind.i64 (spec_l31DrawEvent_4 x0 x1 x2))), (.val (.int IntKind.i64 (spec_l31DrawEvent_5 x0 x1 x2)))]), (.row false 5 (CTy.int IntKind.u8) x2)], [], [(spec_l31DrawEvent_6 x0 x1 x2)]⟩
  | _, _ => none

def p_spec_l31DrawEvent : PF Try.prog := PF.ofG Try.prog [p_spec_l01Next, PF.lend p_spec_l01Next, PF.fz p_spec_l01Next, p_spec_l01Pick, PF.lend p_spec_l01Pick, PF.fz p_spec_l01Pick] [] hmix 74 Try.f74 Try.func74 (fun c _ => LOk.nil c) F_spec_l31DrawEvent (by
  intro vs es r h; unfold F_spec_l31DrawEvent at h; split at h
  · cases h; kernel_rfl
  · cases h)

abbrev X_spec_l31DrawEvents_l0 := Int × List (Int × (Int × (Bool × Bool))) × Int × Int × List Int

def spec_l31DrawEvents_l0_0 (y0 : Int) : Bool :=
  decide (y0 > (0 : Int))

def spec_l31DrawEvents_l0_1 (y1 : List (Int × (Int × (Bool × Bool)))) : Bool :=
  decide ((0 : Nat) + List.length y1 ≤ (9223372036854775807 : Nat))

def spec_l31DrawEvents_l0_2 (y1 : List (Int × (Int × (Bool × Bool)))) : Bool :=
  decide (((0 : Nat) + List.length y1) * (24 : Nat) ≤ (140737488355328 : Nat))

def spec_l31DrawEvents_l0_3 (y2 : Int) (y3 : Int) (y4 : List Int) : Bool :=
  spec_l31DrawEvent_6 y2 y3 y4

def spec_l31DrawEvents_l0_4 (y1 : List (Int × (Int × (Bool × Bool)))) (y2 : Int) (y3 : Int) (y4 : List Int) : Bool :=
  decide
  (List.length y1 +
      List.length [(spec_l31DrawEvent_0 y2 y3 y4, spec_l31DrawEvent_1 y2 y3 y4, spec_l31DrawEvent_2 y2 y3 y4, spec_l31DrawEvent_3 y2 y3 y4)] ≤
    (9223372036854775807 : Nat))

def spec_l31DrawEvents_l0_5 (y1 : List (Int × (Int × (Bool × Bool)))) (y2 : Int) (y3 : Int) (y4 : List Int) : Bool :=
  decide
  ((List.length y1 +
        List.length [(spec_l31DrawEvent_0 y2 y3 y4, spec_l31DrawEvent_1 y2 y3 y4, spec_l31DrawEvent_2 y2 y3 y4, spec_l31DrawEvent_3 y2 y3 y4)]) *
      (24 : Nat) ≤
    (140737488355328 : Nat))

def spec_l31DrawEvents_l0_6 (y1 : List (Int × (Int × (Bool × Bool)))) (y2 : Int) (y3 : Int) (y4 : List Int) : Bool :=
  spec_AreAdmitted_1 (y1 ++ [(spec_l31DrawEvent_0 y2 y3 y4, spec_l31DrawEvent_1 y2 y3 y4, spec_l31DrawEvent_2 y2 y3 y4, spec_l31DrawEvent_3 y2 y3 y4)])

def spec_l31DrawEvents_l0_7 (y1 : List (Int × (Int × (Bool × Bool)))) (y2 : Int) (y3 : Int) (y4 : List Int) : Bool :=
  !(!spec_AreAdmitted_0
          (y1 ++ [(spec_l31DrawEvent_0 y2 y3 y4, spec_l31DrawEvent_1 y2 y3 y4, spec_l31DrawEvent_2 y2 y3 y4, spec_l31DrawEvent_3 y2 y3 y4)]) &&
      true) ||
  spec_l01Next_3 (200 : Int) (spec_l31DrawEvent_4 y2 y3 y4) y4

def spec_l31DrawEvents_l0_8 (y1 : List (Int × (Int × (Bool × Bool)))) (y2 : Int) (y3 : Int) (y4 : List Int) : Bool :=
  bif
    spec_AreAdmitted_0
      (y1 ++ [(spec_l31DrawEvent_0 y2 y3 y4, spec_l31DrawEvent_1 y2 y3 y4, spec_l31DrawEvent_2 y2 y3 y4, spec_l31DrawEvent_3 y2 y3 y4)]) then
  true
  else spec_l01Next_0 (200 : Int) (spec_l31DrawEvent_4 y2 y3 y4) (spec_l31DrawEvent_5 y2 y3 y4) y4 == (0 : Int)

def spec_l31DrawEvents_l0_9 (y0 : Int) : Int :=
  IntKind.wrap IntKind.i64 (y0 - (1 : Int))

def spec_l31DrawEvents_l0_10 (y1 : List (Int × (Int × (Bool × Bool)))) (y2 : Int) (y3 : Int) (y4 : List Int) : List (Int × (Int × (Bool × Bool))) :=
  y1 ++ [(spec_l31DrawEvent_0 y2 y3 y4, spec_l31DrawEvent_1 y2 y3 y4, spec_l31DrawEvent_2 y2 y3 y4, spec_l31DrawEvent_3 y2 y3 y4)]

def spec_l31DrawEvents_l0_11 (y1 : List (Int × (Int × (Bool × Bool)))) (y2 : Int) (y3 : Int) (y4 : List Int) : Int :=
  bif
    !spec_AreAdmitted_0
          (y1 ++ [(spec_l31DrawEvent_0 y2 y3 y4, spec_l31DrawEvent_1 y2 y3 y4, spec_l31DrawEvent_2 y2 y3 y4, spec_l31DrawEvent_3 y2 y3 y4)]) &&
      true then
  spec_l01Next_1 (200 : Int) (spec_l31DrawEvent_4 y2 y3 y4) y4
  else spec_l31DrawEvent_4 y2 y3 y4

def spec_l31DrawEvents_l0_12 (y1 : List (Int × (Int × (Bool × Bool)))) (y2 : Int) (y3 : Int) (y4 : List Int) : Int :=
  bif
    !spec_AreAdmitted_0
          (y1 ++ [(spec_l31DrawEvent_0 y2 y3 y4, spec_l31DrawEvent_1 y2 y3 y4, spec_l31DrawEvent_2 y2 y3 y4, spec_l31DrawEvent_3 y2 y3 y4)]) &&
      true then
  spec_l01Next_2 (200 : Int) (spec_l31DrawEvent_4 y2 y3 y4) (spec_l31DrawEvent_5 y2 y3 y4) y4
  else spec_l31DrawEvent_5 y2 y3 y4

def JL_spec_l31DrawEvents_l0 : X_spec_l31DrawEvents_l0 → List (Nat × SV)
  | (y0, _, _, _, _) => [(4, (.one ⟨false, [(.val (.int IntKind.i64 y0))]⟩)), (3, (.one ⟨false, [(.ref 0)]⟩)), (0, (.one ⟨false, [(.ptr 1 0)]⟩))]

def JE_spec_l31DrawEvents_l0 : X_spec_l31DrawEvents_l0 → List (Nat × Entry)
  | (_, y1, y2, y3, y4) => [(1, (.box 121 [(.ref 2), (.val (.int IntKind.i64 y2)), (.val (.int IntKind.i64 y3))])), (2, (.row false 5 (CTy.int IntKind.u8) y4)), (0, (.row true 48 (CTy.pair (CTy.int IntKind.i64) (CTy.pair (CTy.int IntKind.i64) (CTy.pair CTy.bool CTy.bool))) y1))]

def XL_spec_l31DrawEvents_l0 : Nat → X_spec_l31DrawEvents_l0 → List (Nat × SV)
  | _, (_, _, _, _, _) => [(3, (.one ⟨false, [(.ref 0)]⟩))]

def XE_spec_l31DrawEvents_l0 : Nat → X_spec_l31DrawEvents_l0 → List (Nat × Entry)
  | _, (_, y1, y2, y3, y4) => [(0, (.row true 48 (CTy.pair (CTy.int IntKind.i64) (CTy.pair (CTy.int IntKind.i64) (CTy.pair CTy.bool CTy.bool))) y1)), (1, (.box 121 [(.ref 2), (.val (.int IntKind.i64 y2)), (.val (.int IntKind.i64 y3))])), (2, (.row false 5 (CTy.int IntKind.u8) y4))]

def lt_spec_l31DrawEvents_l0 : X_spec_l31DrawEvents_l0 → LT X_spec_l31DrawEvents_l0
  | (y0, y1, y2, y3, y4) => .ite (spec_l31DrawEvents_l0_0 y0) (.need [(spec_l31DrawEvents_l0_1 y1), (spec_l31DrawEvents_l0_2 y1), (spec_l31DrawEvents_l0_3 y2 y3 y4), (spec_l31DrawEvents_l0_4 y1 y2 y3 y4), (spec_l31DrawEvents_l0_5 y1 y2 y3 y4)] (.need [(spec_l31DrawEvents_l0_6 y1 y2 y3 y4), (spec_l31DrawEvents_l0_7 y1 y2 y3 y4)] (.ite (spec_l31DrawEvents_l0_8 y1 y2 y3 y4) (.nrm ((spec_l31DrawEvents_l0_9 y0), (spec_l31DrawEvents_l0_10 y1 y2 y3 y4), (spec_l31DrawEvents_l0_11 y1 y2 y3 y4), (spec_l31DrawEvents_l0_12 y1 y2 y3 y4), y4) [(0, 576), (1, 1), (2, 2)]) (.nrm ((spec_l31DrawEvents_l0_9 y0), y1, (spec_l31DrawEvents_l0_11 y1 y2 y3 y4), (spec_l31DrawEvents_l0_12 y1 y2 y3 y4), y4) [(0, 0), (1, 1), (2, 2)])))) (.ext 0 [(0, 0), (1, 1), (2, 2)])

def rd_spec_l31DrawEvents_l0 (s : St) : Option X_spec_l31DrawEvents_l0 :=
  (match s.look 4 with
  | some ⟨none, (.one ⟨false, [(.val (.int IntKind.i64 y0))]⟩)⟩ =>
  (match s.look 3 with
  | some ⟨none, (.one ⟨false, [(.ref 256)]⟩)⟩ =>
  (match s.look 0 with
  | some ⟨none, (.one ⟨false, [(.ptr 0 0)]⟩)⟩ =>
  (match s.ent 0 with
  | some (.box 121 [(.ref 1), (.val (.int IntKind.i64 y2)), (.val (.int IntKind.i64 y3))]) =>
  (match s.ent 1 with
  | some (.row false 5 (CTy.int IntKind.u8) y4) =>
  (match s.ent 256 with
  | some (.row true 48 (CTy.pair (CTy.int IntKind.i64) (CTy.pair (CTy.int IntKind.i64) (CTy.pair CTy.bool CTy.bool))) y1) =>
  some (y0, y1, y2, y3, y4)
  | _ => none)
  | _ => none)
  | _ => none)
  | _ => none)
  | _ => none)
  | _ => none)

def lp_spec_l31DrawEvents_l0 : Lp X_spec_l31DrawEvents_l0 where
  h := ⟨[9, 10, 13, 14, 15, 16, 17, 18, 19, 5, 20, 21, 22, 23, 24, 25, 26, 27, 3, 11, 12, 4], [1, 2], [0], []⟩
  JL := JL_spec_l31DrawEvents_l0
  JE := JE_spec_l31DrawEvents_l0
  XL := XL_spec_l31DrawEvents_l0
  XE := XE_spec_l31DrawEvents_l0
  q := fun j => match j with | _ => .exit 0
  tags := [0]
  lt := lt_spec_l31DrawEvents_l0
  fuel := fun (y0, y1, y2, y3, y4) => y0.natAbs + y1.length + y2.natAbs + y3.natAbs + y4.length
  fix := fun (_, _, _, _, y4) (y0, y1, y2, y3, _) => (y0, y1, y2, y3, y4)
  σ := [(1, 0), (2, 1), (0, 256)]
  rd := rd_spec_l31DrawEvents_l0

theorem lpok_spec_l31DrawEvents_l0 : LoopOk Try.prog (fun k => Nat.blt k Try.f72.ntmps) lp_spec_l31DrawEvents_l0.F (loopAt Try.f72 0) := by
  refine Lp.ok (tbl := [p_spec_AreAdmitted, PF.lend p_spec_AreAdmitted, PF.fz p_spec_AreAdmitted, p_spec_l01Next, PF.lend p_spec_l01Next, PF.fz p_spec_l01Next, p_spec_l31DrawEvent, PF.lend p_spec_l31DrawEvent, PF.fz p_spec_l31DrawEvent]) (lf := []) hmix lp_spec_l31DrawEvents_l0 (by kernel_rfl) (LOk.nil _) (fun _ => rfl) (fun _ _ => rfl) ?_ ?_ ?_ ?_ (fun _ => rfl) ?_
  · intro x; obtain ⟨y0, y1, y2, y3, y4⟩ := x; kernel_rfl
  · intro x; obtain ⟨y0, y1, y2, y3, y4⟩ := x; kernel_rfl
  · intro s x h
    have h : rd_spec_l31DrawEvents_l0 s = some x := h
    unfold rd_spec_l31DrawEvents_l0 at h
    repeat' split at h
    all_goals cases h
    exact ⟨absS_cons (by assumption) rfl (absS_cons (by assumption) rfl (absS_cons (by assumption) rfl (rfl))), absE_cons rfl (by assumption) rfl (absE_cons rfl (by assumption) rfl (absE_cons rfl (by assumption) rfl (rfl)))⟩
  · intro x; obtain ⟨y0, y1, y2, y3, y4⟩ := x; kernel_rfl
  · intro x z; obtain ⟨y0, y1, y2, y3, y4⟩ := x; exact (And.intro (And.intro rfl rfl) trivial)

def spec_l31DrawEvents_0 (x0 : Int) (x1 : Int) (x2 : List Int) : Int :=
  bif
    spec_l01Next_0 (60 : Int)
        (Prod.fst
          (Prod.snd
            (Prod.snd
              (Prod.snd
                (Lp.res lp_spec_l31DrawEvents_l0
                  (spec_l01Next_0 (40 : Int) x0 x1 x2, [], spec_l01Next_1 (40 : Int) x0 x2, spec_l01Next_2 (40 : Int) x0 x1 x2, x2))))))
        (Prod.fst
          (Prod.snd
            (Prod.snd
              (Prod.snd
                (Prod.snd
                  (Lp.res lp_spec_l31DrawEvents_l0
                    (spec_l01Next_0 (40 : Int) x0 x1 x2, [], spec_l01Next_1 (40 : Int) x0 x2, spec_l01Next_2 (40 : Int) x0 x1 x2, x2)))))))
        x2 ==
      (0 : Int) then
  spec_l01Next_1 (2 : Int)
    (spec_l01Next_1 (60 : Int)
      (Prod.fst
        (Prod.snd
          (Prod.snd
            (Prod.snd
              (Lp.res lp_spec_l31DrawEvents_l0
                (spec_l01Next_0 (40 : Int) x0 x1 x2, [], spec_l01Next_1 (40 : Int) x0 x2, spec_l01Next_2 (40 : Int) x0 x1 x2, x2))))))
      x2)
    x2
  else
  spec_l01Next_1 (60 : Int)
    (Prod.fst
      (Prod.snd
        (Prod.snd
          (Prod.snd
            (Lp.res lp_spec_l31DrawEvents_l0
              (spec_l01Next_0 (40 : Int) x0 x1 x2, [], spec_l01Next_1 (40 : Int) x0 x2, spec_l01Next_2 (40 : Int) x0 x1 x2, x2))))))
    x2

def spec_l31DrawEvents_1 (x0 : Int) (x1 : Int) (x2 : List Int) : Int :=
  bif
    spec_l01Next_0 (60 : Int)
        (Prod.fst
          (Prod.snd
            (Prod.snd
              (Prod.snd
                (Lp.res lp_spec_l31DrawEvents_l0
                  (spec_l01Next_0 (40 : Int) x0 x1 x2, [], spec_l01Next_1 (40 : Int) x0 x2, spec_l01Next_2 (40 : Int) x0 x1 x2, x2))))))
        (Prod.fst
          (Prod.snd
            (Prod.snd
              (Prod.snd
                (Prod.snd
                  (Lp.res lp_spec_l31DrawEvents_l0
                    (spec_l01Next_0 (40 : Int) x0 x1 x2, [], spec_l01Next_1 (40 : Int) x0 x2, spec_l01Next_2 (40 : Int) x0 x1 x2, x2)))))))
        x2 ==
      (0 : Int) then
  spec_l01Next_2 (2 : Int)
    (spec_l01Next_1 (60 : Int)
      (Prod.fst
        (Prod.snd
          (Prod.snd
            (Prod.snd
              (Lp.res lp_spec_l31DrawEvents_l0
                (spec_l01Next_0 (40 : Int) x0 x1 x2, [], spec_l01Next_1 (40 : Int) x0 x2, spec_l01Next_2 (40 : Int) x0 x1 x2, x2))))))
      x2)
    (spec_l01Next_2 (60 : Int)
      (Prod.fst
        (Prod.snd
          (Prod.snd
            (Prod.snd
              (Lp.res lp_spec_l31DrawEvents_l0
                (spec_l01Next_0 (40 : Int) x0 x1 x2, [], spec_l01Next_1 (40 : Int) x0 x2, spec_l01Next_2 (40 : Int) x0 x1 x2, x2))))))
      (Prod.fst
        (Prod.snd
          (Prod.snd
            (Prod.snd
              (Prod.snd
                (Lp.res lp_spec_l31DrawEvents_l0
                  (spec_l01Next_0 (40 : Int) x0 x1 x2, [], spec_l01Next_1 (40 : Int) x0 x2, spec_l01Next_2 (40 : Int) x0 x1 x2, x2)))))))
      x2)
    x2
  else
  spec_l01Next_2 (60 : Int)
    (Prod.fst
      (Prod.snd
        (Prod.snd
          (Prod.snd
            (Lp.res lp_spec_l31DrawEvents_l0
              (spec_l01Next_0 (40 : Int) x0 x1 x2, [], spec_l01Next_1 (40 : Int) x0 x2, spec_l01Next_2 (40 : Int) x0 x1 x2, x2))))))
    (Prod.fst
      (Prod.snd
        (Prod.snd
          (Prod.snd
            (Prod.snd
              (Lp.res lp_spec_l31DrawEvents_l0
                (spec_l01Next_0 (40 : Int) x0 x1 x2, [], spec_l01Next_1 (40 : Int) x0 x2, spec_l01Next_2 (40 : Int) x0 x1 x2, x2)))))))
    x2

def spec_l31DrawEvents_2 (x0 : Int) (x1 : Int) (x2 : List Int) : List (Int × (Int × (Bool × Bool))) :=
  bif
    spec_l01Next_0 (60 : Int)
        (Prod.fst
          (Prod.snd
            (Prod.snd
              (Prod.snd
                (Lp.res lp_spec_l31DrawEvents_l0
                  (spec_l01Next_0 (40 : Int) x0 x1 x2, [], spec_l01Next_1 (40 : Int) x0 x2, spec_l01Next_2 (40 : Int) x0 x1 x2, x2))))))
        (Prod.fst
          (Prod.snd
            (Prod.snd
              (Prod.snd
                (Prod.snd
                  (Lp.res lp_spec_l31DrawEvents_l0
                    (spec_l01Next_0 (40 : Int) x0 x1 x2, [], spec_l01Next_1 (40 : Int) x0 x2, spec_l01Next_2 (40 : Int) x0 x1 x2, x2)))))))
        x2 ==
      (0 : Int) then
  List.replicate
    (Int.toNat
      (IntKind.wrap IntKind.i64
        ((200 : Int) +
          spec_l01Next_0 (2 : Int)
            (spec_l01Next_1 (60 : Int)
              (Prod.fst
                (Prod.snd
                  (Prod.snd
                    (Prod.snd
                      (Lp.res lp_spec_l31DrawEvents_l0
                        (spec_l01Next_0 (40 : Int) x0 x1 x2, [], spec_l01Next_1 (40 : Int) x0 x2, spec_l01Next_2 (40 : Int) x0 x1 x2, x2))))))
              x2)
            (spec_l01Next_2 (60 : Int)
              (Prod.fst
                (Prod.snd
                  (Prod.snd
                    (Prod.snd
                      (Lp.res lp_spec_l31DrawEvents_l0
                        (spec_l01Next_0 (40 : Int) x0 x1 x2, [], spec_l01Next_1 (40 : Int) x0 x2, spec_l01Next_2 (40 : Int) x0 x1 x2, x2))))))
              (Prod.fst
                (Prod.snd
                  (Prod.snd
                    (Prod.snd
                      (Prod.snd
                        (Lp.res lp_spec_l31DrawEvents_l0
                          (spec_l01Next_0 (40 : Int) x0 x1 x2, [], spec_l01Next_1 (40 : Int) x0 x2, spec_l01Next_2 (40 : Int) x0 x1 x2, x2)))))))
              x2)
            x2)))
    ((0 : Int), (0 : Int), false, false)
  else
  Prod.fst
    (Prod.snd
      (Prod.snd
        (Lp.res lp_spec_l31DrawEvents_l0
          (spec_l01Next_0 (40 : Int) x0 x1 x2, [], spec_l01Next_1 (40 : Int) x0 x2, spec_l01Next_2 (40 : Int) x0 x1 x2, x2))))

def spec_l31DrawEvents_3 (x0 : Int) (x1 : Int) (x2 : List Int) : Bool :=
  allT
  [spec_l01Next_3 (40 : Int) x0 x2,
    Lp.fin lp_spec_l31DrawEvents_l0 (spec_l01Next_0 (40 : Int) x0 x1 x2, [], spec_l01Next_1 (40 : Int) x0 x2, spec_l01Next_2 (40 : Int) x0 x1 x2, x2),
    spec_l01Next_3 (60 : Int)
      (Prod.fst
        (Prod.snd
          (Prod.snd
            (Prod.snd
              (Lp.res lp_spec_l31DrawEvents_l0
                (spec_l01Next_0 (40 : Int) x0 x1 x2, [], spec_l01Next_1 (40 : Int) x0 x2, spec_l01Next_2 (40 : Int) x0 x1 x2, x2))))))
      x2,
    !spec_l01Next_0 (60 : Int)
            (Prod.fst
              (Prod.snd
                (Prod.snd
                  (Prod.snd
                    (Lp.res lp_spec_l31DrawEvents_l0
                      (spec_l01Next_0 (40 : Int) x0 x1 x2, [], spec_l01Next_1 (40 : Int) x0 x2, spec_l01Next_2 (40 : Int) x0 x1 x2, x2))))))
            (Prod.fst
              (Prod.snd
                (Prod.snd
                  (Prod.snd
                    (Prod.snd
                      (Lp.res lp_spec_l31DrawEvents_l0
                        (spec_l01Next_0 (40 : Int) x0 x1 x2, [], spec_l01Next_1 (40 : Int) x0 x2, spec_l01Next_2 (40 : Int) x0 x1 x2, x2)))))))
            x2 ==
          (0 : Int) ||
      spec_l01Next_3 (2 : Int)
        (spec_l01Next_1 (60 : Int)
          (Prod.fst
            (Prod.snd
              (Prod.snd
                (Prod.snd
                  (Lp.res lp_spec_l31DrawEvents_l0
                    (spec_l01Next_0 (40 : Int) x0 x1 x2, [], spec_l01Next_1 (40 : Int) x0 x2, spec_l01Next_2 (40 : Int) x0 x1 x2, x2))))))
          x2)
        x2,
    !spec_l01Next_0 (60 : Int)
            (Prod.fst
              (Prod.snd
                (Prod.snd
                  (Prod.snd
                    (Lp.res lp_spec_l31DrawEvents_l0
                      (spec_l01Next_0 (40 : Int) x0 x1 x2, [], spec_l01Next_1 (40 : Int) x0 x2, spec_l01Next_2 (40 : Int) x0 x1 x2, x2))))))
            (Prod.fst
              (Prod.snd
                (Prod.snd
                  (Prod.snd
                    (Prod.snd
                      (Lp.res lp_spec_l31DrawEvents_l0
                        (spec_l01Next_0 (40 : Int) x0 x1 x2, [], spec_l01Next_1 (40 : Int) x0 x2, spec_l01Next_2 (40 : Int) x0 x1 x2, x2)))))))
            x2 ==
          (0 : Int) ||
      decide
        ((0 : Int) ≤
          IntKind.wrap IntKind.i64
            ((200 : Int) +
              spec_l01Next_0 (2 : Int)
                (spec_l01Next_1 (60 : Int)
                  (Prod.fst
                    (Prod.snd
                      (Prod.snd
                        (Prod.snd
                          (Lp.res lp_spec_l31DrawEvents_l0
                            (spec_l01Next_0 (40 : Int) x0 x1 x2, [], spec_l01Next_1 (40 : Int) x0 x2, spec_l01Next_2 (40 : Int) x0 x1 x2, x2))))))
                  x2)
                (spec_l01Next_2 (60 : Int)
                  (Prod.fst
                    (Prod.snd
                      (Prod.snd
                        (Prod.snd
                          (Lp.res lp_spec_l31DrawEvents_l0
                            (spec_l01Next_0 (40 : Int) x0 x1 x2, [], spec_l01Next_1 (40 : Int) x0 x2, spec_l01Next_2 (40 : Int) x0 x1 x2, x2))))))
                  (Prod.fst
                    (Prod.snd
                      (Prod.snd
                        (Prod.snd
                          (Prod.snd
                            (Lp.res lp_spec_l31DrawEvents_l0
                              (spec_l01Next_0 (40 : Int) x0 x1 x2, [], spec_l01Next_1 (40 : Int) x0 x2, spec_l01Next_2 (40 : Int) x0 x1 x2, x2)))))))
                  x2)
                x2)),
    !spec_l01Next_0 (60 : Int)
            (Prod.fst
              (Prod.snd
                (Prod.snd
                  (Prod.snd
                    (Lp.res lp_spec_l31DrawEvents_l0
                      (spec_l01Next_0 (40 : Int) x0 x1 x2, [], spec_l01Next_1 (40 : Int) x0 x2, spec_l01Next_2 (40 : Int) x0 x1 x2, x2))))))
            (Prod.fst
              (Prod.snd
                (Prod.snd
                  (Prod.snd
                    (Prod.snd
                      (Lp.res lp_spec_l31DrawEvents_l0
                        (spec_l01Next_0 (40 : Int) x0 x1 x2, [], spec_l01Next_1 (40 : Int) x0 x2, spec_l01Next_2 (40 : Int) x0 x1 x2, x2)))))))
            x2 ==
          (0 : Int) ||
      decide
        (IntKind.wrap IntKind.i64
            ((200 : Int) +
              spec_l01Next_0 (2 : Int)
                (spec_l01Next_1 (60 : Int)
                  (Prod.fst
                    (Prod.snd
                      (Prod.snd
                        (Prod.snd
                          (Lp.res lp_spec_l31DrawEvents_l0
                            (spec_l01Next_0 (40 : Int) x0 x1 x2, [], spec_l01Next_1 (40 : Int) x0 x2, spec_l01Next_2 (40 : Int) x0 x1 x2, x2))))))
                  x2)
                (spec_l01Next_2 (60 : Int)
                  (Prod.fst
                    (Prod.snd
                      (Prod.snd
                        (Prod.snd
                          (Lp.res lp_spec_l31DrawEvents_l0
                            (spec_l01Next_0 (40 : Int) x0 x1 x2, [], spec_l01Next_1 (40 : Int) x0 x2, spec_l01Next_2 (40 : Int) x0 x1 x2, x2))))))
                  (Prod.fst
                    (Prod.snd
                      (Prod.snd
                        (Prod.snd
                          (Prod.snd
                            (Lp.res lp_spec_l31DrawEvents_l0
                              (spec_l01Next_0 (40 : Int) x0 x1 x2, [], spec_l01Next_1 (40 : Int) x0 x2, spec_l01Next_2 (40 : Int) x0 x1 x2, x2)))))))
                  x2)
                x2) ≤
          IntKind.wrap IntKind.i64
            ((200 : Int) +
              spec_l01Next_0 (2 : Int)
                (spec_l01Next_1 (60 : Int)
                  (Prod.fst
                    (Prod.snd
                      (Prod.snd
                        (Prod.snd
                          (Lp.res lp_spec_l31DrawEvents_l0
                            (spec_l01Next_0 (40 : Int) x0 x1 x2, [], spec_l01Next_1 (40 : Int) x0 x2, spec_l01Next_2 (40 : Int) x0 x1 x2, x2))))))
                  x2)
                (spec_l01Next_2 (60 : Int)
                  (Prod.fst
                    (Prod.snd
                      (Prod.snd
                        (Prod.snd
                          (Lp.res lp_spec_l31DrawEvents_l0
                            (spec_l01Next_0 (40 : Int) x0 x1 x2, [], spec_l01Next_1 (40 : Int) x0 x2, spec_l01Next_2 (40 : Int) x0 x1 x2, x2))))))
                  (Prod.fst
                    (Prod.snd
                      (Prod.snd
                        (Prod.snd
                          (Prod.snd
                            (Lp.res lp_spec_l31DrawEvents_l0
                              (spec_l01Next_0 (40 : Int) x0 x1 x2, [], spec_l01Next_1 (40 : Int) x0 x2, spec_l01Next_2 (40 : Int) x0 x1 x2, x2)))))))
                  x2)
                x2)),
    !spec_l01Next_0 (60 : Int)
            (Prod.fst
              (Prod.snd
                (Prod.snd
                  (Prod.snd
                    (Lp.res lp_spec_l31DrawEvents_l0
                      (spec_l01Next_0 (40 : Int) x0 x1 x2, [], spec_l01Next_1 (40 : Int) x0 x2, spec_l01Next_2 (40 : Int) x0 x1 x2, x2))))))
            (Prod.fst
              (Prod.snd
                (Prod.snd
                  (Prod.snd
                    (Prod.snd
                      (Lp.res lp_spec_l31DrawEvents_l0
                        (spec_l01Next_0 (40 : Int) x0 x1 x2, [], spec_l01Next_1 (40 : Int) x0 x2, spec_l01Next_2 (40 : Int) x0 x1 x2, x2)))))))
            x2 ==
          (0 : Int) ||
      decide
        ((↑(24 : Nat) : Int) *
            IntKind.wrap IntKind.i64
              ((200 : Int) +
                spec_l01Next_0 (2 : Int)
                  (spec_l01Next_1 (60 : Int)
                    (Prod.fst
                      (Prod.snd
                        (Prod.snd
                          (Prod.snd
                            (Lp.res lp_spec_l31DrawEvents_l0
                              (spec_l01Next_0 (40 : Int) x0 x1 x2, [], spec_l01Next_1 (40 : Int) x0 x2, spec_l01Next_2 (40 : Int) x0 x1 x2, x2))))))
                    x2)
                  (spec_l01Next_2 (60 : Int)
                    (Prod.fst
                      (Prod.snd
                        (Prod.snd
                          (Prod.snd
                            (Lp.res lp_spec_l31DrawEvents_l0
                              (spec_l01Next_0 (40 : Int) x0 x1 x2, [], spec_l01Next_1 (40 : Int) x0 x2, spec_l01Next_2 (40 : Int) x0 x1 x2, x2))))))
                    (Prod.fst
                      (Prod.snd
                        (Prod.snd
                          (Prod.snd
                            (Prod.snd
                              (Lp.res lp_spec_l31DrawEvents_l0
                                (spec_l01Next_0 (40 : Int) x0 x1 x2, [], spec_l01Next_1 (40 : Int) x0 x2, spec_l01Next_2 (40 : Int) x0 x1 x2,
                                  x2)))))))
                    x2)
                  x2) ≤
          (281474976710656 : Int)),
    !spec_l01Next_0 (60 : Int)
            (Prod.fst
              (Prod.snd
                (Prod.snd
                  (Prod.snd
                    (Lp.res lp_spec_l31DrawEvents_l0
                      (spec_l01Next_0 (40 : Int) x0 x1 x2, [], spec_l01Next_1 (40 : Int) x0 x2, spec_l01Next_2 (40 : Int) x0 x1 x2, x2))))))
            (Prod.fst
              (Prod.snd
                (Prod.snd
                  (Prod.snd
                    (Prod.snd
                      (Lp.res lp_spec_l31DrawEvents_l0
                        (spec_l01Next_0 (40 : Int) x0 x1 x2, [], spec_l01Next_1 (40 : Int) x0 x2, spec_l01Next_2 (40 : Int) x0 x1 x2, x2)))))))
            x2 ==
          (0 : Int) ||
      decide
        (IntKind.wrap IntKind.i64
            ((200 : Int) +
              spec_l01Next_0 (2 : Int)
                (spec_l01Next_1 (60 : Int)
                  (Prod.fst
                    (Prod.snd
                      (Prod.snd
                        (Prod.snd
                          (Lp.res lp_spec_l31DrawEvents_l0
                            (spec_l01Next_0 (40 : Int) x0 x1 x2, [], spec_l01Next_1 (40 : Int) x0 x2, spec_l01Next_2 (40 : Int) x0 x1 x2, x2))))))
                  x2)
                (spec_l01Next_2 (60 : Int)
                  (Prod.fst
                    (Prod.snd
                      (Prod.snd
                        (Prod.snd
                          (Lp.res lp_spec_l31DrawEvents_l0
                            (spec_l01Next_0 (40 : Int) x0 x1 x2, [], spec_l01Next_1 (40 : Int) x0 x2, spec_l01Next_2 (40 : Int) x0 x1 x2, x2))))))
                  (Prod.fst
                    (Prod.snd
                      (Prod.snd
                        (Prod.snd
                          (Prod.snd
                            (Lp.res lp_spec_l31DrawEvents_l0
                              (spec_l01Next_0 (40 : Int) x0 x1 x2, [], spec_l01Next_1 (40 : Int) x0 x2, spec_l01Next_2 (40 : Int) x0 x1 x2, x2)))))))
                  x2)
                x2) ≤
          (9223372036854775807 : Int))]

def F_spec_l31DrawEvents : List SV → List Entry → Option Out
  | [.one ⟨false, [.ptr 0 0]⟩], [.box 121 [.ref 1, .val (.int .i64 x0), .val (.int .i64 x1)], .row false 5 (.int .u8) x2] => some ⟨(.one ⟨false, [(.ref 2)]⟩), [(.box 121 [(.ref 1), (.val (.int IntKind.i64 (spec_l31DrawEvents_0 x0 x1 x2))), (.val (.int IntKind.i64 (spec_l31DrawEvents_1 x0 x1 x2)))]), (.row false 5 (CTy.int IntKind.u8) x2)], [(.row true 48 (CTy.pair (CTy.int IntKind.i64) (CTy.pair (CTy.int IntKind.i64) (CTy.pair CTy.bool CTy.bool))) (spec_l31DrawEvents_2 x0 x1 x2))], [(spec_l31DrawEvents_3 x0 x1 x2)]⟩
  | _, _ => none

def p_spec_l31DrawEvents : PF Try.prog := PF.ofG Try.prog [p_spec_AreAdmitted, PF.lend p_spec_AreAdmitted, PF.fz p_spec_AreAdmitted, p_spec_l01Next, PF.lend p_spec_l01Next, PF.fz p_spec_l01Next, p_spec_l31DrawEvent, PF.lend p_spec_l31DrawEvent, PF.fz p_spec_l31DrawEvent] [lp_spec_l31DrawEvents_l0.F] hmix 72 Try.f72 Try.func72 (LOk.fnT (l := [loopAt Try.f72 0]) (by kernel_rfl) (.cons lpok_spec_l31DrawEvents_l0 (.nil _))) F_spec_l31DrawEvents (by
  intro vs es r h; unfold F_spec_l31DrawEvents at h; split at h
  · cases h; kernel_rfl
  · cases h)

def spec_DrawAreAdmitted_0 (x0 : List Int) : List (Int × (Int × (Bool × Bool))) :=
  spec_l31DrawEvents_2 (0 : Int) (spec_l01From_0 x0) x0

def spec_DrawAreAdmitted_1 (x0 : List Int) : Bool :=
  allT [spec_l01From_1 x0, spec_l31DrawEvents_3 (0 : Int) (spec_l01From_0 x0) x0]

def F_spec_DrawAreAdmitted : List SV → List Entry → Option Out
  | [.one ⟨false, [.ref 0]⟩], [.row false 5 (.int .u8) x0] => some ⟨(.one ⟨false, [(.ref 1)]⟩), [(.row false 5 (CTy.int IntKind.u8) x0)], [(.row true 48 (CTy.pair (CTy.int IntKind.i64) (CTy.pair (CTy.int IntKind.i64) (CTy.pair CTy.bool CTy.bool))) (spec_DrawAreAdmitted_0 x0))], [(spec_DrawAreAdmitted_1 x0)]⟩
  | _, _ => none

def p_spec_DrawAreAdmitted : PF Try.prog := PF.ofG Try.prog [p_spec_l01From, PF.lend p_spec_l01From, PF.fz p_spec_l01From, p_spec_l31DrawEvents, PF.lend p_spec_l31DrawEvents, PF.fz p_spec_l31DrawEvents] [] hmix 38 Try.f38 Try.func38 (fun c _ => LOk.nil c) F_spec_DrawAreAdmitted (by
  intro vs es r h; unfold F_spec_DrawAreAdmitted at h; split at h
  · cases h; kernel_rfl
  · cases h)

def laws_FnTakeOver_0 (x0 : List Int) : Bool :=
  bif laws_big_0 x0 then true
  else
  bif
      bif
          bif !impl_AreAdmitted_0 (spec_DrawAreAdmitted_0 x0) == spec_AreAdmitted_0 (spec_DrawAreAdmitted_0 x0) then true
          else
            impl_GreatestActive_1 (0 : Int) (0 : Int) (0 : Int) (0 : Int) (spec_DrawAreAdmitted_0 x0) !=
              spec_GreatestActive_1 (0 : Int) (0 : Int) (0 : Int) (0 : Int) (spec_DrawAreAdmitted_0 x0) then
        true
      else
        impl_GreatestActive_0 (0 : Int) (0 : Int) (0 : Int) (0 : Int) (spec_DrawAreAdmitted_0 x0) !=
          spec_GreatestActive_0 (0 : Int) (0 : Int) (0 : Int) (0 : Int) (spec_DrawAreAdmitted_0 x0) then
    false
  else
    bif !impl_AreAdmitted_0 (spec_DrawAreAdmitted_0 x0) then true
    else
      bif impl_GreatestActive_1 (0 : Int) (0 : Int) (0 : Int) (0 : Int) (spec_DrawAreAdmitted_0 x0) == (0 : Int) then
        decide (impl_GreatestActive_0 (0 : Int) (0 : Int) (0 : Int) (0 : Int) (spec_DrawAreAdmitted_0 x0) ≤ (1 : Int))
      else false

def laws_FnTakeOver_1 (x0 : List Int) : Bool :=
  allT
  [laws_big_0 x0 || spec_DrawAreAdmitted_1 x0, laws_big_0 x0 || impl_AreAdmitted_1 (spec_DrawAreAdmitted_0 x0),
    laws_big_0 x0 || impl_GreatestActive_2 (0 : Int) (0 : Int) (0 : Int) (0 : Int) (spec_DrawAreAdmitted_0 x0),
    laws_big_0 x0 || spec_GreatestActive_2 (0 : Int) (0 : Int) (0 : Int) (0 : Int) (spec_DrawAreAdmitted_0 x0),
    laws_big_0 x0 || spec_AreAdmitted_1 (spec_DrawAreAdmitted_0 x0)]

def F_laws_FnTakeOver : List SV → List Entry → Option Out
  | [.one ⟨false, [.ref 0]⟩], [.row false 5 (.int .u8) x0] => some ⟨(.one ⟨false, [(.val (.bool (laws_FnTakeOver_0 x0)))]⟩), [(.row false 5 (CTy.int IntKind.u8) x0)], [], [(laws_FnTakeOver_1 x0)]⟩
  | _, _ => none

def p_laws_FnTakeOver : PF Try.prog := PF.ofG Try.prog [p_laws_big, PF.lend p_laws_big, PF.fz p_laws_big, p_spec_AreAdmitted, PF.lend p_spec_AreAdmitted, PF.fz p_spec_AreAdmitted, p_impl_AreAdmitted, PF.lend p_impl_AreAdmitted, PF.fz p_impl_AreAdmitted, p_spec_GreatestActive, PF.lend p_spec_GreatestActive, PF.fz p_spec_GreatestActive, p_impl_GreatestActive, PF.lend p_impl_GreatestActive, PF.fz p_impl_GreatestActive, p_spec_DrawAreAdmitted, PF.lend p_spec_DrawAreAdmitted, PF.fz p_spec_DrawAreAdmitted] [] hmix 10 Try.f10 Try.func10 (fun c _ => LOk.nil c) F_laws_FnTakeOver (by
  intro vs es r h; unfold F_laws_FnTakeOver at h; split at h
  · cases h; kernel_rfl
  · cases h)

end Go.SX

/- What functions of the program come to, row by row (made by a program of the workplace). -/
import Derived.Test.YtofbpbijfhfnoaaTXf
import Derived.Test.YtofbpbijfhfnoaaProg
import Derived.Test.YtofbpbijfhfnoaaRb
namespace Go.SX
open Go.Proofs
set_option maxRecDepth 100000


def spec_DrawRunPair_0 (x0 : List Int) : Int :=
  bif spec_l01Next_0 (4 : Int) (0 : Int) (spec_l01From_0 x0) x0 == (0 : Int) then
  spec_l31DrawPair_0 (spec_l01Next_1 (4 : Int) (0 : Int) x0) (spec_l01Next_2 (4 : Int) (0 : Int) (spec_l01From_0 x0) x0) x0
  else (0 : Int)

def spec_DrawRunPair_1 (x0 : List Int) : Int :=
  bif spec_l01Next_0 (4 : Int) (0 : Int) (spec_l01From_0 x0) x0 == (0 : Int) then
  spec_l31DrawPair_1 (spec_l01Next_1 (4 : Int) (0 : Int) x0) (spec_l01Next_2 (4 : Int) (0 : Int) (spec_l01From_0 x0) x0) x0
  else (0 : Int)

def spec_DrawRunPair_2 (x0 : List Int) : Int :=
  bif spec_l01Next_0 (4 : Int) (0 : Int) (spec_l01From_0 x0) x0 == (0 : Int) then
  spec_l31DrawPair_2 (spec_l01Next_1 (4 : Int) (0 : Int) x0) (spec_l01Next_2 (4 : Int) (0 : Int) (spec_l01From_0 x0) x0) x0
  else (0 : Int)

def spec_DrawRunPair_3 (x0 : List Int) : Int :=
  bif spec_l01Next_0 (4 : Int) (0 : Int) (spec_l01From_0 x0) x0 == (0 : Int) then
  spec_l31DrawPair_3 (spec_l01Next_1 (4 : Int) (0 : Int) x0) (spec_l01Next_2 (4 : Int) (0 : Int) (spec_l01From_0 x0) x0) x0
  else (0 : Int)

def spec_DrawRunPair_4 (x0 : List Int) : List (Int × (Int × (Bool × Bool))) :=
  bif spec_l01Next_0 (4 : Int) (0 : Int) (spec_l01From_0 x0) x0 == (0 : Int) then
  spec_l31DrawEvents_2 (spec_l31DrawPair_4 (spec_l01Next_1 (4 : Int) (0 : Int) x0) (spec_l01Next_2 (4 : Int) (0 : Int) (spec_l01From_0 x0) x0) x0)
    (spec_l31DrawPair_5 (spec_l01Next_1 (4 : Int) (0 : Int) x0) (spec_l01Next_2 (4 : Int) (0 : Int) (spec_l01From_0 x0) x0) x0) x0
  else spec_l31DrawEvents_2 (spec_l01Next_1 (4 : Int) (0 : Int) x0) (spec_l01Next_2 (4 : Int) (0 : Int) (spec_l01From_0 x0) x0) x0

def spec_DrawRunPair_5 (x0 : List Int) : Bool :=
  allT
  [spec_l01From_1 x0, spec_l01Next_3 (4 : Int) (0 : Int) x0,
    !spec_l01Next_0 (4 : Int) (0 : Int) (spec_l01From_0 x0) x0 == (0 : Int) ||
      spec_l31DrawPair_6 (spec_l01Next_1 (4 : Int) (0 : Int) x0) (spec_l01Next_2 (4 : Int) (0 : Int) (spec_l01From_0 x0) x0) x0,
    !spec_l01Next_0 (4 : Int) (0 : Int) (spec_l01From_0 x0) x0 == (0 : Int) ||
      spec_l31DrawEvents_3 (spec_l31DrawPair_4 (spec_l01Next_1 (4 : Int) (0 : Int) x0) (spec_l01Next_2 (4 : Int) (0 : Int) (spec_l01From_0 x0) x0) x0)
        (spec_l31DrawPair_5 (spec_l01Next_1 (4 : Int) (0 : Int) x0) (spec_l01Next_2 (4 : Int) (0 : Int) (spec_l01From_0 x0) x0) x0) x0,
    spec_l01Next_0 (4 : Int) (0 : Int) (spec_l01From_0 x0) x0 == (0 : Int) ||
      spec_l31DrawEvents_3 (spec_l01Next_1 (4 : Int) (0 : Int) x0) (spec_l01Next_2 (4 : Int) (0 : Int) (spec_l01From_0 x0) x0) x0]

def F_spec_DrawRunPair : List SV → List Entry → Option Out
  | [.one ⟨false, [.ref 0]⟩], [.row false 5 (.int .u8) x0] => some ⟨(.tup [⟨true, [(.val (.int IntKind.i64 (spec_DrawRunPair_0 x0))), (.val (.int IntKind.i64 (spec_DrawRunPair_1 x0))), (.val (.int IntKind.i64 (spec_DrawRunPair_2 x0))), (.val (.int IntKind.i64 (spec_DrawRunPair_3 x0)))]⟩, ⟨false, [(.ref 1)]⟩]), [(.row false 5 (CTy.int IntKind.u8) x0)], [(.row true 48 (CTy.pair (CTy.int IntKind.i64) (CTy.pair (CTy.int IntKind.i64) (CTy.pair CTy.bool CTy.bool))) (spec_DrawRunPair_4 x0))], [(spec_DrawRunPair_5 x0)]⟩
  | _, _ => none

def p_spec_DrawRunPair : PF Try.prog := PF.ofG Try.prog [p_spec_l31DrawPair, PF.lend p_spec_l31DrawPair, PF.fz p_spec_l31DrawPair, p_spec_l01From, PF.lend p_spec_l01From, PF.fz p_spec_l01From, p_spec_l31DrawEvents, PF.lend p_spec_l31DrawEvents, PF.fz p_spec_l31DrawEvents, p_spec_l01Next, PF.lend p_spec_l01Next, PF.fz p_spec_l01Next] [] hmix 39 Try.f39 Try.func39 (fun c _ => LOk.nil c) F_spec_DrawRunPair (by
  intro vs es r h; unfold F_spec_DrawRunPair at h; split at h
  · cases h; kernel_rfl
  · cases h)

def spec_DrawStepPair_0 (x0 : List Int) : Int :=
  spec_l31DrawPair_0 (0 : Int) (spec_l01From_0 x0) x0

def spec_DrawStepPair_1 (x0 : List Int) : Int :=
  spec_l31DrawPair_1 (0 : Int) (spec_l01From_0 x0) x0

def spec_DrawStepPair_2 (x0 : List Int) : Int :=
  spec_l31DrawPair_2 (0 : Int) (spec_l01From_0 x0) x0

def spec_DrawStepPair_3 (x0 : List Int) : Int :=
  spec_l31DrawPair_3 (0 : Int) (spec_l01From_0 x0) x0

def spec_DrawStepPair_4 (x0 : List Int) : Int :=
  spec_l31DrawEvent_0 (spec_l31DrawPair_4 (0 : Int) (spec_l01From_0 x0) x0) (spec_l31DrawPair_5 (0 : Int) (spec_l01From_0 x0) x0) x0

def spec_DrawStepPair_5 (x0 : List Int) : Int :=
  spec_l31DrawEvent_1 (spec_l31DrawPair_4 (0 : Int) (spec_l01From_0 x0) x0) (spec_l31DrawPair_5 (0 : Int) (spec_l01From_0 x0) x0) x0

def spec_DrawStepPair_6 (x0 : List Int) : Bool :=
  spec_l31DrawEvent_2 (spec_l31DrawPair_4 (0 : Int) (spec_l01From_0 x0) x0) (spec_l31DrawPair_5 (0 : Int) (spec_l01From_0 x0) x0) x0

def spec_DrawStepPair_7 (x0 : List Int) : Bool :=
  spec_l31DrawEvent_3 (spec_l31DrawPair_4 (0 : Int) (spec_l01From_0 x0) x0) (spec_l31DrawPair_5 (0 : Int) (spec_l01From_0 x0) x0) x0

def spec_DrawStepPair_8 (x0 : List Int) : Bool :=
  allT
  [spec_l01From_1 x0, spec_l31DrawPair_6 (0 : Int) (spec_l01From_0 x0) x0,
    spec_l31DrawEvent_6 (spec_l31DrawPair_4 (0 : Int) (spec_l01From_0 x0) x0) (spec_l31DrawPair_5 (0 : Int) (spec_l01From_0 x0) x0) x0]

def F_spec_DrawStepPair : List SV → List Entry → Option Out
  | [.one ⟨false, [.ref 0]⟩], [.row false 5 (.int .u8) x0] => some ⟨(.tup [⟨true, [(.val (.int IntKind.i64 (spec_DrawStepPair_0 x0))), (.val (.int IntKind.i64 (spec_DrawStepPair_1 x0))), (.val (.int IntKind.i64 (spec_DrawStepPair_2 x0))), (.val (.int IntKind.i64 (spec_DrawStepPair_3 x0)))]⟩, ⟨true, [(.val (.int IntKind.i64 (spec_DrawStepPair_4 x0))), (.val (.int IntKind.i64 (spec_DrawStepPair_5 x0))), (.val (.bool (spec_DrawStepPair_6 x0))), (.val (.bool (spec_DrawStepPair_7 x0)))]⟩]), [(.row false 5 (CTy.int IntKind.u8) x0)], [], [(spec_DrawStepPair_8 x0)]⟩
  | _, _ => none

def p_spec_DrawStepPair : PF Try.prog := PF.ofG Try.prog [p_spec_l31DrawPair, PF.lend p_spec_l31DrawPair, PF.fz p_spec_l31DrawPair, p_spec_l01From, PF.lend p_spec_l01From, PF.fz p_spec_l01From, p_spec_l31DrawEvent, PF.lend p_spec_l31DrawEvent, PF.fz p_spec_l31DrawEvent] [] hmix 40 Try.f40 Try.func40 (fun c _ => LOk.nil c) F_spec_DrawStepPair (by
  intro vs es r h; unfold F_spec_DrawStepPair at h; split at h
  · cases h; kernel_rfl
  · cases h)

abbrev X_laws_roll_l0 := Int × List Int × Int × Int

def laws_roll_l0_0 (y0 : Int) (y1 : List Int) : Bool :=
  decide (y0 < (↑(List.length y1) : Int))

def laws_roll_l0_1 (y0 : Int) : Bool :=
  decide ((0 : Int) ≤ y0)

def laws_roll_l0_2 (y0 : Int) (y1 : List Int) : Bool :=
  decide (Int.toNat y0 < List.length y1)

def laws_roll_l0_3 (y0 : Int) : Int :=
  IntKind.wrap IntKind.i64 (y0 + (1 : Int))

def laws_roll_l0_4 (y0 : Int) (y1 : List Int) (y3 : Int) : Int :=
  IntKind.wrap IntKind.u64
  (IntKind.wrap IntKind.u64
      (IntKind.wrap IntKind.u64 (y3 * (1099511628211 : Int)) + IntKind.wrap IntKind.u64 (Option.getD y1[Int.toNat y0]? (0 : Int))) +
    (5 : Int))

def JL_laws_roll_l0 : X_laws_roll_l0 → List (Nat × SV)
  | (y0, _, _, _) => [(6, (.one ⟨false, [(.val (.int IntKind.i64 y0))]⟩)), (0, (.one ⟨false, [(.ref 0)]⟩)), (5, (.one ⟨false, [(.ptr 1 0)]⟩))]

def JE_laws_roll_l0 : X_laws_roll_l0 → List (Nat × Entry)
  | (_, y1, y2, y3) => [(0, (.row false 5 (CTy.int IntKind.u8) y1)), (1, (.box 110 [(.ref 0), (.val (.int IntKind.i64 y2)), (.val (.int IntKind.u64 y3))]))]

def XL_laws_roll_l0 : Nat → X_laws_roll_l0 → List (Nat × SV)
  | _, (_, _, _, _) => []

def XE_laws_roll_l0 : Nat → X_laws_roll_l0 → List (Nat × Entry)
  | _, (_, y1, y2, y3) => [(0, (.row false 5 (CTy.int IntKind.u8) y1)), (1, (.box 110 [(.ref 0), (.val (.int IntKind.i64 y2)), (.val (.int IntKind.u64 y3))]))]

def lt_laws_roll_l0 : X_laws_roll_l0 → LT X_laws_roll_l0
  | (y0, y1, y2, y3) => .ite (laws_roll_l0_0 y0 y1) (.need [(laws_roll_l0_1 y0), (laws_roll_l0_0 y0 y1), (laws_roll_l0_2 y0 y1)] (.nrm ((laws_roll_l0_3 y0), y1, y2, (laws_roll_l0_4 y0 y1 y3)) [(0, 0), (1, 1)])) (.ext 0 [(0, 0), (1, 1)])

def rd_laws_roll_l0 (s : St) : Option X_laws_roll_l0 :=
  (match s.look 6 with
  | some ⟨none, (.one ⟨false, [(.val (.int IntKind.i64 y0))]⟩)⟩ =>
  (match s.look 0 with
  | some ⟨none, (.one ⟨false, [(.ref 0)]⟩)⟩ =>
  (match s.look 5 with
  | some ⟨none, (.one ⟨false, [(.ptr 704 0)]⟩)⟩ =>
  (match s.ent 0 with
  | some (.row false 5 (CTy.int IntKind.u8) y1) =>
  (match s.ent 704 with
  | some (.box 110 [(.ref 0), (.val (.int IntKind.i64 y2)), (.val (.int IntKind.u64 y3))]) =>
  some (y0, y1, y2, y3)
  | _ => none)
  | _ => none)
  | _ => none)
  | _ => none)
  | _ => none)

def lp_laws_roll_l0 : Lp X_laws_roll_l0 where
  h := ⟨[16, 17, 18, 19, 22, 23, 24, 25, 26, 27, 28, 29, 30, 31, 32, 33, 34, 35, 36, 20, 21, 6], [0, 1], [], []⟩
  JL := JL_laws_roll_l0
  JE := JE_laws_roll_l0
  XL := XL_laws_roll_l0
  XE := XE_laws_roll_l0
  q := fun j => match j with | _ => .exit 0
  tags := [0]
  lt := lt_laws_roll_l0
  fuel := fun (y0, y1, y2, y3) => y0.natAbs + y1.length + y2.natAbs + y3.natAbs
  fix := fun (_, y1, y2, _) (y0, _, _, y3) => (y0, y1, y2, y3)
  σ := [(0, 0), (1, 704)]
  rd := rd_laws_roll_l0

theorem lpok_laws_roll_l0 : LoopOk Try.prog (fun k => Nat.blt k Try.f45.ntmps) lp_laws_roll_l0.F (loopAt Try.f45 0) := by
  refine Lp.ok (tbl := []) (lf := []) hmix lp_laws_roll_l0 (by kernel_rfl) (LOk.nil _) (fun _ => rfl) (fun _ _ => rfl) ?_ ?_ ?_ ?_ (fun _ => rfl) ?_
  · intro x; obtain ⟨y0, y1, y2, y3⟩ := x; kernel_rfl
  · intro x; obtain ⟨y0, y1, y2, y3⟩ := x; kernel_rfl
  · intro s x h
    have h : rd_laws_roll_l0 s = some x := h
    unfold rd_laws_roll_l0 at h
    repeat' split at h
    all_goals cases h
    exact ⟨absS_cons (by assumption) rfl (absS_cons (by assumption) rfl (absS_cons (by assumption) rfl (rfl))), absE_cons rfl (by assumption) rfl (absE_cons rfl (by assumption) rfl (rfl))⟩
  · intro x; obtain ⟨y0, y1, y2, y3⟩ := x; kernel_rfl
  · intro x z; obtain ⟨y0, y1, y2, y3⟩ := x; exact (And.intro rfl trivial)

def laws_roll_0 (x0 : Int) (x1 : List Int) : Int :=
  Prod.snd
  (Prod.snd
    (Prod.snd
      (Prod.snd
        (Lp.res lp_laws_roll_l0
          ((0 : Int), x1, (0 : Int),
            IntKind.wrap IntKind.u64 (IntKind.wrap IntKind.u64 (x0 * (6007 : Int)) + IntKind.wrap IntKind.u64 (↑(List.length x1) : Int)))))))

def laws_roll_1 (x0 : Int) (x1 : List Int) : Bool :=
  allT
  [Lp.fin lp_laws_roll_l0
      ((0 : Int), x1, (0 : Int),
        IntKind.wrap IntKind.u64 (IntKind.wrap IntKind.u64 (x0 * (6007 : Int)) + IntKind.wrap IntKind.u64 (↑(List.length x1) : Int)))]

def F_laws_roll : List SV → List Entry → Option Out
  | [.one ⟨false, [.ref 0]⟩, .one ⟨false, [.val (.int .u64 x0)]⟩], [.row false 5 (.int .u8) x1] => some ⟨(.one ⟨false, [(.ptr 1 0)]⟩), [(.row false 5 (CTy.int IntKind.u8) x1)], [(.box 110 [(.ref 0), (.val (.int IntKind.i64 (0 : Int))), (.val (.int IntKind.u64 (laws_roll_0 x0 x1)))])], [(laws_roll_1 x0 x1)]⟩
  | _, _ => none

def p_laws_roll : PF Try.prog := PF.ofG Try.prog [] [lp_laws_roll_l0.F] hmix 45 Try.f45 Try.func45 (LOk.fnT (l := [loopAt Try.f45 0]) (by kernel_rfl) (.cons lpok_laws_roll_l0 (.nil _))) F_laws_roll (by
  intro vs es r h; unfold F_laws_roll at h; split at h
  · cases h; kernel_rfl
  · cases h)

def loop_example_g00916_laws_dice_below_0 (x0 : Int) (x1 : Int) (x2 : Int) (x3 : List Int) : Int :=
  Int.tmod
  (bif decide (x1 < (↑(List.length x3) : Int)) then
    IntKind.wrap IntKind.i64
      (IntKind.wrap IntKind.i64
          (IntKind.wrap IntKind.u64
            (↑(BitVec.toNat
                  (BitVec.ofInt (IntKind.bits IntKind.u64)
                      (Int.fdiv (IntKind.wrap IntKind.u64 (IntKind.wrap IntKind.u64 (x2 * (6364136223846793005 : Int)) + (1442695040888963407 : Int)))
                        ((2 : Int) ^ min (Int.toNat (33 : Int)) (IntKind.bits IntKind.u64))) &&&
                    BitVec.ofInt (IntKind.bits IntKind.u64) (16777215 : Int))) :
              Int)) +
        IntKind.wrap IntKind.i64 (Option.getD x3[Int.toNat x1]? (0 : Int)))
  else
    IntKind.wrap IntKind.i64
      (IntKind.wrap IntKind.u64
        (↑(BitVec.toNat
              (BitVec.ofInt (IntKind.bits IntKind.u64)
                  (Int.fdiv (IntKind.wrap IntKind.u64 (IntKind.wrap IntKind.u64 (x2 * (6364136223846793005 : Int)) + (1442695040888963407 : Int)))
                    ((2 : Int) ^ min (Int.toNat (33 : Int)) (IntKind.bits IntKind.u64))) &&&
                BitVec.ofInt (IntKind.bits IntKind.u64) (16777215 : Int))) :
          Int)))
  x0

def loop_example_g00916_laws_dice_below_1 (x1 : Int) (x3 : List Int) : Int :=
  bif decide (x1 < (↑(List.length x3) : Int)) then IntKind.wrap IntKind.i64 (x1 + (1 : Int)) else x1

def loop_example_g00916_laws_dice_below_2 (x1 : Int) (x2 : Int) (x3 : List Int) : Int :=
  bif decide (x1 < (↑(List.length x3) : Int)) then
  IntKind.wrap IntKind.u64 (IntKind.wrap IntKind.u64 (x2 * (6364136223846793005 : Int)) + (1442695040888963407 : Int))
  else IntKind.wrap IntKind.u64 (IntKind.wrap IntKind.u64 (x2 * (6364136223846793005 : Int)) + (1442695040888963407 : Int))

def loop_example_g00916_laws_dice_below_3 (x0 : Int) (x1 : Int) (x3 : List Int) : Bool :=
  allT
  [!decide (x1 < (↑(List.length x3) : Int)) || decide ((0 : Int) ≤ x1),
    !decide (x1 < (↑(List.length x3) : Int)) || decide (x1 < (↑(List.length x3) : Int)),
    !decide (x1 < (↑(List.length x3) : Int)) || decide (Int.toNat x1 < List.length x3), decide (x0 ≠ (0 : Int))]

def F_loop_example_g00916_laws_dice_below : List SV → List Entry → Option Out
  | [.one ⟨false, [.ptr 0 0]⟩, .one ⟨false, [.val (.int .i64 x0)]⟩], [.box 110 [.ref 1, .val (.int .i64 x1), .val (.int .u64 x2)], .row false 5 (.int .u8) x3] => some ⟨(.one ⟨false, [(.val (.int IntKind.i64 (loop_example_g00916_laws_dice_below_0 x0 x1 x2 x3)))]⟩), [(.box 110 [(.ref 1), (.val (.int IntKind.i64 (loop_example_g00916_laws_dice_below_1 x1 x3))), (.val (.int IntKind.u64 (loop_example_g00916_laws_dice_below_2 x1 x2 x3)))]), (.row false 5 (CTy.int IntKind.u8) x3)], [], [(loop_example_g00916_laws_dice_below_3 x0 x1 x3)]⟩
  | _, _ => none

def p_loop_example_g00916_laws_dice_below : PF Try.prog := PF.ofG Try.prog [] [] hmix 46 Try.f46 Try.func46 (fun c _ => LOk.nil c) F_loop_example_g00916_laws_dice_below (by
  intro vs es r h; unfold F_loop_example_g00916_laws_dice_below at h; split at h
  · cases h; kernel_rfl
  · cases h)

def laws_FnControllerPairs_0 (x0 : List Int) : Bool :=
  bif laws_big_0 x0 then true
  else
  bif
      bif
          bif
              bif
                  bif
                      bif
                          impl_RunPair_4 (spec_DrawRunPair_0 x0) (spec_DrawRunPair_1 x0) (spec_DrawRunPair_2 x0) (spec_DrawRunPair_3 x0)
                              (spec_DrawRunPair_4 x0) !=
                            spec_RunPair_4 (spec_DrawRunPair_0 x0) (spec_DrawRunPair_1 x0) (spec_DrawRunPair_2 x0) (spec_DrawRunPair_3 x0)
                              (spec_DrawRunPair_4 x0) then
                        true
                      else
                        !bif
                              bif
                                  impl_RunPair_0 (spec_DrawRunPair_0 x0) (spec_DrawRunPair_1 x0) (spec_DrawRunPair_2 x0) (spec_DrawRunPair_3 x0)
                                      (spec_DrawRunPair_4 x0) ==
                                    spec_RunPair_0 (spec_DrawRunPair_0 x0) (spec_DrawRunPair_1 x0) (spec_DrawRunPair_2 x0) (spec_DrawRunPair_3 x0)
                                      (spec_DrawRunPair_4 x0) then
                                bif
                                    impl_RunPair_1 (spec_DrawRunPair_0 x0) (spec_DrawRunPair_1 x0) (spec_DrawRunPair_2 x0) (spec_DrawRunPair_3 x0)
                                        (spec_DrawRunPair_4 x0) ==
                                      spec_RunPair_1 (spec_DrawRunPair_0 x0) (spec_DrawRunPair_1 x0) (spec_DrawRunPair_2 x0) (spec_DrawRunPair_3 x0)
                                        (spec_DrawRunPair_4 x0) then
                                  true
                                else false
                              else false then
                            bif
                                bif
                                    impl_RunPair_2 (spec_DrawRunPair_0 x0) (spec_DrawRunPair_1 x0) (spec_DrawRunPair_2 x0) (spec_DrawRunPair_3 x0)
                                        (spec_DrawRunPair_4 x0) ==
                                      spec_RunPair_2 (spec_DrawRunPair_0 x0) (spec_DrawRunPair_1 x0) (spec_DrawRunPair_2 x0) (spec_DrawRunPair_3 x0)
                                        (spec_DrawRunPair_4 x0) then
                                  bif
                                      impl_RunPair_3 (spec_DrawRunPair_0 x0) (spec_DrawRunPair_1 x0) (spec_DrawRunPair_2 x0) (spec_DrawRunPair_3 x0)
                                          (spec_DrawRunPair_4 x0) ==
                                        spec_RunPair_3 (spec_DrawRunPair_0 x0) (spec_DrawRunPair_1 x0) (spec_DrawRunPair_2 x0) (spec_DrawRunPair_3 x0)
                                          (spec_DrawRunPair_4 x0) then
                                    true
                                  else false
                                else false then
                              true
                            else false
                          else false then
                    true
                  else
                    impl_StepPair_4 (spec_DrawStepPair_0 x0) (spec_DrawStepPair_1 x0) (spec_DrawStepPair_2 x0) (spec_DrawStepPair_3 x0)
                        (spec_DrawStepPair_4 x0) (spec_DrawStepPair_5 x0) (spec_DrawStepPair_6 x0) (spec_DrawStepPair_7 x0) !=
                      spec_StepPair_4 (spec_DrawStepPair_0 x0) (spec_DrawStepPair_1 x0) (spec_DrawStepPair_2 x0) (spec_DrawStepPair_3 x0)
                        (spec_DrawStepPair_4 x0) (spec_DrawStepPair_5 x0) (spec_DrawStepPair_6 x0) (spec_DrawStepPair_7 x0) then
                true
              else
                !bif
                      bif
                          impl_StepPair_0 (spec_DrawStepPair_0 x0) (spec_DrawStepPair_1 x0) (spec_DrawStepPair_2 x0) (spec_DrawStepPair_3 x0)
                              (spec_DrawStepPair_4 x0) (spec_DrawStepPair_5 x0) (spec_DrawStepPair_6 x0) (spec_DrawStepPair_7 x0) ==
                            spec_StepPair_0 (spec_DrawStepPair_0 x0) (spec_DrawStepPair_1 x0) (spec_DrawStepPair_2 x0) (spec_DrawStepPair_3 x0)
                              (spec_DrawStepPair_4 x0) (spec_DrawStepPair_5 x0) (spec_DrawStepPair_6 x0) (spec_DrawStepPair_7 x0) then
                        bif
                            impl_StepPair_1 (spec_DrawStepPair_0 x0) (spec_DrawStepPair_1 x0) (spec_DrawStepPair_2 x0) (spec_DrawStepPair_3 x0)
                                (spec_DrawStepPair_4 x0) (spec_DrawStepPair_5 x0) (spec_DrawStepPair_6 x0) (spec_DrawStepPair_7 x0) ==
                              spec_StepPair_1 (spec_DrawStepPair_0 x0) (spec_DrawStepPair_1 x0) (spec_DrawStepPair_2 x0) (spec_DrawStepPair_3 x0)
                                (spec_DrawStepPair_4 x0) (spec_DrawStepPair_5 x0) (spec_DrawStepPair_6 x0) (spec_DrawStepPair_7 x0) then
                          true
                        else false
                      else false then
                    bif
                        bif
                            impl_StepPair_2 (spec_DrawStepPair_0 x0) (spec_DrawStepPair_1 x0) (spec_DrawStepPair_2 x0) (spec_DrawStepPair_3 x0)
                                (spec_DrawStepPair_4 x0) (spec_DrawStepPair_5 x0) (spec_DrawStepPair_6 x0) (spec_DrawStepPair_7 x0) ==
                              spec_StepPair_2 (spec_DrawStepPair_0 x0) (spec_DrawStepPair_1 x0) (spec_DrawStepPair_2 x0) (spec_DrawStepPair_3 x0)
                                (spec_DrawStepPair_4 x0) (spec_DrawStepPair_5 x0) (spec_DrawStepPair_6 x0) (spec_DrawStepPair_7 x0) then
                          bif
                              impl_StepPair_3 (spec_DrawStepPair_0 x0) (spec_DrawStepPair_1 x0) (spec_DrawStepPair_2 x0) (spec_DrawStepPair_3 x0)
                                  (spec_DrawStepPair_4 x0) (spec_DrawStepPair_5 x0) (spec_DrawStepPair_6 x0) (spec_DrawStepPair_7 x0) ==
                                spec_StepPair_3 (spec_DrawStepPair_0 x0) (spec_DrawStepPair_1 x0) (spec_DrawStepPair_2 x0) (spec_DrawStepPair_3 x0)
                                  (spec_DrawStepPair_4 x0) (spec_DrawStepPair_5 x0) (spec_DrawStepPair_6 x0) (spec_DrawStepPair_7 x0) then
                            true
                          else false
                        else false then
                      true
                    else false
                  else false then
            true
          else
            !impl_IsPair_0 (spec_DrawRunPair_0 x0) (spec_DrawRunPair_1 x0) (spec_DrawRunPair_2 x0) (spec_DrawRunPair_3 x0) ==
                spec_IsPair_0 (spec_DrawRunPair_0 x0) (spec_DrawRunPair_1 x0) (spec_DrawRunPair_2 x0) (spec_DrawRunPair_3 x0) then
        true
      else
        !impl_IsPairEvent_0 (spec_DrawStepPair_4 x0) (spec_DrawStepPair_5 x0) (spec_DrawStepPair_6 x0) (spec_DrawStepPair_7 x0) ==
            spec_IsPairEvent_0 (spec_DrawStepPair_4 x0) (spec_DrawStepPair_5 x0) (spec_DrawStepPair_6 x0) (spec_DrawStepPair_7 x0) then
    false
  else
    bif
        impl_RunPair_4 (spec_DrawRunPair_0 x0) (spec_DrawRunPair_1 x0) (spec_DrawRunPair_2 x0) (spec_DrawRunPair_3 x0) (spec_DrawRunPair_4 x0) !=
          (0 : Int) then
      true
    else
      bif
          bif
              bif
                  bif
                      bif
                          bif
                              impl_RunPair_4 (spec_DrawRunPair_0 x0) (spec_DrawRunPair_1 x0) (spec_DrawRunPair_2 x0) (spec_DrawRunPair_3 x0)
                                  (List.drop (Int.toNat (0 : Int))
                                    (List.take
                                      (Int.toNat
                                        (loop_example_g00916_laws_dice_below_0
                                          (IntKind.wrap IntKind.i64 ((↑(List.length (spec_DrawRunPair_4 x0)) : Int) + (1 : Int))) (0 : Int)
                                          (laws_roll_0 (3101 : Int) x0) x0))
                                      (spec_DrawRunPair_4 x0))) ==
                                (0 : Int) then
                            impl_RunPair_4
                                (impl_RunPair_0 (spec_DrawRunPair_0 x0) (spec_DrawRunPair_1 x0) (spec_DrawRunPair_2 x0) (spec_DrawRunPair_3 x0)
                                  (List.drop (Int.toNat (0 : Int))
                                    (List.take
                                      (Int.toNat
                                        (loop_example_g00916_laws_dice_below_0
                                          (IntKind.wrap IntKind.i64 ((↑(List.length (spec_DrawRunPair_4 x0)) : Int) + (1 : Int))) (0 : Int)
                                          (laws_roll_0 (3101 : Int) x0) x0))
                                      (spec_DrawRunPair_4 x0))))
                                (impl_RunPair_1 (spec_DrawRunPair_0 x0) (spec_DrawRunPair_1 x0) (spec_DrawRunPair_2 x0) (spec_DrawRunPair_3 x0)
                                  (List.drop (Int.toNat (0 : Int))
                                    (List.take
                                      (Int.toNat
                                        (loop_example_g00916_laws_dice_below_0
                                          (IntKind.wrap IntKind.i64 ((↑(List.length (spec_DrawRunPair_4 x0)) : Int) + (1 : Int))) (0 : Int)
                                          (laws_roll_0 (3101 : Int) x0) x0))
                                      (spec_DrawRunPair_4 x0))))
                                (impl_RunPair_2 (spec_DrawRunPair_0 x0) (spec_DrawRunPair_1 x0) (spec_DrawRunPair_2 x0) (spec_DrawRunPair_3 x0)
                                  (List.drop (Int.toNat (0 : Int))
                                    (List.take
                                      (Int.toNat
                                        (loop_example_g00916_laws_dice_below_0
                                          (IntKind.wrap IntKind.i64 ((↑(List.length (spec_DrawRunPair_4 x0)) : Int) + (1 : Int))) (0 : Int)
                                          (laws_roll_0 (3101 : Int) x0) x0))
                                      (spec_DrawRunPair_4 x0))))
                                (impl_RunPair_3 (spec_DrawRunPair_0 x0) (spec_DrawRunPair_1 x0) (spec_DrawRunPair_2 x0) (spec_DrawRunPair_3 x0)
                                  (List.drop (Int.toNat (0 : Int))
                                    (List.take
                                      (Int.toNat
                                        (loop_example_g00916_laws_dice_below_0
                                          (IntKind.wrap IntKind.i64 ((↑(List.length (spec_DrawRunPair_4 x0)) : Int) + (1 : Int))) (0 : Int)
                                          (laws_roll_0 (3101 : Int) x0) x0))
                                      (spec_DrawRunPair_4 x0))))
                                (List.drop
                                  (Int.toNat
                                    (loop_example_g00916_laws_dice_below_0
                                      (IntKind.wrap IntKind.i64 ((↑(List.length (spec_DrawRunPair_4 x0)) : Int) + (1 : Int))) (0 : Int)
                                      (laws_roll_0 (3101 : Int) x0) x0))
                                  (List.take (Int.toNat (↑(List.length (spec_DrawRunPair_4 x0)) : Int)) (spec_DrawRunPair_4 x0))) ==
                              (0 : Int)
                          else false then
                        impl_ActiveCount_1
                            (impl_RunPair_0 (spec_DrawRunPair_0 x0) (spec_DrawRunPair_1 x0) (spec_DrawRunPair_2 x0) (spec_DrawRunPair_3 x0)
                              (spec_DrawRunPair_4 x0))
                            (impl_RunPair_1 (spec_DrawRunPair_0 x0) (spec_DrawRunPair_1 x0) (spec_DrawRunPair_2 x0) (spec_DrawRunPair_3 x0)
                              (spec_DrawRunPair_4 x0))
                            (impl_RunPair_2 (spec_DrawRunPair_0 x0) (spec_DrawRunPair_1 x0) (spec_DrawRunPair_2 x0) (spec_DrawRunPair_3 x0)
                              (spec_DrawRunPair_4 x0))
                            (impl_RunPair_3 (spec_DrawRunPair_0 x0) (spec_DrawRunPair_1 x0) (spec_DrawRunPair_2 x0) (spec_DrawRunPair_3 x0)
                              (spec_DrawRunPair_4 x0)) ==
                          (0 : Int)
                      else false then
                    impl_GreatestActive_1 (spec_DrawRunPair_0 x0) (spec_DrawRunPair_1 x0) (spec_DrawRunPair_2 x0) (spec_DrawRunPair_3 x0)
                        (spec_DrawRunPair_4 x0) ==
                      (0 : Int)
                  else false then
                bif
                    bif
                        impl_RunPair_0
                            (impl_RunPair_0 (spec_DrawRunPair_0 x0) (spec_DrawRunPair_1 x0) (spec_DrawRunPair_2 x0) (spec_DrawRunPair_3 x0)
                              (List.drop (Int.toNat (0 : Int))
                                (List.take
                                  (Int.toNat
                                    (loop_example_g00916_laws_dice_below_0
                                      (IntKind.wrap IntKind.i64 ((↑(List.length (spec_DrawRunPair_4 x0)) : Int) + (1 : Int))) (0 : Int)
                                      (laws_roll_0 (3101 : Int) x0) x0))
                                  (spec_DrawRunPair_4 x0))))
                            (impl_RunPair_1 (spec_DrawRunPair_0 x0) (spec_DrawRunPair_1 x0) (spec_DrawRunPair_2 x0) (spec_DrawRunPair_3 x0)
                              (List.drop (Int.toNat (0 : Int))
                                (List.take
                                  (Int.toNat
                                    (loop_example_g00916_laws_dice_below_0
                                      (IntKind.wrap IntKind.i64 ((↑(List.length (spec_DrawRunPair_4 x0)) : Int) + (1 : Int))) (0 : Int)
                                      (laws_roll_0 (3101 : Int) x0) x0))
                                  (spec_DrawRunPair_4 x0))))
                            (impl_RunPair_2 (spec_DrawRunPair_0 x0) (spec_DrawRunPair_1 x0) (spec_DrawRunPair_2 x0) (spec_DrawRunPair_3 x0)
                              (List.drop (Int.toNat (0 : Int))
                                (List.take
                                  (Int.toNat
                                    (loop_example_g00916_laws_dice_below_0
                                      (IntKind.wrap IntKind.i64 ((↑(List.length (spec_DrawRunPair_4 x0)) : Int) + (1 : Int))) (0 : Int)
                                      (laws_roll_0 (3101 : Int) x0) x0))
                                  (spec_DrawRunPair_4 x0))))
                            (impl_RunPair_3 (spec_DrawRunPair_0 x0) (spec_DrawRunPair_1 x0) (spec_DrawRunPair_2 x0) (spec_DrawRunPair_3 x0)
                              (List.drop (Int.toNat (0 : Int))
                                (List.take
                                  (Int.toNat
                                    (loop_example_g00916_laws_dice_below_0
                                      (IntKind.wrap IntKind.i64 ((↑(List.length (spec_DrawRunPair_4 x0)) : Int) + (1 : Int))) (0 : Int)
                                      (laws_roll_0 (3101 : Int) x0) x0))
                                  (spec_DrawRunPair_4 x0))))
                            (List.drop
                              (Int.toNat
                                (loop_example_g00916_laws_dice_below_0
                                  (IntKind.wrap IntKind.i64 ((↑(List.length (spec_DrawRunPair_4 x0)) : Int) + (1 : Int))) (0 : Int)
                                  (laws_roll_0 (3101 : Int) x0) x0))
                              (List.take (Int.toNat (↑(List.length (spec_DrawRunPair_4 x0)) : Int)) (spec_DrawRunPair_4 x0))) ==
                          impl_RunPair_0 (spec_DrawRunPair_0 x0) (spec_DrawRunPair_1 x0) (spec_DrawRunPair_2 x0) (spec_DrawRunPair_3 x0)
                            (spec_DrawRunPair_4 x0) then
                      bif
                          impl_RunPair_1
                              (impl_RunPair_0 (spec_DrawRunPair_0 x0) (spec_DrawRunPair_1 x0) (spec_DrawRunPair_2 x0) (spec_DrawRunPair_3 x0)
                                (List.drop (Int.toNat (0 : Int))
                                  (List.take
                                    (Int.toNat
                                      (loop_example_g00916_laws_dice_below_0
                                        (IntKind.wrap IntKind.i64 ((↑(List.length (spec_DrawRunPair_4 x0)) : Int) + (1 : Int))) (0 : Int)
                                        (laws_roll_0 (3101 : Int) x0) x0))
                                    (spec_DrawRunPair_4 x0))))
                              (impl_RunPair_1 (spec_DrawRunPair_0 x0) (spec_DrawRunPair_1 x0) (spec_DrawRunPair_2 x0) (spec_DrawRunPair_3 x0)
                                (List.drop (Int.toNat (0 : Int))
                                  (List.take
                                    (Int.toNat
                                      (loop_example_g00916_laws_dice_below_0
                                        (IntKind.wrap IntKind.i64 ((↑(List.length (spec_DrawRunPair_4 x0)) : Int) + (1 : Int))) (0 : Int)
                                        (laws_roll_0 (3101 : Int) x0) x0))
                                    (spec_DrawRunPair_4 x0))))
                              (impl_RunPair_2 (spec_DrawRunPair_0 x0) (spec_DrawRunPair_1 x0) (spec_DrawRunPair_2 x0) (spec_DrawRunPair_3 x0)
                                (List.drop (Int.toNat (0 : Int))
                                  (List.take
                                    (Int.toNat
                                      (loop_example_g00916_laws_dice_below_0
                                        (IntKind.wrap IntKind.i64 ((↑(List.length (spec_DrawRunPair_4 x0)) : Int) + (1 : Int))) (0 : Int)
                                        (laws_roll_0 (3101 : Int) x0) x0))
                                    (spec_DrawRunPair_4 x0))))
                              (impl_RunPair_3 (spec_DrawRunPair_0 x0) (spec_DrawRunPair_1 x0) (spec_DrawRunPair_2 x0) (spec_DrawRunPair_3 x0)
                                (List.drop (Int.toNat (0 : Int))
                                  (List.take
                                    (Int.toNat
                                      (loop_example_g00916_laws_dice_below_0
                                        (IntKind.wrap IntKind.i64 ((↑(List.length (spec_DrawRunPair_4 x0)) : Int) + (1 : Int))) (0 : Int)
                                        (laws_roll_0 (3101 : Int) x0) x0))
                                    (spec_DrawRunPair_4 x0))))
                              (List.drop
                                (Int.toNat
                                  (loop_example_g00916_laws_dice_below_0
                                    (IntKind.wrap IntKind.i64 ((↑(List.length (spec_DrawRunPair_4 x0)) : Int) + (1 : Int))) (0 : Int)
                                    (laws_roll_0 (3101 : Int) x0) x0))
                                (List.take (Int.toNat (↑(List.length (spec_DrawRunPair_4 x0)) : Int)) (spec_DrawRunPair_4 x0))) ==
                            impl_RunPair_1 (spec_DrawRunPair_0 x0) (spec_DrawRunPair_1 x0) (spec_DrawRunPair_2 x0) (spec_DrawRunPair_3 x0)
                              (spec_DrawRunPair_4 x0) then
                        true
                      else false
                    else false then
                  bif
                      bif
                          impl_RunPair_2
                              (impl_RunPair_0 (spec_DrawRunPair_0 x0) (spec_DrawRunPair_1 x0) (spec_DrawRunPair_2 x0) (spec_DrawRunPair_3 x0)
                                (List.drop (Int.toNat (0 : Int))
                                  (List.take
                                    (Int.toNat
                                      (loop_example_g00916_laws_dice_below_0
                                        (IntKind.wrap IntKind.i64 ((↑(List.length (spec_DrawRunPair_4 x0)) : Int) + (1 : Int))) (0 : Int)
                                        (laws_roll_0 (3101 : Int) x0) x0))
                                    (spec_DrawRunPair_4 x0))))
                              (impl_RunPair_1 (spec_DrawRunPair_0 x0) (spec_DrawRunPair_1 x0) (spec_DrawRunPair_2 x0) (spec_DrawRunPair_3 x0)
                                (List.drop (Int.toNat (0 : Int))
                                  (List.take
                                    (Int.toNat
                                      (loop_example_g00916_laws_dice_below_0
                                        (IntKind.wrap IntKind.i64 ((↑(List.length (spec_DrawRunPair_4 x0)) : Int) + (1 : Int))) (0 : Int)
                                        (laws_roll_0 (3101 : Int) x0) x0))
                                    (spec_DrawRunPair_4 x0))))
                              (impl_RunPair_2 (spec_DrawRunPair_0 x0) (spec_DrawRunPair_1 x0) (spec_DrawRunPair_2 x0) (spec_DrawRunPair_3 x0)
                                (List.drop (Int.toNat (0 : Int))
                                  (List.take
                                    (Int.toNat
                                      (loop_example_g00916_laws_dice_below_0
                                        (IntKind.wrap IntKind.i64 ((↑(List.length (spec_DrawRunPair_4 x0)) : Int) + (1 : Int))) (0 : Int)
                                        (laws_roll_0 (3101 : Int) x0) x0))
                                    (spec_DrawRunPair_4 x0))))
                              (impl_RunPair_3 (spec_DrawRunPair_0 x0) (spec_DrawRunPair_1 x0) (spec_DrawRunPair_2 x0) (spec_DrawRunPair_3 x0)
                                (List.drop (Int.toNat (0 : Int))
                                  (List.take
                                    (Int.toNat
                                      (loop_example_g00916_laws_dice_below_0
                                        (IntKind.wrap IntKind.i64 ((↑(List.length (spec_DrawRunPair_4 x0)) : Int) + (1 : Int))) (0 : Int)
                                        (laws_roll_0 (3101 : Int) x0) x0))
                                    (spec_DrawRunPair_4 x0))))
                              (List.drop
                                (Int.toNat
                                  (loop_example_g00916_laws_dice_below_0
                                    (IntKind.wrap IntKind.i64 ((↑(List.length (spec_DrawRunPair_4 x0)) : Int) + (1 : Int))) (0 : Int)
                                    (laws_roll_0 (3101 : Int) x0) x0))
                                (List.take (Int.toNat (↑(List.length (spec_DrawRunPair_4 x0)) : Int)) (spec_DrawRunPair_4 x0))) ==
                            impl_RunPair_2 (spec_DrawRunPair_0 x0) (spec_DrawRunPair_1 x0) (spec_DrawRunPair_2 x0) (spec_DrawRunPair_3 x0)
                              (spec_DrawRunPair_4 x0) then
                        bif
                            impl_RunPair_3
                                (impl_RunPair_0 (spec_DrawRunPair_0 x0) (spec_DrawRunPair_1 x0) (spec_DrawRunPair_2 x0) (spec_DrawRunPair_3 x0)
                                  (List.drop (Int.toNat (0 : Int))
                                    (List.take
                                      (Int.toNat
                                        (loop_example_g00916_laws_dice_below_0
                                          (IntKind.wrap IntKind.i64 ((↑(List.length (spec_DrawRunPair_4 x0)) : Int) + (1 : Int))) (0 : Int)
                                          (laws_roll_0 (3101 : Int) x0) x0))
                                      (spec_DrawRunPair_4 x0))))
                                (impl_RunPair_1 (spec_DrawRunPair_0 x0) (spec_DrawRunPair_1 x0) (spec_DrawRunPair_2 x0) (spec_DrawRunPair_3 x0)
                                  (List.drop (Int.toNat (0 : Int))
                                    (List.take
                                      (Int.toNat
                                        (loop_example_g00916_laws_dice_below_0
                                          (IntKind.wrap IntKind.i64 ((↑(List.length (spec_DrawRunPair_4 x0)) : Int) + (1 : Int))) (0 : Int)
                                          (laws_roll_0 (3101 : Int) x0) x0))
                                      (spec_DrawRunPair_4 x0))))
                                (impl_RunPair_2 (spec_DrawRunPair_0 x0) (spec_DrawRunPair_1 x0) (spec_DrawRunPair_2 x0) (spec_DrawRunPair_3 x0)
                                  (List.drop (Int.toNat (0 : Int))
                                    (List.take
                                      (Int.toNat
                                        (loop_example_g00916_laws_dice_below_0
                                          (IntKind.wrap IntKind.i64 ((↑(List.length (spec_DrawRunPair_4 x0)) : Int) + (1 : Int))) (0 : Int)
                                          (laws_roll_0 (3101 : Int) x0) x0))
                                      (spec_DrawRunPair_4 x0))))
                                (impl_RunPair_3 (spec_DrawRunPair_0 x0) (spec_DrawRunPair_1 x0) (spec_DrawRunPair_2 x0) (spec_DrawRunPair_3 x0)
                                  (List.drop (Int.toNat (0 : Int))
                                    (List.take
                                      (Int.toNat
                                        (loop_example_g00916_laws_dice_below_0
                                          (IntKind.wrap IntKind.i64 ((↑(List.length (spec_DrawRunPair_4 x0)) : Int) + (1 : Int))) (0 : Int)
                                          (laws_roll_0 (3101 : Int) x0) x0))
                                      (spec_DrawRunPair_4 x0))))
                                (List.drop
                                  (Int.toNat
                                    (loop_example_g00916_laws_dice_below_0
                                      (IntKind.wrap IntKind.i64 ((↑(List.length (spec_DrawRunPair_4 x0)) : Int) + (1 : Int))) (0 : Int)
                                      (laws_roll_0 (3101 : Int) x0) x0))
                                  (List.take (Int.toNat (↑(List.length (spec_DrawRunPair_4 x0)) : Int)) (spec_DrawRunPair_4 x0))) ==
                              impl_RunPair_3 (spec_DrawRunPair_0 x0) (spec_DrawRunPair_1 x0) (spec_DrawRunPair_2 x0) (spec_DrawRunPair_3 x0)
                                (spec_DrawRunPair_4 x0) then
                          true
                        else false
                      else false then
                    true
                  else false
                else false
              else false then
            impl_IsPair_0
              (impl_RunPair_0 (spec_DrawRunPair_0 x0) (spec_DrawRunPair_1 x0) (spec_DrawRunPair_2 x0) (spec_DrawRunPair_3 x0) (spec_DrawRunPair_4 x0))
              (impl_RunPair_1 (spec_DrawRunPair_0 x0) (spec_DrawRunPair_1 x0) (spec_DrawRunPair_2 x0) (spec_DrawRunPair_3 x0) (spec_DrawRunPair_4 x0))
              (impl_RunPair_2 (spec_DrawRunPair_0 x0) (spec_DrawRunPair_1 x0) (spec_DrawRunPair_2 x0) (spec_DrawRunPair_3 x0) (spec_DrawRunPair_4 x0))
              (impl_RunPair_3 (spec_DrawRunPair_0 x0) (spec_DrawRunPair_1 x0) (spec_DrawRunPair_2 x0) (spec_DrawRunPair_3 x0) (spec_DrawRunPair_4 x0))
          else false then
        decide
          (impl_ActiveCount_0
              (impl_RunPair_0 (spec_DrawRunPair_0 x0) (spec_DrawRunPair_1 x0) (spec_DrawRunPair_2 x0) (spec_DrawRunPair_3 x0) (spec_DrawRunPair_4 x0))
              (impl_RunPair_1 (spec_DrawRunPair_0 x0) (spec_DrawRunPair_1 x0) (spec_DrawRunPair_2 x0) (spec_DrawRunPair_3 x0) (spec_DrawRunPair_4 x0))
              (impl_RunPair_2 (spec_DrawRunPair_0 x0) (spec_DrawRunPair_1 x0) (spec_DrawRunPair_2 x0) (spec_DrawRunPair_3 x0) (spec_DrawRunPair_4 x0))
              (impl_RunPair_3 (spec_DrawRunPair_0 x0) (spec_DrawRunPair_1 x0) (spec_DrawRunPair_2 x0) (spec_DrawRunPair_3 x0)
                (spec_DrawRunPair_4 x0)) ≤
            impl_GreatestActive_0 (spec_DrawRunPair_0 x0) (spec_DrawRunPair_1 x0) (spec_DrawRunPair_2 x0) (spec_DrawRunPair_3 x0)
              (spec_DrawRunPair_4 x0))
      else false

def laws_FnControllerPairs_1 (x0 : List Int) : Bool :=
  allT
  [laws_big_0 x0 || spec_DrawRunPair_5 x0,
    laws_big_0 x0 ||
      impl_RunPair_5 (spec_DrawRunPair_0 x0) (spec_DrawRunPair_1 x0) (spec_DrawRunPair_2 x0) (spec_DrawRunPair_3 x0) (spec_DrawRunPair_4 x0),
    laws_big_0 x0 ||
      spec_RunPair_5 (spec_DrawRunPair_0 x0) (spec_DrawRunPair_1 x0) (spec_DrawRunPair_2 x0) (spec_DrawRunPair_3 x0) (spec_DrawRunPair_4 x0),
    laws_big_0 x0 || spec_DrawStepPair_8 x0,
    laws_big_0 x0 ||
      impl_StepPair_5 (spec_DrawStepPair_0 x0) (spec_DrawStepPair_1 x0) (spec_DrawStepPair_2 x0) (spec_DrawStepPair_3 x0) (spec_DrawStepPair_4 x0)
        (spec_DrawStepPair_5 x0) (spec_DrawStepPair_6 x0) (spec_DrawStepPair_7 x0),
    laws_big_0 x0 ||
      spec_StepPair_5 (spec_DrawStepPair_0 x0) (spec_DrawStepPair_1 x0) (spec_DrawStepPair_2 x0) (spec_DrawStepPair_3 x0) (spec_DrawStepPair_4 x0)
        (spec_DrawStepPair_5 x0) (spec_DrawStepPair_6 x0) (spec_DrawStepPair_7 x0),
    laws_big_0 x0 ||
      ((bif
            bif
                bif
                    bif
                        bif
                            impl_RunPair_4 (spec_DrawRunPair_0 x0) (spec_DrawRunPair_1 x0) (spec_DrawRunPair_2 x0) (spec_DrawRunPair_3 x0)
                                (spec_DrawRunPair_4 x0) !=
                              spec_RunPair_4 (spec_DrawRunPair_0 x0) (spec_DrawRunPair_1 x0) (spec_DrawRunPair_2 x0) (spec_DrawRunPair_3 x0)
                                (spec_DrawRunPair_4 x0) then
                          true
                        else
                          !bif
                                bif
                                    impl_RunPair_0 (spec_DrawRunPair_0 x0) (spec_DrawRunPair_1 x0) (spec_DrawRunPair_2 x0) (spec_DrawRunPair_3 x0)
                                        (spec_DrawRunPair_4 x0) ==
                                      spec_RunPair_0 (spec_DrawRunPair_0 x0) (spec_DrawRunPair_1 x0) (spec_DrawRunPair_2 x0) (spec_DrawRunPair_3 x0)
                                        (spec_DrawRunPair_4 x0) then
                                  bif
                                      impl_RunPair_1 (spec_DrawRunPair_0 x0) (spec_DrawRunPair_1 x0) (spec_DrawRunPair_2 x0) (spec_DrawRunPair_3 x0)
                                          (spec_DrawRunPair_4 x0) ==
                                        spec_RunPair_1 (spec_DrawRunPair_0 x0) (spec_DrawRunPair_1 x0) (spec_DrawRunPair_2 x0) (spec_DrawRunPair_3 x0)
                                          (spec_DrawRunPair_4 x0) then
                                    true
                                  else false
                                else false then
                              bif
                                  bif
                                      impl_RunPair_2 (spec_DrawRunPair_0 x0) (spec_DrawRunPair_1 x0) (spec_DrawRunPair_2 x0) (spec_DrawRunPair_3 x0)
                                          (spec_DrawRunPair_4 x0) ==
                                        spec_RunPair_2 (spec_DrawRunPair_0 x0) (spec_DrawRunPair_1 x0) (spec_DrawRunPair_2 x0) (spec_DrawRunPair_3 x0)
                                          (spec_DrawRunPair_4 x0) then
                                    bif
                                        impl_RunPair_3 (spec_DrawRunPair_0 x0) (spec_DrawRunPair_1 x0) (spec_DrawRunPair_2 x0) (spec_DrawRunPair_3 x0)
                                            (spec_DrawRunPair_4 x0) ==
                                          spec_RunPair_3 (spec_DrawRunPair_0 x0) (spec_DrawRunPair_1 x0) (spec_DrawRunPair_2 x0)
                                            (spec_DrawRunPair_3 x0) (spec_DrawRunPair_4 x0) then
                                      true
                                    else false
                                  else false then
                                true
                              else false
                            else false then
                      true
                    else
                      impl_StepPair_4 (spec_DrawStepPair_0 x0) (spec_DrawStepPair_1 x0) (spec_DrawStepPair_2 x0) (spec_DrawStepPair_3 x0)
                          (spec_DrawStepPair_4 x0) (spec_DrawStepPair_5 x0) (spec_DrawStepPair_6 x0) (spec_DrawStepPair_7 x0) !=
                        spec_StepPair_4 (spec_DrawStepPair_0 x0) (spec_DrawStepPair_1 x0) (spec_DrawStepPair_2 x0) (spec_DrawStepPair_3 x0)
                          (spec_DrawStepPair_4 x0) (spec_DrawStepPair_5 x0) (spec_DrawStepPair_6 x0) (spec_DrawStepPair_7 x0) then
                  true
                else
                  !bif
                        bif
                            impl_StepPair_0 (spec_DrawStepPair_0 x0) (spec_DrawStepPair_1 x0) (spec_DrawStepPair_2 x0) (spec_DrawStepPair_3 x0)
                                (spec_DrawStepPair_4 x0) (spec_DrawStepPair_5 x0) (spec_DrawStepPair_6 x0) (spec_DrawStepPair_7 x0) ==
                              spec_StepPair_0 (spec_DrawStepPair_0 x0) (spec_DrawStepPair_1 x0) (spec_DrawStepPair_2 x0) (spec_DrawStepPair_3 x0)
                                (spec_DrawStepPair_4 x0) (spec_DrawStepPair_5 x0) (spec_DrawStepPair_6 x0) (spec_DrawStepPair_7 x0) then
                          bif
                              impl_StepPair_1 (spec_DrawStepPair_0 x0) (spec_DrawStepPair_1 x0) (spec_DrawStepPair_2 x0) (spec_DrawStepPair_3 x0)
                                  (spec_DrawStepPair_4 x0) (spec_DrawStepPair_5 x0) (spec_DrawStepPair_6 x0) (spec_DrawStepPair_7 x0) ==
                                spec_StepPair_1 (spec_DrawStepPair_0 x0) (spec_DrawStepPair_1 x0) (spec_DrawStepPair_2 x0) (spec_DrawStepPair_3 x0)
                                  (spec_DrawStepPair_4 x0) (spec_DrawStepPair_5 x0) (spec_DrawStepPair_6 x0) (spec_DrawStepPair_7 x0) then
                            true
                          else false
                        else false then
                      bif
                          bif
                              impl_StepPair_2 (spec_DrawStepPair_0 x0) (spec_DrawStepPair_1 x0) (spec_DrawStepPair_2 x0) (spec_DrawStepPair_3 x0)
                                  (spec_DrawStepPair_4 x0) (spec_DrawStepPair_5 x0) (spec_DrawStepPair_6 x0) (spec_DrawStepPair_7 x0) ==
                                spec_StepPair_2 (spec_DrawStepPair_0 x0) (spec_DrawStepPair_1 x0) (spec_DrawStepPair_2 x0) (spec_DrawStepPair_3 x0)
                                  (spec_DrawStepPair_4 x0) (spec_DrawStepPair_5 x0) (spec_DrawStepPair_6 x0) (spec_DrawStepPair_7 x0) then
                            bif
                                impl_StepPair_3 (spec_DrawStepPair_0 x0) (spec_DrawStepPair_1 x0) (spec_DrawStepPair_2 x0) (spec_DrawStepPair_3 x0)
                                    (spec_DrawStepPair_4 x0) (spec_DrawStepPair_5 x0) (spec_DrawStepPair_6 x0) (spec_DrawStepPair_7 x0) ==
                                  spec_StepPair_3 (spec_DrawStepPair_0 x0) (spec_DrawStepPair_1 x0) (spec_DrawStepPair_2 x0) (spec_DrawStepPair_3 x0)
                                    (spec_DrawStepPair_4 x0) (spec_DrawStepPair_5 x0) (spec_DrawStepPair_6 x0) (spec_DrawStepPair_7 x0) then
                              true
                            else false
                          else false then
                        true
                      else false
                    else false then
              true
            else
              !impl_IsPair_0 (spec_DrawRunPair_0 x0) (spec_DrawRunPair_1 x0) (spec_DrawRunPair_2 x0) (spec_DrawRunPair_3 x0) ==
                  spec_IsPair_0 (spec_DrawRunPair_0 x0) (spec_DrawRunPair_1 x0) (spec_DrawRunPair_2 x0) (spec_DrawRunPair_3 x0) then
          true
        else
          !impl_IsPairEvent_0 (spec_DrawStepPair_4 x0) (spec_DrawStepPair_5 x0) (spec_DrawStepPair_6 x0) (spec_DrawStepPair_7 x0) ==
              spec_IsPairEvent_0 (spec_DrawStepPair_4 x0) (spec_DrawStepPair_5 x0) (spec_DrawStepPair_6 x0) (spec_DrawStepPair_7 x0)) ||
        (impl_RunPair_4 (spec_DrawRunPair_0 x0) (spec_DrawRunPair_1 x0) (spec_DrawRunPair_2 x0) (spec_DrawRunPair_3 x0) (spec_DrawRunPair_4 x0) !=
            (0 : Int) ||
          laws_roll_1 (3101 : Int) x0)),
    laws_big_0 x0 ||
      ((bif
            bif
                bif
                    bif
                        bif
                            impl_RunPair_4 (spec_DrawRunPair_0 x0) (spec_DrawRunPair_1 x0) (spec_DrawRunPair_2 x0) (spec_DrawRunPair_3 x0)
                                (spec_DrawRunPair_4 x0) !=
                              spec_RunPair_4 (spec_DrawRunPair_0 x0) (spec_DrawRunPair_1 x0) (spec_DrawRunPair_2 x0) (spec_DrawRunPair_3 x0)
                                (spec_DrawRunPair_4 x0) then
                          true
                        else
                          !bif
                                bif
                                    impl_RunPair_0 (spec_DrawRunPair_0 x0) (spec_DrawRunPair_1 x0) (spec_DrawRunPair_2 x0) (spec_DrawRunPair_3 x0)
                                        (spec_DrawRunPair_4 x0) ==
                                      spec_RunPair_0 (spec_DrawRunPair_0 x0) (spec_DrawRunPair_1 x0) (spec_DrawRunPair_2 x0) (spec_DrawRunPair_3 x0)
                                        (spec_DrawRunPair_4 x0) then
                                  bif
                                      impl_RunPair_1 (spec_DrawRunPair_0 x0) (spec_DrawRunPair_1 x0) (spec_DrawRunPair_2 x0) (spec_DrawRunPair_3 x0)
                                          (spec_DrawRunPair_4 x0) ==
                                        spec_RunPair_1 (spec_DrawRunPair_0 x0) (spec_DrawRunPair_1 x0) (spec_DrawRunPair_2 x0) (spec_DrawRunPair_3 x0)
                                          (spec_DrawRunPair_4 x0) then
                                    true
                                  else false
                                else false then
                              bif
                                  bif
                                      impl_RunPair_2 (spec_DrawRunPair_0 x0) (spec_DrawRunPair_1 x0) (spec_DrawRunPair_2 x0) (spec_DrawRunPair_3 x0)
                                          (spec_DrawRunPair_4 x0) ==
                                        spec_RunPair_2 (spec_DrawRunPair_0 x0) (spec_DrawRunPair_1 x0) (spec_DrawRunPair_2 x0) (spec_DrawRunPair_3 x0)
                                          (spec_DrawRunPair_4 x0) then
                                    bif
                                        impl_RunPair_3 (spec_DrawRunPair_0 x0) (spec_DrawRunPair_1 x0) (spec_DrawRunPair_2 x0) (spec_DrawRunPair_3 x0)
                                            (spec_DrawRunPair_4 x0) ==
                                          spec_RunPair_3 (spec_DrawRunPair_0 x0) (spec_DrawRunPair_1 x0) (spec_DrawRunPair_2 x0)
                                            (spec_DrawRunPair_3 x0) (spec_DrawRunPair_4 x0) then
                                      true
                                    else false
                                  else false then
                                true
                              else false
                            else false then
                      true
                    else
                      impl_StepPair_4 (spec_DrawStepPair_0 x0) (spec_DrawStepPair_1 x0) (spec_DrawStepPair_2 x0) (spec_DrawStepPair_3 x0)
                          (spec_DrawStepPair_4 x0) (spec_DrawStepPair_5 x0) (spec_DrawStepPair_6 x0) (spec_DrawStepPair_7 x0) !=
                        spec_StepPair_4 (spec_DrawStepPair_0 x0) (spec_DrawStepPair_1 x0) (spec_DrawStepPair_2 x0) (spec_DrawStepPair_3 x0)
                          (spec_DrawStepPair_4 x0) (spec_DrawStepPair_5 x0) (spec_DrawStepPair_6 x0) (spec_DrawStepPair_7 x0) then
                  true
                else
                  !bif
                        bif
                            impl_StepPair_0 (spec_DrawStepPair_0 x0) (spec_DrawStepPair_1 x0) (spec_DrawStepPair_2 x0) (spec_DrawStepPair_3 x0)
                                (spec_DrawStepPair_4 x0) (spec_DrawStepPair_5 x0) (spec_DrawStepPair_6 x0) (spec_DrawStepPair_7 x0) ==
                              spec_StepPair_0 (spec_DrawStepPair_0 x0) (spec_DrawStepPair_1 x0) (spec_DrawStepPair_2 x0) (spec_DrawStepPair_3 x0)
                                (spec_DrawStepPair_4 x0) (spec_DrawStepPair_5 x0) (spec_DrawStepPair_6 x0) (spec_DrawStepPair_7 x0) then
                          bif
                              impl_StepPair_1 (spec_DrawStepPair_0 x0) (spec_DrawStepPair_1 x0) (spec_DrawStepPair_2 x0) (spec_DrawStepPair_3 x0)
                                  (spec_DrawStepPair_4 x0) (spec_DrawStepPair_5 x0) (spec_DrawStepPair_6 x0) (spec_DrawStepPair_7 x0) ==
                                spec_StepPair_1 (spec_DrawStepPair_0 x0) (spec_DrawStepPair_1 x0) (spec_DrawStepPair_2 x0) (spec_DrawStepPair_3 x0)
                                  (spec_DrawStepPair_4 x0) (spec_DrawStepPair_5 x0) (spec_DrawStepPair_6 x0) (spec_DrawStepPair_7 x0) then
                            true
                          else false
                        else false then
                      bif
                          bif
                              impl_StepPair_2 (spec_DrawStepPair_0 x0) (spec_DrawStepPair_1 x0) (spec_DrawStepPair_2 x0) (spec_DrawStepPair_3 x0)
                                  (spec_DrawStepPair_4 x0) (spec_DrawStepPair_5 x0) (spec_DrawStepPair_6 x0) (spec_DrawStepPair_7 x0) ==
                                spec_StepPair_2 (spec_DrawStepPair_0 x0) (spec_DrawStepPair_1 x0) (spec_DrawStepPair_2 x0) (spec_DrawStepPair_3 x0)
                                  (spec_DrawStepPair_4 x0) (spec_DrawStepPair_5 x0) (spec_DrawStepPair_6 x0) (spec_DrawStepPair_7 x0) then
                            bif
                                impl_StepPair_3 (spec_DrawStepPair_0 x0) (spec_DrawStepPair_1 x0) (spec_DrawStepPair_2 x0) (spec_DrawStepPair_3 x0)
                                    (spec_DrawStepPair_4 x0) (spec_DrawStepPair_5 x0) (spec_DrawStepPair_6 x0) (spec_DrawStepPair_7 x0) ==
                                  spec_StepPair_3 (spec_DrawStepPair_0 x0) (spec_DrawStepPair_1 x0) (spec_DrawStepPair_2 x0) (spec_DrawStepPair_3 x0)
                                    (spec_DrawStepPair_4 x0) (spec_DrawStepPair_5 x0) (spec_DrawStepPair_6 x0) (spec_DrawStepPair_7 x0) then
                              true
                            else false
                          else false then
                        true
                      else false
                    else false then
              true
            else
              !impl_IsPair_0 (spec_DrawRunPair_0 x0) (spec_DrawRunPair_1 x0) (spec_DrawRunPair_2 x0) (spec_DrawRunPair_3 x0) ==
                  spec_IsPair_0 (spec_DrawRunPair_0 x0) (spec_DrawRunPair_1 x0) (spec_DrawRunPair_2 x0) (spec_DrawRunPair_3 x0) then
          true
        else
          !impl_IsPairEvent_0 (spec_DrawStepPair_4 x0) (spec_DrawStepPair_5 x0) (spec_DrawStepPair_6 x0) (spec_DrawStepPair_7 x0) ==
              spec_IsPairEvent_0 (spec_DrawStepPair_4 x0) (spec_DrawStepPair_5 x0) (spec_DrawStepPair_6 x0) (spec_DrawStepPair_7 x0)) ||
        (impl_RunPair_4 (spec_DrawRunPair_0 x0) (spec_DrawRunPair_1 x0) (spec_DrawRunPair_2 x0) (spec_DrawRunPair_3 x0) (spec_DrawRunPair_4 x0) !=
            (0 : Int) ||
          loop_example_g00916_laws_dice_below_3 (IntKind.wrap IntKind.i64 ((↑(List.length (spec_DrawRunPair_4 x0)) : Int) + (1 : Int))) (0 : Int)
            x0)),
    laws_big_0 x0 ||
      ((bif
            bif
                bif
                    bif
                        bif
                            impl_RunPair_4 (spec_DrawRunPair_0 x0) (spec_DrawRunPair_1 x0) (spec_DrawRunPair_2 x0) (spec_DrawRunPair_3 x0)
                                (spec_DrawRunPair_4 x0) !=
                              spec_RunPair_4 (spec_DrawRunPair_0 x0) (spec_DrawRunPair_1 x0) (spec_DrawRunPair_2 x0) (spec_DrawRunPair_3 x0)
                                (spec_DrawRunPair_4 x0) then
                          true
                        else
                          !bif
                                bif
                                    impl_RunPair_0 (spec_DrawRunPair_0 x0) (spec_DrawRunPair_1 x0) (spec_DrawRunPair_2 x0) (spec_DrawRunPair_3 x0)
                                        (spec_DrawRunPair_4 x0) ==
                                      spec_RunPair_0 (spec_DrawRunPair_0 x0) (spec_DrawRunPair_1 x0) (spec_DrawRunPair_2 x0) (spec_DrawRunPair_3 x0)
                                        (spec_DrawRunPair_4 x0) then
                                  bif
                                      impl_RunPair_1 (spec_DrawRunPair_0 x0) (spec_DrawRunPair_1 x0) (spec_DrawRunPair_2 x0) (spec_DrawRunPair_3 x0)
                                          (spec_DrawRunPair_4 x0) ==
                                        spec_RunPair_1 (spec_DrawRunPair_0 x0) (spec_DrawRunPair_1 x0) (spec_DrawRunPair_2 x0) (spec_DrawRunPair_3 x0)
                                          (spec_DrawRunPair_4 x0) then
                                    true
                                  else false
                                else false then
                              bif
                                  bif
                                      impl_RunPair_2 (spec_DrawRunPair_0 x0) (spec_DrawRunPair_1 x0) (spec_DrawRunPair_2 x0) (spec_DrawRunPair_3 x0)
                                          (spec_DrawRunPair_4 x0) ==
                                        spec_RunPair_2 (spec_DrawRunPair_0 x0) (spec_DrawRunPair_1 x0) (spec_DrawRunPair_2 x0) (spec_DrawRunPair_3 x0)
                                          (spec_DrawRunPair_4 x0) then
                                    bif
                                        impl_RunPair_3 (spec_DrawRunPair_0 x0) (spec_DrawRunPair_1 x0) (spec_DrawRunPair_2 x0) (spec_DrawRunPair_3 x0)
                                            (spec_DrawRunPair_4 x0) ==
                                          spec_RunPair_3 (spec_DrawRunPair_0 x0) (spec_DrawRunPair_1 x0) (spec_DrawRunPair_2 x0)
                                            (spec_DrawRunPair_3 x0) (spec_DrawRunPair_4 x0) then
                                      true
                                    else false
                                  else false then
                                true
                              else false
                            else false then
                      true
                    else
                      impl_StepPair_4 (spec_DrawStepPair_0 x0) (spec_DrawStepPair_1 x0) (spec_DrawStepPair_2 x0) (spec_DrawStepPair_3 x0)
                          (spec_DrawStepPair_4 x0) (spec_DrawStepPair_5 x0) (spec_DrawStepPair_6 x0) (spec_DrawStepPair_7 x0) !=
                        spec_StepPair_4 (spec_DrawStepPair_0 x0) (spec_DrawStepPair_1 x0) (spec_DrawStepPair_2 x0) (spec_DrawStepPair_3 x0)
                          (spec_DrawStepPair_4 x0) (spec_DrawStepPair_5 x0) (spec_DrawStepPair_6 x0) (spec_DrawStepPair_7 x0) then
                  true
                else
                  !bif
                        bif
                            impl_StepPair_0 (spec_DrawStepPair_0 x0) (spec_DrawStepPair_1 x0) (spec_DrawStepPair_2 x0) (spec_DrawStepPair_3 x0)
                                (spec_DrawStepPair_4 x0) (spec_DrawStepPair_5 x0) (spec_DrawStepPair_6 x0) (spec_DrawStepPair_7 x0) ==
                              spec_StepPair_0 (spec_DrawStepPair_0 x0) (spec_DrawStepPair_1 x0) (spec_DrawStepPair_2 x0) (spec_DrawStepPair_3 x0)
                                (spec_DrawStepPair_4 x0) (spec_DrawStepPair_5 x0) (spec_DrawStepPair_6 x0) (spec_DrawStepPair_7 x0) then
                          bif
                              impl_StepPair_1 (spec_DrawStepPair_0 x0) (spec_DrawStepPair_1 x0) (spec_DrawStepPair_2 x0) (spec_DrawStepPair_3 x0)
                                  (spec_DrawStepPair_4 x0) (spec_DrawStepPair_5 x0) (spec_DrawStepPair_6 x0) (spec_DrawStepPair_7 x0) ==
                                spec_StepPair_1 (spec_DrawStepPair_0 x0) (spec_DrawStepPair_1 x0) (spec_DrawStepPair_2 x0) (spec_DrawStepPair_3 x0)
                                  (spec_DrawStepPair_4 x0) (spec_DrawStepPair_5 x0) (spec_DrawStepPair_6 x0) (spec_DrawStepPair_7 x0) then
                            true
                          else false
                        else false then
                      bif
                          bif
                              impl_StepPair_2 (spec_DrawStepPair_0 x0) (spec_DrawStepPair_1 x0) (spec_DrawStepPair_2 x0) (spec_DrawStepPair_3 x0)
                                  (spec_DrawStepPair_4 x0) (spec_DrawStepPair_5 x0) (spec_DrawStepPair_6 x0) (spec_DrawStepPair_7 x0) ==
                                spec_StepPair_2 (spec_DrawStepPair_0 x0) (spec_DrawStepPair_1 x0) (spec_DrawStepPair_2 x0) (spec_DrawStepPair_3 x0)
                                  (spec_DrawStepPair_4 x0) (spec_DrawStepPair_5 x0) (spec_DrawStepPair_6 x0) (spec_DrawStepPair_7 x0) then
                            bif
                                impl_StepPair_3 (spec_DrawStepPair_0 x0) (spec_DrawStepPair_1 x0) (spec_DrawStepPair_2 x0) (spec_DrawStepPair_3 x0)
                                    (spec_DrawStepPair_4 x0) (spec_DrawStepPair_5 x0) (spec_DrawStepPair_6 x0) (spec_DrawStepPair_7 x0) ==
                                  spec_StepPair_3 (spec_DrawStepPair_0 x0) (spec_DrawStepPair_1 x0) (spec_DrawStepPair_2 x0) (spec_DrawStepPair_3 x0)
                                    (spec_DrawStepPair_4 x0) (spec_DrawStepPair_5 x0) (spec_DrawStepPair_6 x0) (spec_DrawStepPair_7 x0) then
                              true
                            else false
                          else false then
                        true
                      else false
                    else false then
              true
            else
              !impl_IsPair_0 (spec_DrawRunPair_0 x0) (spec_DrawRunPair_1 x0) (spec_DrawRunPair_2 x0) (spec_DrawRunPair_3 x0) ==
                  spec_IsPair_0 (spec_DrawRunPair_0 x0) (spec_DrawRunPair_1 x0) (spec_DrawRunPair_2 x0) (spec_DrawRunPair_3 x0) then
          true
        else
          !impl_IsPairEvent_0 (spec_DrawStepPair_4 x0) (spec_DrawStepPair_5 x0) (spec_DrawStepPair_6 x0) (spec_DrawStepPair_7 x0) ==
              spec_IsPairEvent_0 (spec_DrawStepPair_4 x0) (spec_DrawStepPair_5 x0) (spec_DrawStepPair_6 x0) (spec_DrawStepPair_7 x0)) ||
        (impl_RunPair_4 (spec_DrawRunPair_0 x0) (spec_DrawRunPair_1 x0) (spec_DrawRunPair_2 x0) (spec_DrawRunPair_3 x0) (spec_DrawRunPair_4 x0) !=
            (0 : Int) ||
          decide ((0 : Int) ≤ (0 : Int)))),
    laws_big_0 x0 ||
      ((bif
            bif
                bif
                    bif
                        bif
                            impl_RunPair_4 (spec_DrawRunPair_0 x0) (spec_DrawRunPair_1 x0) (spec_DrawRunPair_2 x0) (spec_DrawRunPair_3 x0)
                                (spec_DrawRunPair_4 x0) !=
                              spec_RunPair_4 (spec_DrawRunPair_0 x0) (spec_DrawRunPair_1 x0) (spec_DrawRunPair_2 x0) (spec_DrawRunPair_3 x0)
                                (spec_DrawRunPair_4 x0) then
                          true
                        else
                          !bif
                                bif
                                    impl_RunPair_0 (spec_DrawRunPair_0 x0) (spec_DrawRunPair_1 x0) (spec_DrawRunPair_2 x0) (spec_DrawRunPair_3 x0)
                                        (spec_DrawRunPair_4 x0) ==
                                      spec_RunPair_0 (spec_DrawRunPair_0 x0) (spec_DrawRunPair_1 x0) (spec_DrawRunPair_2 x0) (spec_DrawRunPair_3 x0)
                                        (spec_DrawRunPair_4 x0) then
                                  bif
                                      impl_RunPair_1 (spec_DrawRunPair_0 x0) (spec_DrawRunPair_1 x0) (spec_DrawRunPair_2 x0) (spec_DrawRunPair_3 x0)
                                          (spec_DrawRunPair_4 x0) ==
                                        spec_RunPair_1 (spec_DrawRunPair_0 x0) (spec_DrawRunPair_1 x0) (spec_DrawRunPair_2 x0) (spec_DrawRunPair_3 x0)
                                          (spec_DrawRunPair_4 x0) then
                                    true
                                  else false
                                else false then
                              bif
                                  bif
                                      impl_RunPair_2 (spec_DrawRunPair_0 x0) (spec_DrawRunPair_1 x0) (spec_DrawRunPair_2 x0) (spec_DrawRunPair_3 x0)
                                          (spec_DrawRunPair_4 x0) ==
                                        spec_RunPair_2 (spec_DrawRunPair_0 x0) (spec_DrawRunPair_1 x0) (spec_DrawRunPair_2 x0) (spec_DrawRunPair_3 x0)
                                          (spec_DrawRunPair_4 x0) then
                                    bif
                                        impl_RunPair_3 (spec_DrawRunPair_0 x0) (spec_DrawRunPair_1 x0) (spec_DrawRunPair_2 x0) (spec_DrawRunPair_3 x0)
                                            (spec_DrawRunPair_4 x0) ==
                                          spec_RunPair_3 (spec_DrawRunPair_0 x0) (spec_DrawRunPair_1 x0) (spec_DrawRunPair_2 x0)
                                            (spec_DrawRunPair_3 x0) (spec_DrawRunPair_4 x0) then
                                      true
                                    else false
                                  else false then
                                true
                              else false
                            else false then
                      true
                    else
                      impl_StepPair_4 (spec_DrawStepPair_0 x0) (spec_DrawStepPair_1 x0) (spec_DrawStepPair_2 x0) (spec_DrawStepPair_3 x0)
                          (spec_DrawStepPair_4 x0) (spec_DrawStepPair_5 x0) (spec_DrawStepPair_6 x0) (spec_DrawStepPair_7 x0) !=
                        spec_StepPair_4 (spec_DrawStepPair_0 x0) (spec_DrawStepPair_1 x0) (spec_DrawStepPair_2 x0) (spec_DrawStepPair_3 x0)
                          (spec_DrawStepPair_4 x0) (spec_DrawStepPair_5 x0) (spec_DrawStepPair_6 x0) (spec_DrawStepPair_7 x0) then
                  true
                else
                  !bif
                        bif
                            impl_StepPair_0 (spec_DrawStepPair_0 x0) (spec_DrawStepPair_1 x0) (spec_DrawStepPair_2 x0) (spec_DrawStepPair_3 x0)
                                (spec_DrawStepPair_4 x0) (spec_DrawStepPair_5 x0) (spec_DrawStepPair_6 x0) (spec_DrawStepPair_7 x0) ==
                              spec_StepPair_0 (spec_DrawStepPair_0 x0) (spec_DrawStepPair_1 x0) (spec_DrawStepPair_2 x0) (spec_DrawStepPair_3 x0)
                                (spec_DrawStepPair_4 x0) (spec_DrawStepPair_5 x0) (spec_DrawStepPair_6 x0) (spec_DrawStepPair_7 x0) then
                          bif
                              impl_StepPair_1 (spec_DrawStepPair_0 x0) (spec_DrawStepPair_1 x0) (spec_DrawStepPair_2 x0) (spec_DrawStepPair_3 x0)
                                  (spec_DrawStepPair_4 x0) (spec_DrawStepPair_5 x0) (spec_DrawStepPair_6 x0) (spec_DrawStepPair_7 x0) ==
                                spec_StepPair_1 (spec_DrawStepPair_0 x0) (spec_DrawStepPair_1 x0) (spec_DrawStepPair_2 x0) (spec_DrawStepPair_3 x0)
                                  (spec_DrawStepPair_4 x0) (spec_DrawStepPair_5 x0) (spec_DrawStepPair_6 x0) (spec_DrawStepPair_7 x0) then
                            true
                          else false
                        else false then
                      bif
                          bif
                              impl_StepPair_2 (spec_DrawStepPair_0 x0) (spec_DrawStepPair_1 x0) (spec_DrawStepPair_2 x0) (spec_DrawStepPair_3 x0)
                                  (spec_DrawStepPair_4 x0) (spec_DrawStepPair_5 x0) (spec_DrawStepPair_6 x0) (spec_DrawStepPair_7 x0) ==
                                spec_StepPair_2 (spec_DrawStepPair_0 x0) (spec_DrawStepPair_1 x0) (spec_DrawStepPair_2 x0) (spec_DrawStepPair_3 x0)
                                  (spec_DrawStepPair_4 x0) (spec_DrawStepPair_5 x0) (spec_DrawStepPair_6 x0) (spec_DrawStepPair_7 x0) then
                            bif
                                impl_StepPair_3 (spec_DrawStepPair_0 x0) (spec_DrawStepPair_1 x0) (spec_DrawStepPair_2 x0) (spec_DrawStepPair_3 x0)
                                    (spec_DrawStepPair_4 x0) (spec_DrawStepPair_5 x0) (spec_DrawStepPair_6 x0) (spec_DrawStepPair_7 x0) ==
                                  spec_StepPair_3 (spec_DrawStepPair_0 x0) (spec_DrawStepPair_1 x0) (spec_DrawStepPair_2 x0) (spec_DrawStepPair_3 x0)
                                    (spec_DrawStepPair_4 x0) (spec_DrawStepPair_5 x0) (spec_DrawStepPair_6 x0) (spec_DrawStepPair_7 x0) then
                              true
                            else false
                          else false then
                        true
                      else false
                    else false then
              true
            else
              !impl_IsPair_0 (spec_DrawRunPair_0 x0) (spec_DrawRunPair_1 x0) (spec_DrawRunPair_2 x0) (spec_DrawRunPair_3 x0) ==
                  spec_IsPair_0 (spec_DrawRunPair_0 x0) (spec_DrawRunPair_1 x0) (spec_DrawRunPair_2 x0) (spec_DrawRunPair_3 x0) then
          true
        else
          !impl_IsPairEvent_0 (spec_DrawStepPair_4 x0) (spec_DrawStepPair_5 x0) (spec_DrawStepPair_6 x0) (spec_DrawStepPair_7 x0) ==
              spec_IsPairEvent_0 (spec_DrawStepPair_4 x0) (spec_DrawStepPair_5 x0) (spec_DrawStepPair_6 x0) (spec_DrawStepPair_7 x0)) ||
        (impl_RunPair_4 (spec_DrawRunPair_0 x0) (spec_DrawRunPair_1 x0) (spec_DrawRunPair_2 x0) (spec_DrawRunPair_3 x0) (spec_DrawRunPair_4 x0) !=
            (0 : Int) ||
          decide
            ((0 : Int) ≤
              loop_example_g00916_laws_dice_below_0 (IntKind.wrap IntKind.i64 ((↑(List.length (spec_DrawRunPair_4 x0)) : Int) + (1 : Int))) (0 : Int)
                (laws_roll_0 (3101 : Int) x0) x0))),
    laws_big_0 x0 ||
      ((bif
            bif
                bif
                    bif
                        bif
                            impl_RunPair_4 (spec_DrawRunPair_0 x0) (spec_DrawRunPair_1 x0) (spec_DrawRunPair_2 x0) (spec_DrawRunPair_3 x0)
                                (spec_DrawRunPair_4 x0) !=
                              spec_RunPair_4 (spec_DrawRunPair_0 x0) (spec_DrawRunPair_1 x0) (spec_DrawRunPair_2 x0) (spec_DrawRunPair_3 x0)
                                (spec_DrawRunPair_4 x0) then
                          true
                        else
                          !bif
                                bif
                                    impl_RunPair_0 (spec_DrawRunPair_0 x0) (spec_DrawRunPair_1 x0) (spec_DrawRunPair_2 x0) (spec_DrawRunPair_3 x0)
                                        (spec_DrawRunPair_4 x0) ==
                                      spec_RunPair_0 (spec_DrawRunPair_0 x0) (spec_DrawRunPair_1 x0) (spec_DrawRunPair_2 x0) (spec_DrawRunPair_3 x0)
                                        (spec_DrawRunPair_4 x0) then
                                  bif
                                      impl_RunPair_1 (spec_DrawRunPair_0 x0) (spec_DrawRunPair_1 x0) (spec_DrawRunPair_2 x0) (spec_DrawRunPair_3 x0)
                                          (spec_DrawRunPair_4 x0) ==
                                        spec_RunPair_1 (spec_DrawRunPair_0 x0) (spec_DrawRunPair_1 x0) (spec_DrawRunPair_2 x0) (spec_DrawRunPair_3 x0)
                                          (spec_DrawRunPair_4 x0) then
                                    true
                                  else false
                                else false then
                              bif
                                  bif
                                      impl_RunPair_2 (spec_DrawRunPair_0 x0) (spec_DrawRunPair_1 x0) (spec_DrawRunPair_2 x0) (spec_DrawRunPair_3 x0)
                                          (spec_DrawRunPair_4 x0) ==
                                        spec_RunPair_2 (spec_DrawRunPair_0 x0) (spec_DrawRunPair_1 x0) (spec_DrawRunPair_2 x0) (spec_DrawRunPair_3 x0)
                                          (spec_DrawRunPair_4 x0) then
                                    bif
                                        impl_RunPair_3 (spec_DrawRunPair_0 x0) (spec_DrawRunPair_1 x0) (spec_DrawRunPair_2 x0) (spec_DrawRunPair_3 x0)
                                            (spec_DrawRunPair_4 x0) ==
                                          spec_RunPair_3 (spec_DrawRunPair_0 x0) (spec_DrawRunPair_1 x0) (spec_DrawRunPair_2 x0)
                                            (spec_DrawRunPair_3 x0) (spec_DrawRunPair_4 x0) then
                                      true
                                    else false
                                  else false then
                                true
                              else false
                            else false then
                      true
                    else
                      impl_StepPair_4 (spec_DrawStepPair_0 x0) (spec_DrawStepPair_1 x0) (spec_DrawStepPair_2 x0) (spec_DrawStepPair_3 x0)
                          (spec_DrawStepPair_4 x0) (spec_DrawStepPair_5 x0) (spec_DrawStepPair_6 x0) (spec_DrawStepPair_7 x0) !=
                        spec_StepPair_4 (spec_DrawStepPair_0 x0) (spec_DrawStepPair_1 x0) (spec_DrawStepPair_2 x0) (spec_DrawStepPair_3 x0)
                          (spec_DrawStepPair_4 x0) (spec_DrawStepPair_5 x0) (spec_DrawStepPair_6 x0) (spec_DrawStepPair_7 x0) then
                  true
                else
                  !bif
                        bif
                            impl_StepPair_0 (spec_DrawStepPair_0 x0) (spec_DrawStepPair_1 x0) (spec_DrawStepPair_2 x0) (spec_DrawStepPair_3 x0)
                                (spec_DrawStepPair_4 x0) (spec_DrawStepPair_5 x0) (spec_DrawStepPair_6 x0) (spec_DrawStepPair_7 x0) ==
                              spec_StepPair_0 (spec_DrawStepPair_0 x0) (spec_DrawStepPair_1 x0) (spec_DrawStepPair_2 x0) (spec_DrawStepPair_3 x0)
                                (spec_DrawStepPair_4 x0) (spec_DrawStepPair_5 x0) (spec_DrawStepPair_6 x0) (spec_DrawStepPair_7 x0) then
                          bif
                              impl_StepPair_1 (spec_DrawStepPair_0 x0) (spec_DrawStepPair_1 x0) (spec_DrawStepPair_2 x0) (spec_DrawStepPair_3 x0)
                                  (spec_DrawStepPair_4 x0) (spec_DrawStepPair_5 x0) (spec_DrawStepPair_6 x0) (spec_DrawStepPair_7 x0) ==
                                spec_StepPair_1 (spec_DrawStepPair_0 x0) (spec_DrawStepPair_1 x0) (spec_DrawStepPair_2 x0) (spec_DrawStepPair_3 x0)
                                  (spec_DrawStepPair_4 x0) (spec_DrawStepPair_5 x0) (spec_DrawStepPair_6 x0) (spec_DrawStepPair_7 x0) then
                            true
                          else false
                        else false then
                      bif
                          bif
                              impl_StepPair_2 (spec_DrawStepPair_0 x0) (spec_DrawStepPair_1 x0) (spec_DrawStepPair_2 x0) (spec_DrawStepPair_3 x0)
                                  (spec_DrawStepPair_4 x0) (spec_DrawStepPair_5 x0) (spec_DrawStepPair_6 x0) (spec_DrawStepPair_7 x0) ==
                                spec_StepPair_2 (spec_DrawStepPair_0 x0) (spec_DrawStepPair_1 x0) (spec_DrawStepPair_2 x0) (spec_DrawStepPair_3 x0)
                                  (spec_DrawStepPair_4 x0) (spec_DrawStepPair_5 x0) (spec_DrawStepPair_6 x0) (spec_DrawStepPair_7 x0) then
                            bif
                                impl_StepPair_3 (spec_DrawStepPair_0 x0) (spec_DrawStepPair_1 x0) (spec_DrawStepPair_2 x0) (spec_DrawStepPair_3 x0)
                                    (spec_DrawStepPair_4 x0) (spec_DrawStepPair_5 x0) (spec_DrawStepPair_6 x0) (spec_DrawStepPair_7 x0) ==
                                  spec_StepPair_3 (spec_DrawStepPair_0 x0) (spec_DrawStepPair_1 x0) (spec_DrawStepPair_2 x0) (spec_DrawStepPair_3 x0)
                                    (spec_DrawStepPair_4 x0) (spec_DrawStepPair_5 x0) (spec_DrawStepPair_6 x0) (spec_DrawStepPair_7 x0) then
                              true
                            else false
                          else false then
                        true
                      else false
                    else false then
              true
            else
              !impl_IsPair_0 (spec_DrawRunPair_0 x0) (spec_DrawRunPair_1 x0) (spec_DrawRunPair_2 x0) (spec_DrawRunPair_3 x0) ==
                  spec_IsPair_0 (spec_DrawRunPair_0 x0) (spec_DrawRunPair_1 x0) (spec_DrawRunPair_2 x0) (spec_DrawRunPair_3 x0) then
          true
        else
          !impl_IsPairEvent_0 (spec_DrawStepPair_4 x0) (spec_DrawStepPair_5 x0) (spec_DrawStepPair_6 x0) (spec_DrawStepPair_7 x0) ==
              spec_IsPairEvent_0 (spec_DrawStepPair_4 x0) (spec_DrawStepPair_5 x0) (spec_DrawStepPair_6 x0) (spec_DrawStepPair_7 x0)) ||
        (impl_RunPair_4 (spec_DrawRunPair_0 x0) (spec_DrawRunPair_1 x0) (spec_DrawRunPair_2 x0) (spec_DrawRunPair_3 x0) (spec_DrawRunPair_4 x0) !=
            (0 : Int) ||
          decide
            (loop_example_g00916_laws_dice_below_0 (IntKind.wrap IntKind.i64 ((↑(List.length (spec_DrawRunPair_4 x0)) : Int) + (1 : Int))) (0 : Int)
                (laws_roll_0 (3101 : Int) x0) x0 ≤
              (↑(List.length (spec_DrawRunPair_4 x0)) : Int)))),
    laws_big_0 x0 ||
      ((bif
            bif
                bif
                    bif
                        bif
                            impl_RunPair_4 (spec_DrawRunPair_0 x0) (spec_DrawRunPair_1 x0) (spec_DrawRunPair_2 x0) (spec_DrawRunPair_3 x0)
                                (spec_DrawRunPair_4 x0) !=
                              spec_RunPair_4 (spec_DrawRunPair_0 x0) (spec_DrawRunPair_1 x0) (spec_DrawRunPair_2 x0) (spec_DrawRunPair_3 x0)
                                (spec_DrawRunPair_4 x0) then
                          true
                        else
                          !bif
                                bif
                                    impl_RunPair_0 (spec_DrawRunPair_0 x0) (spec_DrawRunPair_1 x0) (spec_DrawRunPair_2 x0) (spec_DrawRunPair_3 x0)
                                        (spec_DrawRunPair_4 x0) ==
                                      spec_RunPair_0 (spec_DrawRunPair_0 x0) (spec_DrawRunPair_1 x0) (spec_DrawRunPair_2 x0) (spec_DrawRunPair_3 x0)
                                        (spec_DrawRunPair_4 x0) then
                                  bif
                                      impl_RunPair_1 (spec_DrawRunPair_0 x0) (spec_DrawRunPair_1 x0) (spec_DrawRunPair_2 x0) (spec_DrawRunPair_3 x0)
                                          (spec_DrawRunPair_4 x0) ==
                                        spec_RunPair_1 (spec_DrawRunPair_0 x0) (spec_DrawRunPair_1 x0) (spec_DrawRunPair_2 x0) (spec_DrawRunPair_3 x0)
                                          (spec_DrawRunPair_4 x0) then
                                    true
                                  else false
                                else false then
                              bif
                                  bif
                                      impl_RunPair_2 (spec_DrawRunPair_0 x0) (spec_DrawRunPair_1 x0) (spec_DrawRunPair_2 x0) (spec_DrawRunPair_3 x0)
                                          (spec_DrawRunPair_4 x0) ==
                                        spec_RunPair_2 (spec_DrawRunPair_0 x0) (spec_DrawRunPair_1 x0) (spec_DrawRunPair_2 x0) (spec_DrawRunPair_3 x0)
                                          (spec_DrawRunPair_4 x0) then
                                    bif
                                        impl_RunPair_3 (spec_DrawRunPair_0 x0) (spec_DrawRunPair_1 x0) (spec_DrawRunPair_2 x0) (spec_DrawRunPair_3 x0)
                                            (spec_DrawRunPair_4 x0) ==
                                          spec_RunPair_3 (spec_DrawRunPair_0 x0) (spec_DrawRunPair_1 x0) (spec_DrawRunPair_2 x0)
                                            (spec_DrawRunPair_3 x0) (spec_DrawRunPair_4 x0) then
                                      true
                                    else false
                                  else false then
                                true
                              else false
                            else false then
                      true
                    else
                      impl_StepPair_4 (spec_DrawStepPair_0 x0) (spec_DrawStepPair_1 x0) (spec_DrawStepPair_2 x0) (spec_DrawStepPair_3 x0)
                          (spec_DrawStepPair_4 x0) (spec_DrawStepPair_5 x0) (spec_DrawStepPair_6 x0) (spec_DrawStepPair_7 x0) !=
                        spec_StepPair_4 (spec_DrawStepPair_0 x0) (spec_DrawStepPair_1 x0) (spec_DrawStepPair_2 x0) (spec_DrawStepPair_3 x0)
                          (spec_DrawStepPair_4 x0) (spec_DrawStepPair_5 x0) (spec_DrawStepPair_6 x0) (spec_DrawStepPair_7 x0) then
                  true
                else
                  !bif
                        bif
                            impl_StepPair_0 (spec_DrawStepPair_0 x0) (spec_DrawStepPair_1 x0) (spec_DrawStepPair_2 x0) (spec_DrawStepPair_3 x0)
                                (spec_DrawStepPair_4 x0) (spec_DrawStepPair_5 x0) (spec_DrawStepPair_6 x0) (spec_DrawStepPair_7 x0) ==
                              spec_StepPair_0 (spec_DrawStepPair_0 x0) (spec_DrawStepPair_1 x0) (spec_DrawStepPair_2 x0) (spec_DrawStepPair_3 x0)
                                (spec_DrawStepPair_4 x0) (spec_DrawStepPair_5 x0) (spec_DrawStepPair_6 x0) (spec_DrawStepPair_7 x0) then
                          bif
                              impl_StepPair_1 (spec_DrawStepPair_0 x0) (spec_DrawStepPair_1 x0) (spec_DrawStepPair_2 x0) (spec_DrawStepPair_3 x0)
                                  (spec_DrawStepPair_4 x0) (spec_DrawStepPair_5 x0) (spec_DrawStepPair_6 x0) (spec_DrawStepPair_7 x0) ==
                                spec_StepPair_1 (spec_DrawStepPair_0 x0) (spec_DrawStepPair_1 x0) (spec_DrawStepPair_2 x0) (spec_DrawStepPair_3 x0)
                                  (spec_DrawStepPair_4 x0) (spec_DrawStepPair_5 x0) (spec_DrawStepPair_6 x0) (spec_DrawStepPair_7 x0) then
                            true
                          else false
                        else false then
                      bif
                          bif
                              impl_StepPair_2 (spec_DrawStepPair_0 x0) (spec_DrawStepPair_1 x0) (spec_DrawStepPair_2 x0) (spec_DrawStepPair_3 x0)
                                  (spec_DrawStepPair_4 x0) (spec_DrawStepPair_5 x0) (spec_DrawStepPair_6 x0) (spec_DrawStepPair_7 x0) ==
                                spec_StepPair_2 (spec_DrawStepPair_0 x0) (spec_DrawStepPair_1 x0) (spec_DrawStepPair_2 x0) (spec_DrawStepPair_3 x0)
                                  (spec_DrawStepPair_4 x0) (spec_DrawStepPair_5 x0) (spec_DrawStepPair_6 x0) (spec_DrawStepPair_7 x0) then
                            bif
                                impl_StepPair_3 (spec_DrawStepPair_0 x0) (spec_DrawStepPair_1 x0) (spec_DrawStepPair_2 x0) (spec_DrawStepPair_3 x0)
                                    (spec_DrawStepPair_4 x0) (spec_DrawStepPair_5 x0) (spec_DrawStepPair_6 x0) (spec_DrawStepPair_7 x0) ==
                                  spec_StepPair_3 (spec_DrawStepPair_0 x0) (spec_DrawStepPair_1 x0) (spec_DrawStepPair_2 x0) (spec_DrawStepPair_3 x0)
                                    (spec_DrawStepPair_4 x0) (spec_DrawStepPair_5 x0) (spec_DrawStepPair_6 x0) (spec_DrawStepPair_7 x0) then
                              true
                            else false
                          else false then
                        true
                      else false
                    else false then
              true
            else
              !impl_IsPair_0 (spec_DrawRunPair_0 x0) (spec_DrawRunPair_1 x0) (spec_DrawRunPair_2 x0) (spec_DrawRunPair_3 x0) ==
                  spec_IsPair_0 (spec_DrawRunPair_0 x0) (spec_DrawRunPair_1 x0) (spec_DrawRunPair_2 x0) (spec_DrawRunPair_3 x0) then
          true
        else
          !impl_IsPairEvent_0 (spec_DrawStepPair_4 x0) (spec_DrawStepPair_5 x0) (spec_DrawStepPair_6 x0) (spec_DrawStepPair_7 x0) ==
              spec_IsPairEvent_0 (spec_DrawStepPair_4 x0) (spec_DrawStepPair_5 x0) (spec_DrawStepPair_6 x0) (spec_DrawStepPair_7 x0)) ||
        (impl_RunPair_4 (spec_DrawRunPair_0 x0) (spec_DrawRunPair_1 x0) (spec_DrawRunPair_2 x0) (spec_DrawRunPair_3 x0) (spec_DrawRunPair_4 x0) !=
            (0 : Int) ||
          impl_RunPair_5 (spec_DrawRunPair_0 x0) (spec_DrawRunPair_1 x0) (spec_DrawRunPair_2 x0) (spec_DrawRunPair_3 x0)
            (List.drop (Int.toNat (0 : Int))
              (List.take
                (Int.toNat
                  (loop_example_g00916_laws_dice_below_0 (IntKind.wrap IntKind.i64 ((↑(List.length (spec_DrawRunPair_4 x0)) : Int) + (1 : Int)))
                    (0 : Int) (laws_roll_0 (3101 : Int) x0) x0))
                (spec_DrawRunPair_4 x0))))),
    laws_big_0 x0 ||
      ((bif
            bif
                bif
                    bif
                        bif
                            impl_RunPair_4 (spec_DrawRunPair_0 x0) (spec_DrawRunPair_1 x0) (spec_DrawRunPair_2 x0) (spec_DrawRunPair_3 x0)
                                (spec_DrawRunPair_4 x0) !=
                              spec_RunPair_4 (spec_DrawRunPair_0 x0) (spec_DrawRunPair_1 x0) (spec_DrawRunPair_2 x0) (spec_DrawRunPair_3 x0)
                                (spec_DrawRunPair_4 x0) then
                          true
                        else
                          !bif
                                bif
                                    impl_RunPair_0 (spec_DrawRunPair_0 x0) (spec_DrawRunPair_1 x0) (spec_DrawRunPair_2 x0) (spec_DrawRunPair_3 x0)
                                        (spec_DrawRunPair_4 x0) ==
                                      spec_RunPair_0 (spec_DrawRunPair_0 x0) (spec_DrawRunPair_1 x0) (spec_DrawRunPair_2 x0) (spec_DrawRunPair_3 x0)
                                        (spec_DrawRunPair_4 x0) then
                                  bif
                                      impl_RunPair_1 (spec_DrawRunPair_0 x0) (spec_DrawRunPair_1 x0) (spec_DrawRunPair_2 x0) (spec_DrawRunPair_3 x0)
                                          (spec_DrawRunPair_4 x0) ==
                                        spec_RunPair_1 (spec_DrawRunPair_0 x0) (spec_DrawRunPair_1 x0) (spec_DrawRunPair_2 x0) (spec_DrawRunPair_3 x0)
                                          (spec_DrawRunPair_4 x0) then
                                    true
                                  else false
                                else false then
                              bif
                                  bif
                                      impl_RunPair_2 (spec_DrawRunPair_0 x0) (spec_DrawRunPair_1 x0) (spec_DrawRunPair_2 x0) (spec_DrawRunPair_3 x0)
                                          (spec_DrawRunPair_4 x0) ==
                                        spec_RunPair_2 (spec_DrawRunPair_0 x0) (spec_DrawRunPair_1 x0) (spec_DrawRunPair_2 x0) (spec_DrawRunPair_3 x0)
                                          (spec_DrawRunPair_4 x0) then
                                    bif
                                        impl_RunPair_3 (spec_DrawRunPair_0 x0) (spec_DrawRunPair_1 x0) (spec_DrawRunPair_2 x0) (spec_DrawRunPair_3 x0)
                                            (spec_DrawRunPair_4 x0) ==
                                          spec_RunPair_3 (spec_DrawRunPair_0 x0) (spec_DrawRunPair_1 x0) (spec_DrawRunPair_2 x0)
                                            (spec_DrawRunPair_3 x0) (spec_DrawRunPair_4 x0) then
                                      true
                                    else false
                                  else false then
                                true
                              else false
                            else false then
                      true
                    else
                      impl_StepPair_4 (spec_DrawStepPair_0 x0) (spec_DrawStepPair_1 x0) (spec_DrawStepPair_2 x0) (spec_DrawStepPair_3 x0)
                          (spec_DrawStepPair_4 x0) (spec_DrawStepPair_5 x0) (spec_DrawStepPair_6 x0) (spec_DrawStepPair_7 x0) !=
                        spec_StepPair_4 (spec_DrawStepPair_0 x0) (spec_DrawStepPair_1 x0) (spec_DrawStepPair_2 x0) (spec_DrawStepPair_3 x0)
                          (spec_DrawStepPair_4 x0) (spec_DrawStepPair_5 x0) (spec_DrawStepPair_6 x0) (spec_DrawStepPair_7 x0) then
                  true
                else
                  !bif
                        bif
                            impl_StepPair_0 (spec_DrawStepPair_0 x0) (spec_DrawStepPair_1 x0) (spec_DrawStepPair_2 x0) (spec_DrawStepPair_3 x0)
                                (spec_DrawStepPair_4 x0) (spec_DrawStepPair_5 x0) (spec_DrawStepPair_6 x0) (spec_DrawStepPair_7 x0) ==
                              spec_StepPair_0 (spec_DrawStepPair_0 x0) (spec_DrawStepPair_1 x0) (spec_DrawStepPair_2 x0) (spec_DrawStepPair_3 x0)
                                (spec_DrawStepPair_4 x0) (spec_DrawStepPair_5 x0) (spec_DrawStepPair_6 x0) (spec_DrawStepPair_7 x0) then
                          bif
                              impl_StepPair_1 (spec_DrawStepPair_0 x0) (spec_DrawStepPair_1 x0) (spec_DrawStepPair_2 x0) (spec_DrawStepPair_3 x0)
                                  (spec_DrawStepPair_4 x0) (spec_DrawStepPair_5 x0) (spec_DrawStepPair_6 x0) (spec_DrawStepPair_7 x0) ==
                                spec_StepPair_1 (spec_DrawStepPair_0 x0) (spec_DrawStepPair_1 x0) (spec_DrawStepPair_2 x0) (spec_DrawStepPair_3 x0)
                                  (spec_DrawStepPair_4 x0) (spec_DrawStepPair_5 x0) (spec_DrawStepPair_6 x0) (spec_DrawStepPair_7 x0) then
                            true
                          else false
                        else false then
                      bif
                          bif
                              impl_StepPair_2 (spec_DrawStepPair_0 x0) (spec_DrawStepPair_1 x0) (spec_DrawStepPair_2 x0) (spec_DrawStepPair_3 x0)
                                  (spec_DrawStepPair_4 x0) (spec_DrawStepPair_5 x0) (spec_DrawStepPair_6 x0) (spec_DrawStepPair_7 x0) ==
                                spec_StepPair_2 (spec_DrawStepPair_0 x0) (spec_DrawStepPair_1 x0) (spec_DrawStepPair_2 x0) (spec_DrawStepPair_3 x0)
                                  (spec_DrawStepPair_4 x0) (spec_DrawStepPair_5 x0) (spec_DrawStepPair_6 x0) (spec_DrawStepPair_7 x0) then
                            bif
                                impl_StepPair_3 (spec_DrawStepPair_0 x0) (spec_DrawStepPair_1 x0) (spec_DrawStepPair_2 x0) (spec_DrawStepPair_3 x0)
                                    (spec_DrawStepPair_4 x0) (spec_DrawStepPair_5 x0) (spec_DrawStepPair_6 x0) (spec_DrawStepPair_7 x0) ==
                                  spec_StepPair_3 (spec_DrawStepPair_0 x0) (spec_DrawStepPair_1 x0) (spec_DrawStepPair_2 x0) (spec_DrawStepPair_3 x0)
                                    (spec_DrawStepPair_4 x0) (spec_DrawStepPair_5 x0) (spec_DrawStepPair_6 x0) (spec_DrawStepPair_7 x0) then
                              true
                            else false
                          else false then
                        true
                      else false
                    else false then
              true
            else
              !impl_IsPair_0 (spec_DrawRunPair_0 x0) (spec_DrawRunPair_1 x0) (spec_DrawRunPair_2 x0) (spec_DrawRunPair_3 x0) ==
                  spec_IsPair_0 (spec_DrawRunPair_0 x0) (spec_DrawRunPair_1 x0) (spec_DrawRunPair_2 x0) (spec_DrawRunPair_3 x0) then
          true
        else
          !impl_IsPairEvent_0 (spec_DrawStepPair_4 x0) (spec_DrawStepPair_5 x0) (spec_DrawStepPair_6 x0) (spec_DrawStepPair_7 x0) ==
              spec_IsPairEvent_0 (spec_DrawStepPair_4 x0) (spec_DrawStepPair_5 x0) (spec_DrawStepPair_6 x0) (spec_DrawStepPair_7 x0)) ||
        (impl_RunPair_4 (spec_DrawRunPair_0 x0) (spec_DrawRunPair_1 x0) (spec_DrawRunPair_2 x0) (spec_DrawRunPair_3 x0) (spec_DrawRunPair_4 x0) !=
            (0 : Int) ||
          decide
            ((0 : Int) ≤
              loop_example_g00916_laws_dice_below_0 (IntKind.wrap IntKind.i64 ((↑(List.length (spec_DrawRunPair_4 x0)) : Int) + (1 : Int))) (0 : Int)
                (laws_roll_0 (3101 : Int) x0) x0))),
    laws_big_0 x0 ||
      ((bif
            bif
                bif
                    bif
                        bif
                            impl_RunPair_4 (spec_DrawRunPair_0 x0) (spec_DrawRunPair_1 x0) (spec_DrawRunPair_2 x0) (spec_DrawRunPair_3 x0)
                                (spec_DrawRunPair_4 x0) !=
                              spec_RunPair_4 (spec_DrawRunPair_0 x0) (spec_DrawRunPair_1 x0) (spec_DrawRunPair_2 x0) (spec_DrawRunPair_3 x0)
                                (spec_DrawRunPair_4 x0) then
                          true
                        else
                          !bif
                                bif
                                    impl_RunPair_0 (spec_DrawRunPair_0 x0) (spec_DrawRunPair_1 x0) (spec_DrawRunPair_2 x0) (spec_DrawRunPair_3 x0)
                                        (spec_DrawRunPair_4 x0) ==
                                      spec_RunPair_0 (spec_DrawRunPair_0 x0) (spec_DrawRunPair_1 x0) (spec_DrawRunPair_2 x0) (spec_DrawRunPair_3 x0)
                                        (spec_DrawRunPair_4 x0) then
                                  bif
                                      impl_RunPair_1 (spec_DrawRunPair_0 x0) (spec_DrawRunPair_1 x0) (spec_DrawRunPair_2 x0) (spec_DrawRunPair_3 x0)
                                          (spec_DrawRunPair_4 x0) ==
                                        spec_RunPair_1 (spec_DrawRunPair_0 x0) (spec_DrawRunPair_1 x0) (spec_DrawRunPair_2 x0) (spec_DrawRunPair_3 x0)
                                          (spec_DrawRunPair_4 x0) then
                                    true
                                  else false
                                else false then
                              bif
                                  bif
                                      impl_RunPair_2 (spec_DrawRunPair_0 x0) (spec_DrawRunPair_1 x0) (spec_DrawRunPair_2 x0) (spec_DrawRunPair_3 x0)
                                          (spec_DrawRunPair_4 x0) ==
                                        spec_RunPair_2 (spec_DrawRunPair_0 x0) (spec_DrawRunPair_1 x0) (spec_DrawRunPair_2 x0) (spec_DrawRunPair_3 x0)
                                          (spec_DrawRunPair_4 x0) then
                                    bif
                                        impl_RunPair_3 (spec_DrawRunPair_0 x0) (spec_DrawRunPair_1 x0) (spec_DrawRunPair_2 x0) (spec_DrawRunPair_3 x0)
                                            (spec_DrawRunPair_4 x0) ==
                                          spec_RunPair_3 (spec_DrawRunPair_0 x0) (spec_DrawRunPair_1 x0) (spec_DrawRunPair_2 x0)
                                            (spec_DrawRunPair_3 x0) (spec_DrawRunPair_4 x0) then
                                      true
                                    else false
                                  else false then
                                true
                              else false
                            else false then
                      true
                    else
                      impl_StepPair_4 (spec_DrawStepPair_0 x0) (spec_DrawStepPair_1 x0) (spec_DrawStepPair_2 x0) (spec_DrawStepPair_3 x0)
                          (spec_DrawStepPair_4 x0) (spec_DrawStepPair_5 x0) (spec_DrawStepPair_6 x0) (spec_DrawStepPair_7 x0) !=
                        spec_StepPair_4 (spec_DrawStepPair_0 x0) (spec_DrawStepPair_1 x0) (spec_DrawStepPair_2 x0) (spec_DrawStepPair_3 x0)
                          (spec_DrawStepPair_4 x0) (spec_DrawStepPair_5 x0) (spec_DrawStepPair_6 x0) (spec_DrawStepPair_7 x0) then
                  true
                else
                  !bif
                        bif
                            impl_StepPair_0 (spec_DrawStepPair_0 x0) (spec_DrawStepPair_1 x0) (spec_DrawStepPair_2 x0) (spec_DrawStepPair_3 x0)
                                (spec_DrawStepPair_4 x0) (spec_DrawStepPair_5 x0) (spec_DrawStepPair_6 x0) (spec_DrawStepPair_7 x0) ==
                              spec_StepPair_0 (spec_DrawStepPair_0 x0) (spec_DrawStepPair_1 x0) (spec_DrawStepPair_2 x0) (spec_DrawStepPair_3 x0)
                                (spec_DrawStepPair_4 x0) (spec_DrawStepPair_5 x0) (spec_DrawStepPair_6 x0) (spec_DrawStepPair_7 x0) then
                          bif
                              impl_StepPair_1 (spec_DrawStepPair_0 x0) (spec_DrawStepPair_1 x0) (spec_DrawStepPair_2 x0) (spec_DrawStepPair_3 x0)
                                  (spec_DrawStepPair_4 x0) (spec_DrawStepPair_5 x0) (spec_DrawStepPair_6 x0) (spec_DrawStepPair_7 x0) ==
                                spec_StepPair_1 (spec_DrawStepPair_0 x0) (spec_DrawStepPair_1 x0) (spec_DrawStepPair_2 x0) (spec_DrawStepPair_3 x0)
                                  (spec_DrawStepPair_4 x0) (spec_DrawStepPair_5 x0) (spec_DrawStepPair_6 x0) (spec_DrawStepPair_7 x0) then
                            true
                          else false
                        else false then
                      bif
                          bif
                              impl_StepPair_2 (spec_DrawStepPair_0 x0) (spec_DrawStepPair_1 x0) (spec_DrawStepPair_2 x0) (spec_DrawStepPair_3 x0)
                                  (spec_DrawStepPair_4 x0) (spec_DrawStepPair_5 x0) (spec_DrawStepPair_6 x0) (spec_DrawStepPair_7 x0) ==
                                spec_StepPair_2 (spec_DrawStepPair_0 x0) (spec_DrawStepPair_1 x0) (spec_DrawStepPair_2 x0) (spec_DrawStepPair_3 x0)
                                  (spec_DrawStepPair_4 x0) (spec_DrawStepPair_5 x0) (spec_DrawStepPair_6 x0) (spec_DrawStepPair_7 x0) then
                            bif
                                impl_StepPair_3 (spec_DrawStepPair_0 x0) (spec_DrawStepPair_1 x0) (spec_DrawStepPair_2 x0) (spec_DrawStepPair_3 x0)
                                    (spec_DrawStepPair_4 x0) (spec_DrawStepPair_5 x0) (spec_DrawStepPair_6 x0) (spec_DrawStepPair_7 x0) ==
                                  spec_StepPair_3 (spec_DrawStepPair_0 x0) (spec_DrawStepPair_1 x0) (spec_DrawStepPair_2 x0) (spec_DrawStepPair_3 x0)
                                    (spec_DrawStepPair_4 x0) (spec_DrawStepPair_5 x0) (spec_DrawStepPair_6 x0) (spec_DrawStepPair_7 x0) then
                              true
                            else false
                          else false then
                        true
                      else false
                    else false then
              true
            else
              !impl_IsPair_0 (spec_DrawRunPair_0 x0) (spec_DrawRunPair_1 x0) (spec_DrawRunPair_2 x0) (spec_DrawRunPair_3 x0) ==
                  spec_IsPair_0 (spec_DrawRunPair_0 x0) (spec_DrawRunPair_1 x0) (spec_DrawRunPair_2 x0) (spec_DrawRunPair_3 x0) then
          true
        else
          !impl_IsPairEvent_0 (spec_DrawStepPair_4 x0) (spec_DrawStepPair_5 x0) (spec_DrawStepPair_6 x0) (spec_DrawStepPair_7 x0) ==
              spec_IsPairEvent_0 (spec_DrawStepPair_4 x0) (spec_DrawStepPair_5 x0) (spec_DrawStepPair_6 x0) (spec_DrawStepPair_7 x0)) ||
        (impl_RunPair_4 (spec_DrawRunPair_0 x0) (spec_DrawRunPair_1 x0) (spec_DrawRunPair_2 x0) (spec_DrawRunPair_3 x0) (spec_DrawRunPair_4 x0) !=
            (0 : Int) ||
          decide
            (loop_example_g00916_laws_dice_below_0 (IntKind.wrap IntKind.i64 ((↑(List.length (spec_DrawRunPair_4 x0)) : Int) + (1 : Int))) (0 : Int)
                (laws_roll_0 (3101 : Int) x0) x0 ≤
              (↑(List.length (spec_DrawRunPair_4 x0)) : Int)))),
    laws_big_0 x0 ||
      ((bif
            bif
                bif
                    bif
                        bif
                            impl_RunPair_4 (spec_DrawRunPair_0 x0) (spec_DrawRunPair_1 x0) (spec_DrawRunPair_2 x0) (spec_DrawRunPair_3 x0)
                                (spec_DrawRunPair_4 x0) !=
                              spec_RunPair_4 (spec_DrawRunPair_0 x0) (spec_DrawRunPair_1 x0) (spec_DrawRunPair_2 x0) (spec_DrawRunPair_3 x0)
                                (spec_DrawRunPair_4 x0) then
                          true
                        else
                          !bif
                                bif
                                    impl_RunPair_0 (spec_DrawRunPair_0 x0) (spec_DrawRunPair_1 x0) (spec_DrawRunPair_2 x0) (spec_DrawRunPair_3 x0)
                                        (spec_DrawRunPair_4 x0) ==
                                      spec_RunPair_0 (spec_DrawRunPair_0 x0) (spec_DrawRunPair_1 x0) (spec_DrawRunPair_2 x0) (spec_DrawRunPair_3 x0)
                                        (spec_DrawRunPair_4 x0) then
                                  bif
                                      impl_RunPair_1 (spec_DrawRunPair_0 x0) (spec_DrawRunPair_1 x0) (spec_DrawRunPair_2 x0) (spec_DrawRunPair_3 x0)
                                          (spec_DrawRunPair_4 x0) ==
                                        spec_RunPair_1 (spec_DrawRunPair_0 x0) (spec_DrawRunPair_1 x0) (spec_DrawRunPair_2 x0) (spec_DrawRunPair_3 x0)
                                          (spec_DrawRunPair_4 x0) then
                                    true
                                  else false
                                else false then
                              bif
                                  bif
                                      impl_RunPair_2 (spec_DrawRunPair_0 x0) (spec_DrawRunPair_1 x0) (spec_DrawRunPair_2 x0) (spec_DrawRunPair_3 x0)
                                          (spec_DrawRunPair_4 x0) ==
                                        spec_RunPair_2 (spec_DrawRunPair_0 x0) (spec_DrawRunPair_1 x0) (spec_DrawRunPair_2 x0) (spec_DrawRunPair_3 x0)
                                          (spec_DrawRunPair_4 x0) then
                                    bif
                                        impl_RunPair_3 (spec_DrawRunPair_0 x0) (spec_DrawRunPair_1 x0) (spec_DrawRunPair_2 x0) (spec_DrawRunPair_3 x0)
                                            (spec_DrawRunPair_4 x0) ==
                                          spec_RunPair_3 (spec_DrawRunPair_0 x0) (spec_DrawRunPair_1 x0) (spec_DrawRunPair_2 x0)
                                            (spec_DrawRunPair_3 x0) (spec_DrawRunPair_4 x0) then
                                      true
                                    else false
                                  else false then
                                true
                              else false
                            else false then
                      true
                    else
                      impl_StepPair_4 (spec_DrawStepPair_0 x0) (spec_DrawStepPair_1 x0) (spec_DrawStepPair_2 x0) (spec_DrawStepPair_3 x0)
                          (spec_DrawStepPair_4 x0) (spec_DrawStepPair_5 x0) (spec_DrawStepPair_6 x0) (spec_DrawStepPair_7 x0) !=
                        spec_StepPair_4 (spec_DrawStepPair_0 x0) (spec_DrawStepPair_1 x0) (spec_DrawStepPair_2 x0) (spec_DrawStepPair_3 x0)
                          (spec_DrawStepPair_4 x0) (spec_DrawStepPair_5 x0) (spec_DrawStepPair_6 x0) (spec_DrawStepPair_7 x0) then
                  true
                else
                  !bif
                        bif
                            impl_StepPair_0 (spec_DrawStepPair_0 x0) (spec_DrawStepPair_1 x0) (spec_DrawStepPair_2 x0) (spec_DrawStepPair_3 x0)
                                (spec_DrawStepPair_4 x0) (spec_DrawStepPair_5 x0) (spec_DrawStepPair_6 x0) (spec_DrawStepPair_7 x0) ==
                              spec_StepPair_0 (spec_DrawStepPair_0 x0) (spec_DrawStepPair_1 x0) (spec_DrawStepPair_2 x0) (spec_DrawStepPair_3 x0)
                                (spec_DrawStepPair_4 x0) (spec_DrawStepPair_5 x0) (spec_DrawStepPair_6 x0) (spec_DrawStepPair_7 x0) then
                          bif
                              impl_StepPair_1 (spec_DrawStepPair_0 x0) (spec_DrawStepPair_1 x0) (spec_DrawStepPair_2 x0) (spec_DrawStepPair_3 x0)
                                  (spec_DrawStepPair_4 x0) (spec_DrawStepPair_5 x0) (spec_DrawStepPair_6 x0) (spec_DrawStepPair_7 x0) ==
                                spec_StepPair_1 (spec_DrawStepPair_0 x0) (spec_DrawStepPair_1 x0) (spec_DrawStepPair_2 x0) (spec_DrawStepPair_3 x0)
                                  (spec_DrawStepPair_4 x0) (spec_DrawStepPair_5 x0) (spec_DrawStepPair_6 x0) (spec_DrawStepPair_7 x0) then
                            true
                          else false
                        else false then
                      bif
                          bif
                              impl_StepPair_2 (spec_DrawStepPair_0 x0) (spec_DrawStepPair_1 x0) (spec_DrawStepPair_2 x0) (spec_DrawStepPair_3 x0)
                                  (spec_DrawStepPair_4 x0) (spec_DrawStepPair_5 x0) (spec_DrawStepPair_6 x0) (spec_DrawStepPair_7 x0) ==
                                spec_StepPair_2 (spec_DrawStepPair_0 x0) (spec_DrawStepPair_1 x0) (spec_DrawStepPair_2 x0) (spec_DrawStepPair_3 x0)
                                  (spec_DrawStepPair_4 x0) (spec_DrawStepPair_5 x0) (spec_DrawStepPair_6 x0) (spec_DrawStepPair_7 x0) then
                            bif
                                impl_StepPair_3 (spec_DrawStepPair_0 x0) (spec_DrawStepPair_1 x0) (spec_DrawStepPair_2 x0) (spec_DrawStepPair_3 x0)
                                    (spec_DrawStepPair_4 x0) (spec_DrawStepPair_5 x0) (spec_DrawStepPair_6 x0) (spec_DrawStepPair_7 x0) ==
                                  spec_StepPair_3 (spec_DrawStepPair_0 x0) (spec_DrawStepPair_1 x0) (spec_DrawStepPair_2 x0) (spec_DrawStepPair_3 x0)
                                    (spec_DrawStepPair_4 x0) (spec_DrawStepPair_5 x0) (spec_DrawStepPair_6 x0) (spec_DrawStepPair_7 x0) then
                              true
                            else false
                          else false then
                        true
                      else false
                    else false then
              true
            else
              !impl_IsPair_0 (spec_DrawRunPair_0 x0) (spec_DrawRunPair_1 x0) (spec_DrawRunPair_2 x0) (spec_DrawRunPair_3 x0) ==
                  spec_IsPair_0 (spec_DrawRunPair_0 x0) (spec_DrawRunPair_1 x0) (spec_DrawRunPair_2 x0) (spec_DrawRunPair_3 x0) then
          true
        else
          !impl_IsPairEvent_0 (spec_DrawStepPair_4 x0) (spec_DrawStepPair_5 x0) (spec_DrawStepPair_6 x0) (spec_DrawStepPair_7 x0) ==
              spec_IsPairEvent_0 (spec_DrawStepPair_4 x0) (spec_DrawStepPair_5 x0) (spec_DrawStepPair_6 x0) (spec_DrawStepPair_7 x0)) ||
        (impl_RunPair_4 (spec_DrawRunPair_0 x0) (spec_DrawRunPair_1 x0) (spec_DrawRunPair_2 x0) (spec_DrawRunPair_3 x0) (spec_DrawRunPair_4 x0) !=
            (0 : Int) ||
          decide ((↑(List.length (spec_DrawRunPair_4 x0)) : Int) ≤ (↑(List.length (spec_DrawRunPair_4 x0)) : Int)))),
    laws_big_0 x0 ||
      ((bif
            bif
                bif
                    bif
                        bif
                            impl_RunPair_4 (spec_DrawRunPair_0 x0) (spec_DrawRunPair_1 x0) (spec_DrawRunPair_2 x0) (spec_DrawRunPair_3 x0)
                                (spec_DrawRunPair_4 x0) !=
                              spec_RunPair_4 (spec_DrawRunPair_0 x0) (spec_DrawRunPair_1 x0) (spec_DrawRunPair_2 x0) (spec_DrawRunPair_3 x0)
                                (spec_DrawRunPair_4 x0) then
                          true
                        else
                          !bif
                                bif
                                    impl_RunPair_0 (spec_DrawRunPair_0 x0) (spec_DrawRunPair_1 x0) (spec_DrawRunPair_2 x0) (spec_DrawRunPair_3 x0)
                                        (spec_DrawRunPair_4 x0) ==
                                      spec_RunPair_0 (spec_DrawRunPair_0 x0) (spec_DrawRunPair_1 x0) (spec_DrawRunPair_2 x0) (spec_DrawRunPair_3 x0)
                                        (spec_DrawRunPair_4 x0) then
                                  bif
                                      impl_RunPair_1 (spec_DrawRunPair_0 x0) (spec_DrawRunPair_1 x0) (spec_DrawRunPair_2 x0) (spec_DrawRunPair_3 x0)
                                          (spec_DrawRunPair_4 x0) ==
                                        spec_RunPair_1 (spec_DrawRunPair_0 x0) (spec_DrawRunPair_1 x0) (spec_DrawRunPair_2 x0) (spec_DrawRunPair_3 x0)
                                          (spec_DrawRunPair_4 x0) then
                                    true
                                  else false
                                else false then
                              bif
                                  bif
                                      impl_RunPair_2 (spec_DrawRunPair_0 x0) (spec_DrawRunPair_1 x0) (spec_DrawRunPair_2 x0) (spec_DrawRunPair_3 x0)
                                          (spec_DrawRunPair_4 x0) ==
                                        spec_RunPair_2 (spec_DrawRunPair_0 x0) (spec_DrawRunPair_1 x0) (spec_DrawRunPair_2 x0) (spec_DrawRunPair_3 x0)
                                          (spec_DrawRunPair_4 x0) then
                                    bif
                                        impl_RunPair_3 (spec_DrawRunPair_0 x0) (spec_DrawRunPair_1 x0) (spec_DrawRunPair_2 x0) (spec_DrawRunPair_3 x0)
                                            (spec_DrawRunPair_4 x0) ==
                                          spec_RunPair_3 (spec_DrawRunPair_0 x0) (spec_DrawRunPair_1 x0) (spec_DrawRunPair_2 x0)
                                            (spec_DrawRunPair_3 x0) (spec_DrawRunPair_4 x0) then
                                      true
                                    else false
                                  else false then
                                true
                              else false
                            else false then
                      true
                    else
                      impl_StepPair_4 (spec_DrawStepPair_0 x0) (spec_DrawStepPair_1 x0) (spec_DrawStepPair_2 x0) (spec_DrawStepPair_3 x0)
                          (spec_DrawStepPair_4 x0) (spec_DrawStepPair_5 x0) (spec_DrawStepPair_6 x0) (spec_DrawStepPair_7 x0) !=
                        spec_StepPair_4 (spec_DrawStepPair_0 x0) (spec_DrawStepPair_1 x0) (spec_DrawStepPair_2 x0) (spec_DrawStepPair_3 x0)
                          (spec_DrawStepPair_4 x0) (spec_DrawStepPair_5 x0) (spec_DrawStepPair_6 x0) (spec_DrawStepPair_7 x0) then
                  true
                else
                  !bif
                        bif
                            impl_StepPair_0 (spec_DrawStepPair_0 x0) (spec_DrawStepPair_1 x0) (spec_DrawStepPair_2 x0) (spec_DrawStepPair_3 x0)
                                (spec_DrawStepPair_4 x0) (spec_DrawStepPair_5 x0) (spec_DrawStepPair_6 x0) (spec_DrawStepPair_7 x0) ==
                              spec_StepPair_0 (spec_DrawStepPair_0 x0) (spec_DrawStepPair_1 x0) (spec_DrawStepPair_2 x0) (spec_DrawStepPair_3 x0)
                                (spec_DrawStepPair_4 x0) (spec_DrawStepPair_5 x0) (spec_DrawStepPair_6 x0) (spec_DrawStepPair_7 x0) then
                          bif
                              impl_StepPair_1 (spec_DrawStepPair_0 x0) (spec_DrawStepPair_1 x0) (spec_DrawStepPair_2 x0) (spec_DrawStepPair_3 x0)
                                  (spec_DrawStepPair_4 x0) (spec_DrawStepPair_5 x0) (spec_DrawStepPair_6 x0) (spec_DrawStepPair_7 x0) ==
                                spec_StepPair_1 (spec_DrawStepPair_0 x0) (spec_DrawStepPair_1 x0) (spec_DrawStepPair_2 x0) (spec_DrawStepPair_3 x0)
                                  (spec_DrawStepPair_4 x0) (spec_DrawStepPair_5 x0) (spec_DrawStepPair_6 x0) (spec_DrawStepPair_7 x0) then
                            true
                          else false
                        else false then
                      bif
                          bif
                              impl_StepPair_2 (spec_DrawStepPair_0 x0) (spec_DrawStepPair_1 x0) (spec_DrawStepPair_2 x0) (spec_DrawStepPair_3 x0)
                                  (spec_DrawStepPair_4 x0) (spec_DrawStepPair_5 x0) (spec_DrawStepPair_6 x0) (spec_DrawStepPair_7 x0) ==
                                spec_StepPair_2 (spec_DrawStepPair_0 x0) (spec_DrawStepPair_1 x0) (spec_DrawStepPair_2 x0) (spec_DrawStepPair_3 x0)
                                  (spec_DrawStepPair_4 x0) (spec_DrawStepPair_5 x0) (spec_DrawStepPair_6 x0) (spec_DrawStepPair_7 x0) then
                            bif
                                impl_StepPair_3 (spec_DrawStepPair_0 x0) (spec_DrawStepPair_1 x0) (spec_DrawStepPair_2 x0) (spec_DrawStepPair_3 x0)
                                    (spec_DrawStepPair_4 x0) (spec_DrawStepPair_5 x0) (spec_DrawStepPair_6 x0) (spec_DrawStepPair_7 x0) ==
                                  spec_StepPair_3 (spec_DrawStepPair_0 x0) (spec_DrawStepPair_1 x0) (spec_DrawStepPair_2 x0) (spec_DrawStepPair_3 x0)
                                    (spec_DrawStepPair_4 x0) (spec_DrawStepPair_5 x0) (spec_DrawStepPair_6 x0) (spec_DrawStepPair_7 x0) then
                              true
                            else false
                          else false then
                        true
                      else false
                    else false then
              true
            else
              !impl_IsPair_0 (spec_DrawRunPair_0 x0) (spec_DrawRunPair_1 x0) (spec_DrawRunPair_2 x0) (spec_DrawRunPair_3 x0) ==
                  spec_IsPair_0 (spec_DrawRunPair_0 x0) (spec_DrawRunPair_1 x0) (spec_DrawRunPair_2 x0) (spec_DrawRunPair_3 x0) then
          true
        else
          !impl_IsPairEvent_0 (spec_DrawStepPair_4 x0) (spec_DrawStepPair_5 x0) (spec_DrawStepPair_6 x0) (spec_DrawStepPair_7 x0) ==
              spec_IsPairEvent_0 (spec_DrawStepPair_4 x0) (spec_DrawStepPair_5 x0) (spec_DrawStepPair_6 x0) (spec_DrawStepPair_7 x0)) ||
        (impl_RunPair_4 (spec_DrawRunPair_0 x0) (spec_DrawRunPair_1 x0) (spec_DrawRunPair_2 x0) (spec_DrawRunPair_3 x0) (spec_DrawRunPair_4 x0) !=
            (0 : Int) ||
          impl_RunPair_5
            (impl_RunPair_0 (spec_DrawRunPair_0 x0) (spec_DrawRunPair_1 x0) (spec_DrawRunPair_2 x0) (spec_DrawRunPair_3 x0)
              (List.drop (Int.toNat (0 : Int))
                (List.take
                  (Int.toNat
                    (loop_example_g00916_laws_dice_below_0 (IntKind.wrap IntKind.i64 ((↑(List.length (spec_DrawRunPair_4 x0)) : Int) + (1 : Int)))
                      (0 : Int) (laws_roll_0 (3101 : Int) x0) x0))
                  (spec_DrawRunPair_4 x0))))
            (impl_RunPair_1 (spec_DrawRunPair_0 x0) (spec_DrawRunPair_1 x0) (spec_DrawRunPair_2 x0) (spec_DrawRunPair_3 x0)
              (List.drop (Int.toNat (0 : Int))
                (List.take
                  (Int.toNat
                    (loop_example_g00916_laws_dice_below_0 (IntKind.wrap IntKind.i64 ((↑(List.length (spec_DrawRunPair_4 x0)) : Int) + (1 : Int)))
                      (0 : Int) (laws_roll_0 (3101 : Int) x0) x0))
                  (spec_DrawRunPair_4 x0))))
            (impl_RunPair_2 (spec_DrawRunPair_0 x0) (spec_DrawRunPair_1 x0) (spec_DrawRunPair_2 x0) (spec_DrawRunPair_3 x0)
              (List.drop (Int.toNat (0 : Int))
                (List.take
                  (Int.toNat
                    (loop_example_g00916_laws_dice_below_0 (IntKind.wrap IntKind.i64 ((↑(List.length (spec_DrawRunPair_4 x0)) : Int) + (1 : Int)))
                      (0 : Int) (laws_roll_0 (3101 : Int) x0) x0))
                  (spec_DrawRunPair_4 x0))))
            (impl_RunPair_3 (spec_DrawRunPair_0 x0) (spec_DrawRunPair_1 x0) (spec_DrawRunPair_2 x0) (spec_DrawRunPair_3 x0)
              (List.drop (Int.toNat (0 : Int))
                (List.take
                  (Int.toNat
                    (loop_example_g00916_laws_dice_below_0 (IntKind.wrap IntKind.i64 ((↑(List.length (spec_DrawRunPair_4 x0)) : Int) + (1 : Int)))
                      (0 : Int) (laws_roll_0 (3101 : Int) x0) x0))
                  (spec_DrawRunPair_4 x0))))
            (List.drop
              (Int.toNat
                (loop_example_g00916_laws_dice_below_0 (IntKind.wrap IntKind.i64 ((↑(List.length (spec_DrawRunPair_4 x0)) : Int) + (1 : Int)))
                  (0 : Int) (laws_roll_0 (3101 : Int) x0) x0))
              (List.take (Int.toNat (↑(List.length (spec_DrawRunPair_4 x0)) : Int)) (spec_DrawRunPair_4 x0))))),
    laws_big_0 x0 ||
      ((bif
            bif
                bif
                    bif
                        bif
                            impl_RunPair_4 (spec_DrawRunPair_0 x0) (spec_DrawRunPair_1 x0) (spec_DrawRunPair_2 x0) (spec_DrawRunPair_3 x0)
                                (spec_DrawRunPair_4 x0) !=
                              spec_RunPair_4 (spec_DrawRunPair_0 x0) (spec_DrawRunPair_1 x0) (spec_DrawRunPair_2 x0) (spec_DrawRunPair_3 x0)
                                (spec_DrawRunPair_4 x0) then
                          true
                        else
                          !bif
                                bif
                                    impl_RunPair_0 (spec_DrawRunPair_0 x0) (spec_DrawRunPair_1 x0) (spec_DrawRunPair_2 x0) (spec_DrawRunPair_3 x0)
                                        (spec_DrawRunPair_4 x0) ==
                                      spec_RunPair_0 (spec_DrawRunPair_0 x0) (spec_DrawRunPair_1 x0) (spec_DrawRunPair_2 x0) (spec_DrawRunPair_3 x0)
                                        (spec_DrawRunPair_4 x0) then
                                  bif
                                      impl_RunPair_1 (spec_DrawRunPair_0 x0) (spec_DrawRunPair_1 x0) (spec_DrawRunPair_2 x0) (spec_DrawRunPair_3 x0)
                                          (spec_DrawRunPair_4 x0) ==
                                        spec_RunPair_1 (spec_DrawRunPair_0 x0) (spec_DrawRunPair_1 x0) (spec_DrawRunPair_2 x0) (spec_DrawRunPair_3 x0)
                                          (spec_DrawRunPair_4 x0) then
                                    true
                                  else false
                                else false then
                              bif
                                  bif
                                      impl_RunPair_2 (spec_DrawRunPair_0 x0) (spec_DrawRunPair_1 x0) (spec_DrawRunPair_2 x0) (spec_DrawRunPair_3 x0)
                                          (spec_DrawRunPair_4 x0) ==
                                        spec_RunPair_2 (spec_DrawRunPair_0 x0) (spec_DrawRunPair_1 x0) (spec_DrawRunPair_2 x0) (spec_DrawRunPair_3 x0)
                                          (spec_DrawRunPair_4 x0) then
                                    bif
                                        impl_RunPair_3 (spec_DrawRunPair_0 x0) (spec_DrawRunPair_1 x0) (spec_DrawRunPair_2 x0) (spec_DrawRunPair_3 x0)
                                            (spec_DrawRunPair_4 x0) ==
                                          spec_RunPair_3 (spec_DrawRunPair_0 x0) (spec_DrawRunPair_1 x0) (spec_DrawRunPair_2 x0)
                                            (spec_DrawRunPair_3 x0) (spec_DrawRunPair_4 x0) then
                                      true
                                    else false
                                  else false then
                                true
                              else false
                            else false then
                      true
                    else
                      impl_StepPair_4 (spec_DrawStepPair_0 x0) (spec_DrawStepPair_1 x0) (spec_DrawStepPair_2 x0) (spec_DrawStepPair_3 x0)
                          (spec_DrawStepPair_4 x0) (spec_DrawStepPair_5 x0) (spec_DrawStepPair_6 x0) (spec_DrawStepPair_7 x0) !=
                        spec_StepPair_4 (spec_DrawStepPair_0 x0) (spec_DrawStepPair_1 x0) (spec_DrawStepPair_2 x0) (spec_DrawStepPair_3 x0)
                          (spec_DrawStepPair_4 x0) (spec_DrawStepPair_5 x0) (spec_DrawStepPair_6 x0) (spec_DrawStepPair_7 x0) then
                  true
                else
                  !bif
                        bif
                            impl_StepPair_0 (spec_DrawStepPair_0 x0) (spec_DrawStepPair_1 x0) (spec_DrawStepPair_2 x0) (spec_DrawStepPair_3 x0)
                                (spec_DrawStepPair_4 x0) (spec_DrawStepPair_5 x0) (spec_DrawStepPair_6 x0) (spec_DrawStepPair_7 x0) ==
                              spec_StepPair_0 (spec_DrawStepPair_0 x0) (spec_DrawStepPair_1 x0) (spec_DrawStepPair_2 x0) (spec_DrawStepPair_3 x0)
                                (spec_DrawStepPair_4 x0) (spec_DrawStepPair_5 x0) (spec_DrawStepPair_6 x0) (spec_DrawStepPair_7 x0) then
                          bif
                              impl_StepPair_1 (spec_DrawStepPair_0 x0) (spec_DrawStepPair_1 x0) (spec_DrawStepPair_2 x0) (spec_DrawStepPair_3 x0)
                                  (spec_DrawStepPair_4 x0) (spec_DrawStepPair_5 x0) (spec_DrawStepPair_6 x0) (spec_DrawStepPair_7 x0) ==
                                spec_StepPair_1 (spec_DrawStepPair_0 x0) (spec_DrawStepPair_1 x0) (spec_DrawStepPair_2 x0) (spec_DrawStepPair_3 x0)
                                  (spec_DrawStepPair_4 x0) (spec_DrawStepPair_5 x0) (spec_DrawStepPair_6 x0) (spec_DrawStepPair_7 x0) then
                            true
                          else false
                        else false then
                      bif
                          bif
                              impl_StepPair_2 (spec_DrawStepPair_0 x0) (spec_DrawStepPair_1 x0) (spec_DrawStepPair_2 x0) (spec_DrawStepPair_3 x0)
                                  (spec_DrawStepPair_4 x0) (spec_DrawStepPair_5 x0) (spec_DrawStepPair_6 x0) (spec_DrawStepPair_7 x0) ==
                                spec_StepPair_2 (spec_DrawStepPair_0 x0) (spec_DrawStepPair_1 x0) (spec_DrawStepPair_2 x0) (spec_DrawStepPair_3 x0)
                                  (spec_DrawStepPair_4 x0) (spec_DrawStepPair_5 x0) (spec_DrawStepPair_6 x0) (spec_DrawStepPair_7 x0) then
                            bif
                                impl_StepPair_3 (spec_DrawStepPair_0 x0) (spec_DrawStepPair_1 x0) (spec_DrawStepPair_2 x0) (spec_DrawStepPair_3 x0)
                                    (spec_DrawStepPair_4 x0) (spec_DrawStepPair_5 x0) (spec_DrawStepPair_6 x0) (spec_DrawStepPair_7 x0) ==
                                  spec_StepPair_3 (spec_DrawStepPair_0 x0) (spec_DrawStepPair_1 x0) (spec_DrawStepPair_2 x0) (spec_DrawStepPair_3 x0)
                                    (spec_DrawStepPair_4 x0) (spec_DrawStepPair_5 x0) (spec_DrawStepPair_6 x0) (spec_DrawStepPair_7 x0) then
                              true
                            else false
                          else false then
                        true
                      else false
                    else false then
              true
            else
              !impl_IsPair_0 (spec_DrawRunPair_0 x0) (spec_DrawRunPair_1 x0) (spec_DrawRunPair_2 x0) (spec_DrawRunPair_3 x0) ==
                  spec_IsPair_0 (spec_DrawRunPair_0 x0) (spec_DrawRunPair_1 x0) (spec_DrawRunPair_2 x0) (spec_DrawRunPair_3 x0) then
          true
        else
          !impl_IsPairEvent_0 (spec_DrawStepPair_4 x0) (spec_DrawStepPair_5 x0) (spec_DrawStepPair_6 x0) (spec_DrawStepPair_7 x0) ==
              spec_IsPairEvent_0 (spec_DrawStepPair_4 x0) (spec_DrawStepPair_5 x0) (spec_DrawStepPair_6 x0) (spec_DrawStepPair_7 x0)) ||
        (impl_RunPair_4 (spec_DrawRunPair_0 x0) (spec_DrawRunPair_1 x0) (spec_DrawRunPair_2 x0) (spec_DrawRunPair_3 x0) (spec_DrawRunPair_4 x0) !=
            (0 : Int) ||
          impl_GreatestActive_2 (spec_DrawRunPair_0 x0) (spec_DrawRunPair_1 x0) (spec_DrawRunPair_2 x0) (spec_DrawRunPair_3 x0)
            (spec_DrawRunPair_4 x0)))]

def F_laws_FnControllerPairs : List SV → List Entry → Option Out
  | [.one ⟨false, [.ref 0]⟩], [.row false 5 (.int .u8) x0] => some ⟨(.one ⟨false, [(.val (.bool (laws_FnControllerPairs_0 x0)))]⟩), [(.row false 5 (CTy.int IntKind.u8) x0)], [], [(laws_FnControllerPairs_1 x0)]⟩
  | _, _ => none

def p_laws_FnControllerPairs : PF Try.prog := PF.ofG Try.prog [PF.mark Try.prog, p_spec_StepPair, p_impl_StepPair, p_laws_big, PF.lend p_laws_big, PF.fz p_laws_big, p_impl_RunPair, PF.lend p_impl_RunPair, PF.fz p_impl_RunPair, p_impl_ActiveCount, p_impl_GreatestActive, PF.lend p_impl_GreatestActive, PF.fz p_impl_GreatestActive, p_spec_RunPair, PF.lend p_spec_RunPair, PF.fz p_spec_RunPair, p_spec_DrawRunPair, PF.lend p_spec_DrawRunPair, PF.fz p_spec_DrawRunPair, p_spec_DrawStepPair, PF.lend p_spec_DrawStepPair, PF.fz p_spec_DrawStepPair, p_impl_IsPair, p_spec_IsPair, p_impl_IsPairEvent, p_spec_IsPairEvent, p_laws_roll, PF.lend p_laws_roll, PF.fz p_laws_roll, p_loop_example_g00916_laws_dice_below, PF.lend p_loop_example_g00916_laws_dice_below, PF.fz p_loop_example_g00916_laws_dice_below] [] hmix 11 Try.f11 Try.func11 (fun c _ => LOk.nil c) F_laws_FnControllerPairs (by
  intro vs es r h; unfold F_laws_FnControllerPairs at h; split at h
  · cases h; kernel_rfl
  · cases h)

end Go.SX

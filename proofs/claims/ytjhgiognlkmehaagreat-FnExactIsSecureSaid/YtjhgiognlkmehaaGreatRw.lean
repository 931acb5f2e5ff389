/- What functions of the program come to, row by row (made by a program of the workplace). -/
import Derived.Test.YtjhgiognlkmehaaGreatTXh
import Derived.Test.YtjhgiognlkmehaaGreatProg
import Derived.Test.YtjhgiognlkmehaaGreatNv
namespace Go.SX
open Go.Proofs
set_option maxRecDepth 100000

abbrev X_spec_IsSecure_l0 := Int × Int × Int × Int × List Int × List (Int × (Int × Int)) × List (List Int) × List (Int × (Int × Int)) × List (Int × Int) × List (Int × Int)

def spec_IsSecure_l0_a0 (y0 : Int) (y1 : Int) (y4 : List Int) (y6 : List (List Int)) : List Int :=
  bif !spec_l33Stands_0 y1 y0 y4 && true then Option.getD y6[Int.toNat y0]? (dflt (CTy.sl (2 : TypeId) (CTy.int IntKind.i64))) else []

def spec_IsSecure_l0_0 (y0 : Int) (y6 : List (List Int)) : Bool :=
  ltI y0 (↑(List.length y6) : Int)

def spec_IsSecure_l0_1 (y0 : Int) (y4 : List Int) : Bool :=
  spec_l33Stands_1 y0 y4

def spec_IsSecure_l0_2 (y0 : Int) (y1 : Int) (y4 : List Int) : Bool :=
  !(!spec_l33Stands_0 y1 y0 y4 && true) || leI (0 : Int) y0

def spec_IsSecure_l0_3 (y0 : Int) (y1 : Int) (y4 : List Int) (y6 : List (List Int)) : Bool :=
  !(!spec_l33Stands_0 y1 y0 y4 && true) || ltI y0 (↑(List.length y6) : Int)

def spec_IsSecure_l0_4 (y0 : Int) (y1 : Int) (y4 : List Int) (y6 : List (List Int)) : Bool :=
  !(!spec_l33Stands_0 y1 y0 y4 && true) || ltN (Int.toNat y0) (List.length y6)

def spec_IsSecure_l0_5 (y0 : Int) (y1 : Int) (y4 : List Int) (y6 : List (List Int)) : Bool :=
  !(!spec_l33Stands_0 y1 y0 y4 && true) || leN (List.length (spec_IsSecure_l0_a0 y0 y1 y4 y6)) (9223372036854775807 : Nat)

def spec_IsSecure_l0_6 (y0 : Int) (y1 : Int) (y4 : List Int) (y6 : List (List Int)) : Bool :=
  bif !spec_l33Stands_0 y1 y0 y4 then !(areR (spec_IsSecure_l0_a0 y0 y1 y4 y6) && lockedL (spec_IsSecure_l0_a0 y0 y1 y4 y6)) else false

def spec_IsSecure_l0_7 (y0 : Int) : Int :=
  IntKind.wrap IntKind.i64 (y0 + (1 : Int))

def JL_spec_IsSecure_l0 : X_spec_IsSecure_l0 → List (Nat × SV)
  | (y0, _, _, _, _, _, _, _, _, _) => [(3, (.one ⟨false, [(.val (.int IntKind.i64 y0))]⟩)), (1, (.one ⟨false, [(.ptr 0 0)]⟩))]

def JE_spec_IsSecure_l0 : X_spec_IsSecure_l0 → List (Nat × Entry)
  | (_, y1, y2, y3, y4, y5, y6, y7, y8, y9) => [(0, (.box 40 [(.val (.int IntKind.i64 y1)), (.ref 1), (.ref 2), (.ref 3), (.ref 4), (.val (.int IntKind.i64 y2)), (.ref 5), (.ref 6), (.val (.int IntKind.i64 y3))])), (1, (.row false 2 (CTy.int IntKind.i64) y4)), (2, (.row false 78 (CTy.pair (CTy.int IntKind.i64) (CTy.pair (CTy.int IntKind.i64) (CTy.int IntKind.i64))) y5)), (3, (.row false 22 (CTy.sl (2 : TypeId) (CTy.int IntKind.i64)) y6)), (4, (.row false 82 (CTy.pair (CTy.int IntKind.i64) (CTy.pair (CTy.int IntKind.i64) (CTy.int IntKind.i64))) y7)), (5, (.row false 86 (CTy.pair (CTy.int IntKind.i64) (CTy.int IntKind.i64)) y8)), (6, (.row false 90 (CTy.pair (CTy.int IntKind.i64) (CTy.int IntKind.i64)) y9))]

def XL_spec_IsSecure_l0 : Nat → X_spec_IsSecure_l0 → List (Nat × SV)
  | 0, (_, _, _, _, _, _, _, _, _, _) => [(2, (.one ⟨false, [(.val (.bool false))]⟩))]
  | _, (_, _, _, _, _, _, _, _, _, _) => []

def XE_spec_IsSecure_l0 : Nat → X_spec_IsSecure_l0 → List (Nat × Entry)
  | 0, (_, y1, y2, y3, y4, y5, y6, y7, y8, y9) => [(0, (.box 40 [(.val (.int IntKind.i64 y1)), (.ref 1), (.ref 2), (.ref 3), (.ref 4), (.val (.int IntKind.i64 y2)), (.ref 5), (.ref 6), (.val (.int IntKind.i64 y3))])), (1, (.row false 2 (CTy.int IntKind.i64) y4)), (2, (.row false 78 (CTy.pair (CTy.int IntKind.i64) (CTy.pair (CTy.int IntKind.i64) (CTy.int IntKind.i64))) y5)), (3, (.row false 22 (CTy.sl (2 : TypeId) (CTy.int IntKind.i64)) y6)), (4, (.row false 82 (CTy.pair (CTy.int IntKind.i64) (CTy.pair (CTy.int IntKind.i64) (CTy.int IntKind.i64))) y7)), (5, (.row false 86 (CTy.pair (CTy.int IntKind.i64) (CTy.int IntKind.i64)) y8)), (6, (.row false 90 (CTy.pair (CTy.int IntKind.i64) (CTy.int IntKind.i64)) y9))]
  | _, (_, y1, y2, y3, y4, y5, y6, y7, y8, y9) => [(0, (.box 40 [(.val (.int IntKind.i64 y1)), (.ref 1), (.ref 2), (.ref 3), (.ref 4), (.val (.int IntKind.i64 y2)), (.ref 5), (.ref 6), (.val (.int IntKind.i64 y3))])), (1, (.row false 2 (CTy.int IntKind.i64) y4)), (2, (.row false 78 (CTy.pair (CTy.int IntKind.i64) (CTy.pair (CTy.int IntKind.i64) (CTy.int IntKind.i64))) y5)), (3, (.row false 22 (CTy.sl (2 : TypeId) (CTy.int IntKind.i64)) y6)), (4, (.row false 82 (CTy.pair (CTy.int IntKind.i64) (CTy.pair (CTy.int IntKind.i64) (CTy.int IntKind.i64))) y7)), (5, (.row false 86 (CTy.pair (CTy.int IntKind.i64) (CTy.int IntKind.i64)) y8)), (6, (.row false 90 (CTy.pair (CTy.int IntKind.i64) (CTy.int IntKind.i64)) y9))]

def lt_spec_IsSecure_l0 : X_spec_IsSecure_l0 → LT X_spec_IsSecure_l0
  | (y0, y1, y2, y3, y4, y5, y6, y7, y8, y9) => .ite (spec_IsSecure_l0_0 y0 y6) (.need [(spec_IsSecure_l0_1 y0 y4), (spec_IsSecure_l0_2 y0 y1 y4), (spec_IsSecure_l0_3 y0 y1 y4 y6), (spec_IsSecure_l0_4 y0 y1 y4 y6), (spec_IsSecure_l0_5 y0 y1 y4 y6)] (.ite (spec_IsSecure_l0_6 y0 y1 y4 y6) (.ext 0 [(0, 0), (1, 1), (2, 2), (3, 3), (4, 4), (5, 5), (6, 6)]) (.nrm ((spec_IsSecure_l0_7 y0), y1, y2, y3, y4, y5, y6, y7, y8, y9) [(0, 0), (1, 1), (2, 2), (3, 3), (4, 4), (5, 5), (6, 6)]))) (.ext 1 [(0, 0), (1, 1), (2, 2), (3, 3), (4, 4), (5, 5), (6, 6)])

def rd_spec_IsSecure_l0 (s : St) : Option X_spec_IsSecure_l0 :=
  (match s.look 3 with
  | some ⟨none, (.one ⟨false, [(.val (.int IntKind.i64 y0))]⟩)⟩ =>
  (match s.look 1 with
  | some ⟨none, (.one ⟨false, [(.ptr 448 0)]⟩)⟩ =>
  (match s.ent 448 with
  | some (.box 40 [(.val (.int IntKind.i64 y1)), (.ref 0), (.ref 1), (.ref 2), (.ref 3), (.val (.int IntKind.i64 y2)), (.ref 4), (.ref 5), (.val (.int IntKind.i64 y3))]) =>
  (match s.ent 0 with
  | some (.row false 2 (CTy.int IntKind.i64) y4) =>
  (match s.ent 1 with
  | some (.row false 78 (CTy.pair (CTy.int IntKind.i64) (CTy.pair (CTy.int IntKind.i64) (CTy.int IntKind.i64))) y5) =>
  (match s.ent 2 with
  | some (.row false 22 (CTy.sl (2 : TypeId) (CTy.int IntKind.i64)) y6) =>
  (match s.ent 3 with
  | some (.row false 82 (CTy.pair (CTy.int IntKind.i64) (CTy.pair (CTy.int IntKind.i64) (CTy.int IntKind.i64))) y7) =>
  (match s.ent 4 with
  | some (.row false 86 (CTy.pair (CTy.int IntKind.i64) (CTy.int IntKind.i64)) y8) =>
  (match s.ent 5 with
  | some (.row false 90 (CTy.pair (CTy.int IntKind.i64) (CTy.int IntKind.i64)) y9) =>
  some (y0, y1, y2, y3, y4, y5, y6, y7, y8, y9)
  | _ => none)
  | _ => none)
  | _ => none)
  | _ => none)
  | _ => none)
  | _ => none)
  | _ => none)
  | _ => none)
  | _ => none)

def lp_spec_IsSecure_l0 : Lp X_spec_IsSecure_l0 where
  h := ⟨[13, 14, 15, 16, 17, 20, 21, 22, 23, 24, 25, 26, 27, 28, 29, 30, 31, 32, 2, 18, 19, 3], [0, 1, 2, 3, 4, 5, 6], [], []⟩
  JL := JL_spec_IsSecure_l0
  JE := JE_spec_IsSecure_l0
  XL := XL_spec_IsSecure_l0
  XE := XE_spec_IsSecure_l0
  q := fun j => match j with | 0 => .ret | _ => .exit 0
  tags := [0, 1]
  lt := lt_spec_IsSecure_l0
  fuel := fun (y0, y1, y2, y3, y4, y5, y6, y7, y8, y9) => y0.natAbs + y1.natAbs + y2.natAbs + y3.natAbs + y4.length + y5.length + y6.length + y7.length + y8.length + y9.length
  fix := fun (_, y1, y2, y3, y4, y5, y6, y7, y8, y9) (y0, _, _, _, _, _, _, _, _, _) => (y0, y1, y2, y3, y4, y5, y6, y7, y8, y9)
  σ := [(0, 448), (1, 0), (2, 1), (3, 2), (4, 3), (5, 4), (6, 5)]
  rd := rd_spec_IsSecure_l0

theorem lpok_spec_IsSecure_l0 : LoopOk Tryz.prog (fun k => Nat.blt k Tryz.f5.ntmps) lp_spec_IsSecure_l0.F (loopAt Tryz.f5 0) := by
  refine Lp.ok (tbl := [n_spec_IsRide, PF.lend n_spec_IsRide, PF.fz n_spec_IsRide, n_spec_IsSafeTraffic, PF.lend n_spec_IsSafeTraffic, PF.fz n_spec_IsSafeTraffic, p_spec_l33Stands, PF.lend p_spec_l33Stands, PF.fz p_spec_l33Stands, n_spec_AllLocked, PF.lend n_spec_AllLocked, PF.fz n_spec_AllLocked]) (lf := []) hmix lp_spec_IsSecure_l0 (by kernel_rfl) (LOk.nil _) (fun _ => rfl) (fun j _ => by unfold lp_spec_IsSecure_l0; match j with | 0 => rfl | _ + 1 => rfl) ?_ ?_ ?_ ?_ (fun _ => rfl) ?_
  · intro x; obtain ⟨y0, y1, y2, y3, y4, y5, y6, y7, y8, y9⟩ := x; kernel_rfl
  · intro x; obtain ⟨y0, y1, y2, y3, y4, y5, y6, y7, y8, y9⟩ := x; kernel_rfl
  · intro s x h
    have h : rd_spec_IsSecure_l0 s = some x := h
    unfold rd_spec_IsSecure_l0 at h
    repeat' split at h
    all_goals cases h
    exact ⟨absS_cons (by assumption) rfl (absS_cons (by assumption) rfl (rfl)), absE_cons rfl (by assumption) rfl (absE_cons rfl (by assumption) rfl (absE_cons rfl (by assumption) rfl (absE_cons rfl (by assumption) rfl (absE_cons rfl (by assumption) rfl (absE_cons rfl (by assumption) rfl (absE_cons rfl (by assumption) rfl (rfl)))))))⟩
  · intro x; obtain ⟨y0, y1, y2, y3, y4, y5, y6, y7, y8, y9⟩ := x; kernel_rfl
  · intro x z; obtain ⟨y0, y1, y2, y3, y4, y5, y6, y7, y8, y9⟩ := x; exact (And.intro (And.intro trivial rfl) trivial)

def spec_IsSecure_a0 (x0 : Int) (x1 : Int) (x2 : Int) (x3 : List Int) (x4 : List (Int × Int × Int)) (x5 : List (List Int)) (x6 : List (Int × Int × Int)) (x7 : List (Int × Int)) (x8 : List (Int × Int)) : Bool :=
  bif !okRide x0 x3 x4 x5 x6 x1 x7 x8 x2 then true else !isSf x0 x3

def spec_IsSecure_a1 (x0 : Int) (x1 : Int) (x2 : Int) (x3 : List Int) (x4 : List (Int × Int × Int)) (x5 : List (List Int)) (x6 : List (Int × Int × Int)) (x7 : List (Int × Int)) (x8 : List (Int × Int)) : Int × Int × Int × Int × List Int × List (Int × Int × Int) × List (List Int) × List (Int × Int × Int) × List (Int × Int) × List (Int × Int) :=
  ((0 : Int), x0, x1, x2, x3, x4, x5, x6, x7, x8)

def spec_IsSecure_0 (x0 : Int) (x1 : Int) (x2 : Int) (x3 : List Int) (x4 : List (Int × Int × Int)) (x5 : List (List Int)) (x6 : List (Int × Int × Int)) (x7 : List (Int × Int)) (x8 : List (Int × Int)) : Bool :=
  bif spec_IsSecure_a0 x0 x1 x2 x3 x4 x5 x6 x7 x8 then false
  else bif Nat.beq (Prod.fst (Lp.res lp_spec_IsSecure_l0 (spec_IsSecure_a1 x0 x1 x2 x3 x4 x5 x6 x7 x8))) (0 : Nat) then false else true

def spec_IsSecure_1 (x0 : Int) (x1 : Int) (x2 : Int) (x3 : List Int) (x4 : List (Int × Int × Int)) (x5 : List (List Int)) (x6 : List (Int × Int × Int)) (x7 : List (Int × Int)) (x8 : List (Int × Int)) : Bool :=
  allT
  [rideN (9223372036854775807 : Nat) x3 x4 x5 x6 x7 x8,
    spec_IsSecure_a0 x0 x1 x2 x3 x4 x5 x6 x7 x8 || Lp.fin lp_spec_IsSecure_l0 (spec_IsSecure_a1 x0 x1 x2 x3 x4 x5 x6 x7 x8)]

def F_spec_IsSecure : List SV → List Entry → Option Out
  | [.one ⟨true, [.val (.int .i64 x0), .ref 0, .ref 1, .ref 2, .ref 3, .val (.int .i64 x1), .ref 4, .ref 5, .val (.int .i64 x2)]⟩], [.row false 2 (.int .i64) x3, .row false 78 (.pair (.int .i64) (.pair (.int .i64) (.int .i64))) x4, .row false 22 (.sl 2 (.int .i64)) x5, .row false 82 (.pair (.int .i64) (.pair (.int .i64) (.int .i64))) x6, .row false 86 (.pair (.int .i64) (.int .i64)) x7, .row false 90 (.pair (.int .i64) (.int .i64)) x8] => some ⟨(.one ⟨false, [(.val (.bool (spec_IsSecure_0 x0 x1 x2 x3 x4 x5 x6 x7 x8)))]⟩), [(.row false 2 (CTy.int IntKind.i64) x3), (.row false 78 (CTy.pair (CTy.int IntKind.i64) (CTy.pair (CTy.int IntKind.i64) (CTy.int IntKind.i64))) x4), (.row false 22 (CTy.sl (2 : TypeId) (CTy.int IntKind.i64)) x5), (.row false 82 (CTy.pair (CTy.int IntKind.i64) (CTy.pair (CTy.int IntKind.i64) (CTy.int IntKind.i64))) x6), (.row false 86 (CTy.pair (CTy.int IntKind.i64) (CTy.int IntKind.i64)) x7), (.row false 90 (CTy.pair (CTy.int IntKind.i64) (CTy.int IntKind.i64)) x8)], [], [(spec_IsSecure_1 x0 x1 x2 x3 x4 x5 x6 x7 x8)]⟩
  | _, _ => none

def p_spec_IsSecure : PF Tryz.prog := PF.ofG Tryz.prog [n_spec_IsRide, PF.lend n_spec_IsRide, PF.fz n_spec_IsRide, n_spec_IsSafeTraffic, PF.lend n_spec_IsSafeTraffic, PF.fz n_spec_IsSafeTraffic, p_spec_l33Stands, PF.lend p_spec_l33Stands, PF.fz p_spec_l33Stands, n_spec_AllLocked, PF.lend n_spec_AllLocked, PF.fz n_spec_AllLocked] [lp_spec_IsSecure_l0.F] hmix 5 Tryz.f5 Tryz.func5 (LOk.fnT (l := [loopAt Tryz.f5 0]) (by kernel_rfl) (.cons lpok_spec_IsSecure_l0 (.nil _))) F_spec_IsSecure (by
  intro vs es r h; unfold F_spec_IsSecure at h; split at h
  · cases h; kernel_rfl
  · cases h)

def loop_example_g00916_impl_Ride_isInStation_0 (x0 : Int) (x3 : Int) (x4 : List Int) : Bool :=
  Option.getD x4[Int.toNat x3]? (0 : Int) ==
  IntKind.wrap IntKind.i64 (IntKind.wrap IntKind.i64 ((3 : Int) * IntKind.wrap IntKind.i64 (x0 - (1 : Int))) + (1 : Int))

def loop_example_g00916_impl_Ride_isInStation_1 (x3 : Int) (x4 : List Int) : Bool :=
  allT [leI (0 : Int) x3, ltI x3 (↑(List.length x4) : Int), ltN (Int.toNat x3) (List.length x4)]

def F_loop_example_g00916_impl_Ride_isInStation : List SV → List Entry → Option Out
  | [.one ⟨true, [.val (.int .i64 x0), .ref 0, .ref 1, .ref 2, .ref 3, .val (.int .i64 _x1), .ref 4, .ref 5, .val (.int .i64 _x2)]⟩, .one ⟨false, [.val (.int .i64 x3)]⟩], [.row false 2 (.int .i64) x4, .row false 78 (.pair (.int .i64) (.pair (.int .i64) (.int .i64))) x5, .row false 22 (.sl 2 (.int .i64)) x6, .row false 82 (.pair (.int .i64) (.pair (.int .i64) (.int .i64))) x7, .row false 86 (.pair (.int .i64) (.int .i64)) x8, .row false 90 (.pair (.int .i64) (.int .i64)) x9] => some ⟨(.one ⟨false, [(.val (.bool (loop_example_g00916_impl_Ride_isInStation_0 x0 x3 x4)))]⟩), [(.row false 2 (CTy.int IntKind.i64) x4), (.row false 78 (CTy.pair (CTy.int IntKind.i64) (CTy.pair (CTy.int IntKind.i64) (CTy.int IntKind.i64))) x5), (.row false 22 (CTy.sl (2 : TypeId) (CTy.int IntKind.i64)) x6), (.row false 82 (CTy.pair (CTy.int IntKind.i64) (CTy.pair (CTy.int IntKind.i64) (CTy.int IntKind.i64))) x7), (.row false 86 (CTy.pair (CTy.int IntKind.i64) (CTy.int IntKind.i64)) x8), (.row false 90 (CTy.pair (CTy.int IntKind.i64) (CTy.int IntKind.i64)) x9)], [], [(loop_example_g00916_impl_Ride_isInStation_1 x3 x4)]⟩
  | _, _ => none

def p_loop_example_g00916_impl_Ride_isInStation : PF Tryz.prog := PF.ofG Tryz.prog [] [] hmix 27 Tryz.f27 Tryz.func27 (fun c _ => LOk.nil c) F_loop_example_g00916_impl_Ride_isInStation (by
  intro vs es r h; unfold F_loop_example_g00916_impl_Ride_isInStation at h; split at h
  · cases h; kernel_rfl
  · cases h)

abbrev X_impl_IsSecure_l0 := Int × Int × List (List Int) × Int × Int × Int × List Int × List (Int × (Int × Int)) × List (Int × (Int × Int)) × List (Int × Int) × List (Int × Int)

def impl_IsSecure_l0_a0 (y0 : Int) (y2 : List (List Int)) : List Int :=
  Option.getD y2[Int.toNat y0]? (dflt (CTy.sl (2 : TypeId) (CTy.int IntKind.i64)))

def impl_IsSecure_l0_0 (y0 : Int) (y1 : Int) : Bool :=
  ltI y0 y1

def impl_IsSecure_l0_1 (y0 : Int) : Bool :=
  leI (0 : Int) y0

def impl_IsSecure_l0_2 (y0 : Int) (y2 : List (List Int)) : Bool :=
  ltI y0 (↑(List.length y2) : Int)

def impl_IsSecure_l0_3 (y0 : Int) (y2 : List (List Int)) : Bool :=
  ltN (Int.toNat y0) (List.length y2)

def impl_IsSecure_l0_4 (y0 : Int) (y6 : List Int) : Bool :=
  loop_example_g00916_impl_Ride_isInStation_1 y0 y6

def impl_IsSecure_l0_5 (y0 : Int) (y2 : List (List Int)) (y3 : Int) (y6 : List Int) : Bool :=
  !(!loop_example_g00916_impl_Ride_isInStation_0 y3 y0 y6 && true) || leN (List.length (impl_IsSecure_l0_a0 y0 y2)) (9223372036854775807 : Nat)

def impl_IsSecure_l0_6 (y0 : Int) (y2 : List (List Int)) (y3 : Int) (y6 : List Int) : Bool :=
  bif !loop_example_g00916_impl_Ride_isInStation_0 y3 y0 y6 then !lockedL (impl_IsSecure_l0_a0 y0 y2) else false

def impl_IsSecure_l0_7 (y0 : Int) : Int :=
  IntKind.wrap IntKind.i64 (y0 + (1 : Int))

def JL_impl_IsSecure_l0 : X_impl_IsSecure_l0 → List (Nat × SV)
  | (y0, y1, _, _, _, _, _, _, _, _, _) => [(17, (.one ⟨false, [(.val (.int IntKind.i64 y0))]⟩)), (16, (.one ⟨false, [(.val (.int IntKind.i64 y1))]⟩)), (15, (.one ⟨false, [(.ref 0)]⟩)), (1, (.one ⟨false, [(.ptr 1 0)]⟩))]

def JE_impl_IsSecure_l0 : X_impl_IsSecure_l0 → List (Nat × Entry)
  | (_, _, y2, y3, y4, y5, y6, y7, y8, y9, y10) => [(0, (.row false 22 (CTy.sl (2 : TypeId) (CTy.int IntKind.i64)) y2)), (1, (.box 40 [(.val (.int IntKind.i64 y3)), (.ref 2), (.ref 3), (.ref 0), (.ref 4), (.val (.int IntKind.i64 y4)), (.ref 5), (.ref 6), (.val (.int IntKind.i64 y5))])), (2, (.row false 2 (CTy.int IntKind.i64) y6)), (3, (.row false 78 (CTy.pair (CTy.int IntKind.i64) (CTy.pair (CTy.int IntKind.i64) (CTy.int IntKind.i64))) y7)), (4, (.row false 82 (CTy.pair (CTy.int IntKind.i64) (CTy.pair (CTy.int IntKind.i64) (CTy.int IntKind.i64))) y8)), (5, (.row false 86 (CTy.pair (CTy.int IntKind.i64) (CTy.int IntKind.i64)) y9)), (6, (.row false 90 (CTy.pair (CTy.int IntKind.i64) (CTy.int IntKind.i64)) y10))]

def XL_impl_IsSecure_l0 : Nat → X_impl_IsSecure_l0 → List (Nat × SV)
  | 0, (_, _, _, _, _, _, _, _, _, _, _) => [(2, (.one ⟨false, [(.val (.bool false))]⟩))]
  | _, (_, _, _, _, _, _, _, _, _, _, _) => []

def XE_impl_IsSecure_l0 : Nat → X_impl_IsSecure_l0 → List (Nat × Entry)
  | 0, (_, _, y2, y3, y4, y5, y6, y7, y8, y9, y10) => [(0, (.row false 22 (CTy.sl (2 : TypeId) (CTy.int IntKind.i64)) y2)), (1, (.box 40 [(.val (.int IntKind.i64 y3)), (.ref 2), (.ref 3), (.ref 0), (.ref 4), (.val (.int IntKind.i64 y4)), (.ref 5), (.ref 6), (.val (.int IntKind.i64 y5))])), (2, (.row false 2 (CTy.int IntKind.i64) y6)), (3, (.row false 78 (CTy.pair (CTy.int IntKind.i64) (CTy.pair (CTy.int IntKind.i64) (CTy.int IntKind.i64))) y7)), (4, (.row false 82 (CTy.pair (CTy.int IntKind.i64) (CTy.pair (CTy.int IntKind.i64) (CTy.int IntKind.i64))) y8)), (5, (.row false 86 (CTy.pair (CTy.int IntKind.i64) (CTy.int IntKind.i64)) y9)), (6, (.row false 90 (CTy.pair (CTy.int IntKind.i64) (CTy.int IntKind.i64)) y10))]
  | _, (_, _, y2, y3, y4, y5, y6, y7, y8, y9, y10) => [(0, (.row false 22 (CTy.sl (2 : TypeId) (CTy.int IntKind.i64)) y2)), (1, (.box 40 [(.val (.int IntKind.i64 y3)), (.ref 2), (.ref 3), (.ref 0), (.ref 4), (.val (.int IntKind.i64 y4)), (.ref 5), (.ref 6), (.val (.int IntKind.i64 y5))])), (2, (.row false 2 (CTy.int IntKind.i64) y6)), (3, (.row false 78 (CTy.pair (CTy.int IntKind.i64) (CTy.pair (CTy.int IntKind.i64) (CTy.int IntKind.i64))) y7)), (4, (.row false 82 (CTy.pair (CTy.int IntKind.i64) (CTy.pair (CTy.int IntKind.i64) (CTy.int IntKind.i64))) y8)), (5, (.row false 86 (CTy.pair (CTy.int IntKind.i64) (CTy.int IntKind.i64)) y9)), (6, (.row false 90 (CTy.pair (CTy.int IntKind.i64) (CTy.int IntKind.i64)) y10))]

def lt_impl_IsSecure_l0 : X_impl_IsSecure_l0 → LT X_impl_IsSecure_l0
  | (y0, y1, y2, y3, y4, y5, y6, y7, y8, y9, y10) => .ite (impl_IsSecure_l0_0 y0 y1) (.need [(impl_IsSecure_l0_1 y0), (impl_IsSecure_l0_2 y0 y2), (impl_IsSecure_l0_3 y0 y2)] (.need [(impl_IsSecure_l0_4 y0 y6), (impl_IsSecure_l0_5 y0 y2 y3 y6)] (.ite (impl_IsSecure_l0_6 y0 y2 y3 y6) (.ext 0 [(0, 0), (1, 1), (2, 2), (3, 3), (4, 4), (5, 5), (6, 6)]) (.nrm ((impl_IsSecure_l0_7 y0), y1, y2, y3, y4, y5, y6, y7, y8, y9, y10) [(0, 0), (1, 1), (2, 2), (3, 3), (4, 4), (5, 5), (6, 6)])))) (.ext 1 [(0, 0), (1, 1), (2, 2), (3, 3), (4, 4), (5, 5), (6, 6)])

def rd_impl_IsSecure_l0 (s : St) : Option X_impl_IsSecure_l0 :=
  (match s.look 17 with
  | some ⟨none, (.one ⟨false, [(.val (.int IntKind.i64 y0))]⟩)⟩ =>
  (match s.look 16 with
  | some ⟨none, (.one ⟨false, [(.val (.int IntKind.i64 y1))]⟩)⟩ =>
  (match s.look 15 with
  | some ⟨none, (.one ⟨false, [(.ref 2)]⟩)⟩ =>
  (match s.look 1 with
  | some ⟨none, (.one ⟨false, [(.ptr 448 0)]⟩)⟩ =>
  (match s.ent 2 with
  | some (.row false 22 (CTy.sl (2 : TypeId) (CTy.int IntKind.i64)) y2) =>
  (match s.ent 448 with
  | some (.box 40 [(.val (.int IntKind.i64 y3)), (.ref 0), (.ref 1), (.ref 2), (.ref 3), (.val (.int IntKind.i64 y4)), (.ref 4), (.ref 5), (.val (.int IntKind.i64 y5))]) =>
  (match s.ent 0 with
  | some (.row false 2 (CTy.int IntKind.i64) y6) =>
  (match s.ent 1 with
  | some (.row false 78 (CTy.pair (CTy.int IntKind.i64) (CTy.pair (CTy.int IntKind.i64) (CTy.int IntKind.i64))) y7) =>
  (match s.ent 3 with
  | some (.row false 82 (CTy.pair (CTy.int IntKind.i64) (CTy.pair (CTy.int IntKind.i64) (CTy.int IntKind.i64))) y8) =>
  (match s.ent 4 with
  | some (.row false 86 (CTy.pair (CTy.int IntKind.i64) (CTy.int IntKind.i64)) y9) =>
  (match s.ent 5 with
  | some (.row false 90 (CTy.pair (CTy.int IntKind.i64) (CTy.int IntKind.i64)) y10) =>
  some (y0, y1, y2, y3, y4, y5, y6, y7, y8, y9, y10)
  | _ => none)
  | _ => none)
  | _ => none)
  | _ => none)
  | _ => none)
  | _ => none)
  | _ => none)
  | _ => none)
  | _ => none)
  | _ => none)
  | _ => none)

def lp_impl_IsSecure_l0 : Lp X_impl_IsSecure_l0 where
  h := ⟨[18, 19, 20, 21, 3, 4, 22, 23, 24, 25, 26, 27, 28, 29, 30, 2, 31, 17], [0, 1, 2, 3, 4, 5, 6], [], []⟩
  JL := JL_impl_IsSecure_l0
  JE := JE_impl_IsSecure_l0
  XL := XL_impl_IsSecure_l0
  XE := XE_impl_IsSecure_l0
  q := fun j => match j with | 0 => .ret | _ => .exit 0
  tags := [0, 1]
  lt := lt_impl_IsSecure_l0
  fuel := fun (y0, y1, y2, y3, y4, y5, y6, y7, y8, y9, y10) => y0.natAbs + y1.natAbs + y2.length + y3.natAbs + y4.natAbs + y5.natAbs + y6.length + y7.length + y8.length + y9.length + y10.length
  fix := fun (_, y1, y2, y3, y4, y5, y6, y7, y8, y9, y10) (y0, _, _, _, _, _, _, _, _, _, _) => (y0, y1, y2, y3, y4, y5, y6, y7, y8, y9, y10)
  σ := [(0, 2), (1, 448), (2, 0), (3, 1), (4, 3), (5, 4), (6, 5)]
  rd := rd_impl_IsSecure_l0

theorem lpok_impl_IsSecure_l0 : LoopOk Tryz.prog (fun k => Nat.blt k Tryz.f7.ntmps) lp_impl_IsSecure_l0.F (loopAt Tryz.f7 0) := by
  refine Lp.ok (tbl := [n_impl_IsRide, PF.lend n_impl_IsRide, PF.fz n_impl_IsRide, n_loop_example_g00916_impl_Traffic_isSafe, PF.lend n_loop_example_g00916_impl_Traffic_isSafe, PF.fz n_loop_example_g00916_impl_Traffic_isSafe, p_loop_example_g00916_impl_Ride_isInStation, PF.lend p_loop_example_g00916_impl_Ride_isInStation, PF.fz p_loop_example_g00916_impl_Ride_isInStation, n_impl_allLocked, PF.lend n_impl_allLocked, PF.fz n_impl_allLocked]) (lf := []) hmix lp_impl_IsSecure_l0 (by kernel_rfl) (LOk.nil _) (fun _ => rfl) (fun j _ => by unfold lp_impl_IsSecure_l0; match j with | 0 => rfl | _ + 1 => rfl) ?_ ?_ ?_ ?_ (fun _ => rfl) ?_
  · intro x; obtain ⟨y0, y1, y2, y3, y4, y5, y6, y7, y8, y9, y10⟩ := x; kernel_rfl
  · intro x; obtain ⟨y0, y1, y2, y3, y4, y5, y6, y7, y8, y9, y10⟩ := x; kernel_rfl
  · intro s x h
    have h : rd_impl_IsSecure_l0 s = some x := h
    unfold rd_impl_IsSecure_l0 at h
    repeat' split at h
    all_goals cases h
    exact ⟨absS_cons (by assumption) rfl (absS_cons (by assumption) rfl (absS_cons (by assumption) rfl (absS_cons (by assumption) rfl (rfl)))), absE_cons rfl (by assumption) rfl (absE_cons rfl (by assumption) rfl (absE_cons rfl (by assumption) rfl (absE_cons rfl (by assumption) rfl (absE_cons rfl (by assumption) rfl (absE_cons rfl (by assumption) rfl (absE_cons rfl (by assumption) rfl (rfl)))))))⟩
  · intro x; obtain ⟨y0, y1, y2, y3, y4, y5, y6, y7, y8, y9, y10⟩ := x; kernel_rfl
  · intro x z; obtain ⟨y0, y1, y2, y3, y4, y5, y6, y7, y8, y9, y10⟩ := x; exact (And.intro (And.intro trivial rfl) trivial)

def impl_IsSecure_a0 (x0 : Int) (x1 : Int) (x2 : Int) (x3 : List Int) (x4 : List (Int × Int × Int)) (x5 : List (List Int)) (x6 : List (Int × Int × Int)) (x7 : List (Int × Int)) (x8 : List (Int × Int)) : Bool :=
  bif !okRide x0 x3 x4 x5 x6 x1 x7 x8 x2 then true else !safeL x0 x3

def impl_IsSecure_a1 (x0 : Int) (x1 : Int) (x2 : Int) (x3 : List Int) (x4 : List (Int × Int × Int)) (x5 : List (List Int)) (x6 : List (Int × Int × Int)) (x7 : List (Int × Int)) (x8 : List (Int × Int)) : Int × Int × List (List Int) × Int × Int × Int × List Int × List (Int × Int × Int) × List (Int × Int × Int) × List (Int × Int) × List (Int × Int) :=
  ((0 : Int), (↑(List.length x5) : Int), x5, x0, x1, x2, x3, x4, x6, x7, x8)

def impl_IsSecure_0 (x0 : Int) (x1 : Int) (x2 : Int) (x3 : List Int) (x4 : List (Int × Int × Int)) (x5 : List (List Int)) (x6 : List (Int × Int × Int)) (x7 : List (Int × Int)) (x8 : List (Int × Int)) : Bool :=
  bif impl_IsSecure_a0 x0 x1 x2 x3 x4 x5 x6 x7 x8 then false
  else bif Nat.beq (Prod.fst (Lp.res lp_impl_IsSecure_l0 (impl_IsSecure_a1 x0 x1 x2 x3 x4 x5 x6 x7 x8))) (0 : Nat) then false else true

def impl_IsSecure_1 (x0 : Int) (x1 : Int) (x2 : Int) (x3 : List Int) (x4 : List (Int × Int × Int)) (x5 : List (List Int)) (x6 : List (Int × Int × Int)) (x7 : List (Int × Int)) (x8 : List (Int × Int)) : Bool :=
  allT
  [rideN (9223372036854775807 : Nat) x3 x4 x5 x6 x7 x8, !(!!okRide x0 x3 x4 x5 x6 x1 x7 x8 x2 && true) || isT x0 x3,
    impl_IsSecure_a0 x0 x1 x2 x3 x4 x5 x6 x7 x8 || Lp.fin lp_impl_IsSecure_l0 (impl_IsSecure_a1 x0 x1 x2 x3 x4 x5 x6 x7 x8)]

def F_impl_IsSecure : List SV → List Entry → Option Out
  | [.one ⟨true, [.val (.int .i64 x0), .ref 0, .ref 1, .ref 2, .ref 3, .val (.int .i64 x1), .ref 4, .ref 5, .val (.int .i64 x2)]⟩], [.row false 2 (.int .i64) x3, .row false 78 (.pair (.int .i64) (.pair (.int .i64) (.int .i64))) x4, .row false 22 (.sl 2 (.int .i64)) x5, .row false 82 (.pair (.int .i64) (.pair (.int .i64) (.int .i64))) x6, .row false 86 (.pair (.int .i64) (.int .i64)) x7, .row false 90 (.pair (.int .i64) (.int .i64)) x8] => some ⟨(.one ⟨false, [(.val (.bool (impl_IsSecure_0 x0 x1 x2 x3 x4 x5 x6 x7 x8)))]⟩), [(.row false 2 (CTy.int IntKind.i64) x3), (.row false 78 (CTy.pair (CTy.int IntKind.i64) (CTy.pair (CTy.int IntKind.i64) (CTy.int IntKind.i64))) x4), (.row false 22 (CTy.sl (2 : TypeId) (CTy.int IntKind.i64)) x5), (.row false 82 (CTy.pair (CTy.int IntKind.i64) (CTy.pair (CTy.int IntKind.i64) (CTy.int IntKind.i64))) x6), (.row false 86 (CTy.pair (CTy.int IntKind.i64) (CTy.int IntKind.i64)) x7), (.row false 90 (CTy.pair (CTy.int IntKind.i64) (CTy.int IntKind.i64)) x8)], [], [(impl_IsSecure_1 x0 x1 x2 x3 x4 x5 x6 x7 x8)]⟩
  | _, _ => none

def p_impl_IsSecure : PF Tryz.prog := PF.ofG Tryz.prog [n_impl_IsRide, PF.lend n_impl_IsRide, PF.fz n_impl_IsRide, n_loop_example_g00916_impl_Traffic_isSafe, PF.lend n_loop_example_g00916_impl_Traffic_isSafe, PF.fz n_loop_example_g00916_impl_Traffic_isSafe, p_loop_example_g00916_impl_Ride_isInStation, PF.lend p_loop_example_g00916_impl_Ride_isInStation, PF.fz p_loop_example_g00916_impl_Ride_isInStation, n_impl_allLocked, PF.lend n_impl_allLocked, PF.fz n_impl_allLocked] [lp_impl_IsSecure_l0.F] hmix 7 Tryz.f7 Tryz.func7 (LOk.fnT (l := [loopAt Tryz.f7 0]) (by kernel_rfl) (.cons lpok_impl_IsSecure_l0 (.nil _))) F_impl_IsSecure (by
  intro vs es r h; unfold F_impl_IsSecure at h; split at h
  · cases h; kernel_rfl
  · cases h)

end Go.SX

/- What functions of the program come to, row by row (made by a program of the workplace). -/
import Derived.Test.YtjhgiognlkmehaaGreatTXh
import Derived.Test.YtjhgiognlkmehaaGreatProg
import Derived.Test.YtjhgiognlkmehaaGreatNt
namespace Go.SX
open Go.Proofs
set_option maxRecDepth 100000

def laws_szRide_a0 (x3 : Int) (x4 : List Int) (x5 : List (Int × Int × Int)) (x6 : List (List Int)) (x7 : List (Int × Int × Int)) (x8 : List (Int × Int)) (x9 : List (Int × Int)) : Int :=
  laws_szLockS_0 (laws_szTaskS_0 (laws_szLockFaultS_0 (szSS (laws_szSensorFaultS_0 (szV x3 x4) x5) x6) x7) x8) x9

def laws_szRide_0 (x3 : Int) (x4 : List Int) (x5 : List (Int × Int × Int)) (x6 : List (List Int)) (x7 : List (Int × Int × Int)) (x8 : List (Int × Int)) (x9 : List (Int × Int)) : Int :=
  bif ltI (szV x3 x4) (0 : Int) then (-1 : Int)
  else
  bif ltI (laws_szSensorFaultS_0 (szV x3 x4) x5) (0 : Int) then (-1 : Int)
  else
    bif ltI (szSS (laws_szSensorFaultS_0 (szV x3 x4) x5) x6) (0 : Int) then (-1 : Int)
    else
      bif ltI (laws_szLockFaultS_0 (szSS (laws_szSensorFaultS_0 (szV x3 x4) x5) x6) x7) (0 : Int) then (-1 : Int)
      else
        bif ltI (laws_szTaskS_0 (laws_szLockFaultS_0 (szSS (laws_szSensorFaultS_0 (szV x3 x4) x5) x6) x7) x8) (0 : Int) then (-1 : Int)
        else bif ltI (laws_szRide_a0 x3 x4 x5 x6 x7 x8 x9) (0 : Int) then (-1 : Int) else laws_szRide_a0 x3 x4 x5 x6 x7 x8 x9

def laws_szRide_1 (x3 : Int) (x4 : List Int) (x5 : List (Int × Int × Int)) (x6 : List (List Int)) : Bool :=
  allT
  [leN (List.length x4) (9223372036854775807 : Nat) && (leI (-1 : Int) x3 && leI x3 (1048576 : Int)),
    ltI (szV x3 x4) (0 : Int) ||
      (ltI (laws_szSensorFaultS_0 (szV x3 x4) x5) (0 : Int) ||
        ssOk (9223372036854775807 : Nat) x6 &&
          (leI (-1 : Int) (laws_szSensorFaultS_0 (szV x3 x4) x5) && leI (laws_szSensorFaultS_0 (szV x3 x4) x5) (1048576 : Int)))]

def F_laws_szRide : List SV → List Entry → Option Out
  | [.one ⟨true, [.val (.int .i64 _x0), .ref 0, .ref 1, .ref 2, .ref 3, .val (.int .i64 _x1), .ref 4, .ref 5, .val (.int .i64 _x2)]⟩, .one ⟨false, [.val (.int .i64 x3)]⟩], [.row false 2 (.int .i64) x4, .row false 80 (.pair (.int .i64) (.pair (.int .i64) (.int .i64))) x5, .row false 22 (.sl 2 (.int .i64)) x6, .row false 84 (.pair (.int .i64) (.pair (.int .i64) (.int .i64))) x7, .row false 88 (.pair (.int .i64) (.int .i64)) x8, .row false 92 (.pair (.int .i64) (.int .i64)) x9] => some ⟨(.one ⟨false, [(.val (.int IntKind.i64 (laws_szRide_0 x3 x4 x5 x6 x7 x8 x9)))]⟩), [(.row false 2 (CTy.int IntKind.i64) x4), (.row false 80 (CTy.pair (CTy.int IntKind.i64) (CTy.pair (CTy.int IntKind.i64) (CTy.int IntKind.i64))) x5), (.row false 22 (CTy.sl (2 : TypeId) (CTy.int IntKind.i64)) x6), (.row false 84 (CTy.pair (CTy.int IntKind.i64) (CTy.pair (CTy.int IntKind.i64) (CTy.int IntKind.i64))) x7), (.row false 88 (CTy.pair (CTy.int IntKind.i64) (CTy.int IntKind.i64)) x8), (.row false 92 (CTy.pair (CTy.int IntKind.i64) (CTy.int IntKind.i64)) x9)], [], [(laws_szRide_1 x3 x4 x5 x6)]⟩
  | _, _ => none

def p_laws_szRide : PF Tryz.prog := PF.ofG Tryz.prog [p_laws_szSensorFaultS, PF.lend p_laws_szSensorFaultS, PF.fz p_laws_szSensorFaultS, n_laws_szInt64SS, PF.lend n_laws_szInt64SS, PF.fz n_laws_szInt64SS, p_laws_szLockFaultS, PF.lend p_laws_szLockFaultS, PF.fz p_laws_szLockFaultS, p_laws_szTaskS, PF.lend p_laws_szTaskS, PF.fz p_laws_szTaskS, p_laws_szLockS, PF.lend p_laws_szLockS, PF.fz p_laws_szLockS, n_laws_szTraffic, PF.lend n_laws_szTraffic, PF.fz n_laws_szTraffic] [] hmix 4 Tryz.f4 Tryz.func4 (fun c _ => LOk.nil c) F_laws_szRide (by
  intro vs es r h; unfold F_laws_szRide at h; split at h
  · cases h; kernel_rfl
  · cases h)

abbrev X_spec_IsRide_l0 := Int × Int × Int × Int × List Int × List (Int × (Int × Int)) × List (List Int) × List (Int × (Int × Int)) × List (Int × Int) × List (Int × Int)

def spec_IsRide_l0_a0 (y0 : Int) (y6 : List (List Int)) : List Int :=
  Option.getD y6[Int.toNat y0]? (dflt (CTy.sl (2 : TypeId) (CTy.int IntKind.i64)))

def spec_IsRide_l0_0 (y0 : Int) (y6 : List (List Int)) : Bool :=
  ltI y0 (↑(List.length y6) : Int)

def spec_IsRide_l0_1 (y0 : Int) : Bool :=
  leI (0 : Int) y0

def spec_IsRide_l0_2 (y0 : Int) (y6 : List (List Int)) : Bool :=
  ltN (Int.toNat y0) (List.length y6)

def spec_IsRide_l0_3 (y0 : Int) (y6 : List (List Int)) : Bool :=
  leN (List.length (spec_IsRide_l0_a0 y0 y6)) (9223372036854775807 : Nat)

def spec_IsRide_l0_4 (y0 : Int) (y6 : List (List Int)) : Bool :=
  !(!!areR (spec_IsRide_l0_a0 y0 y6) && true) || leI (0 : Int) y0

def spec_IsRide_l0_5 (y0 : Int) (y6 : List (List Int)) : Bool :=
  !(!!areR (spec_IsRide_l0_a0 y0 y6) && true) || ltI y0 (↑(List.length y6) : Int)

def spec_IsRide_l0_6 (y0 : Int) (y6 : List (List Int)) : Bool :=
  !(!!areR (spec_IsRide_l0_a0 y0 y6) && true) || ltN (Int.toNat y0) (List.length y6)

def spec_IsRide_l0_7 (y0 : Int) (y6 : List (List Int)) : Bool :=
  !(!!areR (spec_IsRide_l0_a0 y0 y6) && true) || spec_l33Rows_1 y6

def spec_IsRide_l0_8 (y0 : Int) (y6 : List (List Int)) : Bool :=
  bif !areR (spec_IsRide_l0_a0 y0 y6) then true
  else (↑(List.length (bif !!areR (spec_IsRide_l0_a0 y0 y6) && true then spec_IsRide_l0_a0 y0 y6 else [])) : Int) != spec_l33Rows_0 y6

def spec_IsRide_l0_9 (y0 : Int) : Int :=
  IntKind.wrap IntKind.i64 (y0 + (1 : Int))

def JL_spec_IsRide_l0 : X_spec_IsRide_l0 → List (Nat × SV)
  | (y0, _, _, _, _, _, _, _, _, _) => [(3, (.one ⟨false, [(.val (.int IntKind.i64 y0))]⟩)), (1, (.one ⟨false, [(.ptr 0 0)]⟩))]

def JE_spec_IsRide_l0 : X_spec_IsRide_l0 → List (Nat × Entry)
  | (_, y1, y2, y3, y4, y5, y6, y7, y8, y9) => [(0, (.box 40 [(.val (.int IntKind.i64 y1)), (.ref 1), (.ref 2), (.ref 3), (.ref 4), (.val (.int IntKind.i64 y2)), (.ref 5), (.ref 6), (.val (.int IntKind.i64 y3))])), (1, (.row false 2 (CTy.int IntKind.i64) y4)), (2, (.row false 78 (CTy.pair (CTy.int IntKind.i64) (CTy.pair (CTy.int IntKind.i64) (CTy.int IntKind.i64))) y5)), (3, (.row false 22 (CTy.sl (2 : TypeId) (CTy.int IntKind.i64)) y6)), (4, (.row false 82 (CTy.pair (CTy.int IntKind.i64) (CTy.pair (CTy.int IntKind.i64) (CTy.int IntKind.i64))) y7)), (5, (.row false 86 (CTy.pair (CTy.int IntKind.i64) (CTy.int IntKind.i64)) y8)), (6, (.row false 90 (CTy.pair (CTy.int IntKind.i64) (CTy.int IntKind.i64)) y9))]

def XL_spec_IsRide_l0 : Nat → X_spec_IsRide_l0 → List (Nat × SV)
  | 0, (_, _, _, _, _, _, _, _, _, _) => [(2, (.one ⟨false, [(.val (.bool false))]⟩))]
  | _, (_, _, _, _, _, _, _, _, _, _) => []

def XE_spec_IsRide_l0 : Nat → X_spec_IsRide_l0 → List (Nat × Entry)
  | 0, (_, y1, y2, y3, y4, y5, y6, y7, y8, y9) => [(0, (.box 40 [(.val (.int IntKind.i64 y1)), (.ref 1), (.ref 2), (.ref 3), (.ref 4), (.val (.int IntKind.i64 y2)), (.ref 5), (.ref 6), (.val (.int IntKind.i64 y3))])), (1, (.row false 2 (CTy.int IntKind.i64) y4)), (2, (.row false 78 (CTy.pair (CTy.int IntKind.i64) (CTy.pair (CTy.int IntKind.i64) (CTy.int IntKind.i64))) y5)), (3, (.row false 22 (CTy.sl (2 : TypeId) (CTy.int IntKind.i64)) y6)), (4, (.row false 82 (CTy.pair (CTy.int IntKind.i64) (CTy.pair (CTy.int IntKind.i64) (CTy.int IntKind.i64))) y7)), (5, (.row false 86 (CTy.pair (CTy.int IntKind.i64) (CTy.int IntKind.i64)) y8)), (6, (.row false 90 (CTy.pair (CTy.int IntKind.i64) (CTy.int IntKind.i64)) y9))]
  | _, (_, y1, y2, y3, y4, y5, y6, y7, y8, y9) => [(0, (.box 40 [(.val (.int IntKind.i64 y1)), (.ref 1), (.ref 2), (.ref 3), (.ref 4), (.val (.int IntKind.i64 y2)), (.ref 5), (.ref 6), (.val (.int IntKind.i64 y3))])), (1, (.row false 2 (CTy.int IntKind.i64) y4)), (2, (.row false 78 (CTy.pair (CTy.int IntKind.i64) (CTy.pair (CTy.int IntKind.i64) (CTy.int IntKind.i64))) y5)), (3, (.row false 22 (CTy.sl (2 : TypeId) (CTy.int IntKind.i64)) y6)), (4, (.row false 82 (CTy.pair (CTy.int IntKind.i64) (CTy.pair (CTy.int IntKind.i64) (CTy.int IntKind.i64))) y7)), (5, (.row false 86 (CTy.pair (CTy.int IntKind.i64) (CTy.int IntKind.i64)) y8)), (6, (.row false 90 (CTy.pair (CTy.int IntKind.i64) (CTy.int IntKind.i64)) y9))]

def lt_spec_IsRide_l0 : X_spec_IsRide_l0 → LT X_spec_IsRide_l0
  | (y0, y1, y2, y3, y4, y5, y6, y7, y8, y9) => .ite (spec_IsRide_l0_0 y0 y6) (.need [(spec_IsRide_l0_1 y0), (spec_IsRide_l0_0 y0 y6), (spec_IsRide_l0_2 y0 y6), (spec_IsRide_l0_3 y0 y6), (spec_IsRide_l0_4 y0 y6), (spec_IsRide_l0_5 y0 y6), (spec_IsRide_l0_6 y0 y6), (spec_IsRide_l0_7 y0 y6)] (.ite (spec_IsRide_l0_8 y0 y6) (.ext 0 [(0, 0), (1, 1), (2, 2), (3, 3), (4, 4), (5, 5), (6, 6)]) (.nrm ((spec_IsRide_l0_9 y0), y1, y2, y3, y4, y5, y6, y7, y8, y9) [(0, 0), (1, 1), (2, 2), (3, 3), (4, 4), (5, 5), (6, 6)]))) (.ext 1 [(0, 0), (1, 1), (2, 2), (3, 3), (4, 4), (5, 5), (6, 6)])

def rd_spec_IsRide_l0 (s : St) : Option X_spec_IsRide_l0 :=
  (match s.look 3 with
  | some ⟨none, (.one ⟨false, [(.val (.int IntKind.i64 y0))]⟩)⟩ =>
  (match s.look 1 with
  | some ⟨none, (.one ⟨false, [(.ptr 448 0)]⟩)⟩ =>
  (match s.ent 448 with
  | some (.box 40 [(.val (.int IntKind.i64 y1)), (.ref 0), (.ref 1), (.ref 2), (.ref 3), (.val (.int IntKind.i64 y2)), (.ref 4), (.ref 5), (.val (.int IntKind.i64 y3))]) =>
  (match s.ent 0 with
  | some (.row false 2 (CTy.int IntKind.i64) y4) =>
  (match s.ent 1 with
  | some (.row false 78 (CTy.pair (CTy.int IntKind.i64) (CTy.pair (CTy.int IntKind.i64) (CTy.int IntKind.i64))) y5) =>
  (match s.ent 2 with
  | some (.row false 22 (CTy.sl (2 : TypeId) (CTy.int IntKind.i64)) y6) =>
  (match s.ent 3 with
  | some (.row false 82 (CTy.pair (CTy.int IntKind.i64) (CTy.pair (CTy.int IntKind.i64) (CTy.int IntKind.i64))) y7) =>
  (match s.ent 4 with
  | some (.row false 86 (CTy.pair (CTy.int IntKind.i64) (CTy.int IntKind.i64)) y8) =>
  (match s.ent 5 with
  | some (.row false 90 (CTy.pair (CTy.int IntKind.i64) (CTy.int IntKind.i64)) y9) =>
  some (y0, y1, y2, y3, y4, y5, y6, y7, y8, y9)
  | _ => none)
  | _ => none)
  | _ => none)
  | _ => none)
  | _ => none)
  | _ => none)
  | _ => none)
  | _ => none)
  | _ => none)

def lp_spec_IsRide_l0 : Lp X_spec_IsRide_l0 where
  h := ⟨[27, 28, 29, 30, 31, 34, 35, 36, 37, 38, 39, 40, 41, 42, 43, 44, 45, 46, 47, 48, 49, 50, 51, 2, 32, 33, 3], [0, 1, 2, 3, 4, 5, 6], [], []⟩
  JL := JL_spec_IsRide_l0
  JE := JE_spec_IsRide_l0
  XL := XL_spec_IsRide_l0
  XE := XE_spec_IsRide_l0
  q := fun j => match j with | 0 => .ret | _ => .exit 0
  tags := [0, 1]
  lt := lt_spec_IsRide_l0
  fuel := fun (y0, y1, y2, y3, y4, y5, y6, y7, y8, y9) => y0.natAbs + y1.natAbs + y2.natAbs + y3.natAbs + y4.length + y5.length + y6.length + y7.length + y8.length + y9.length
  fix := fun (_, y1, y2, y3, y4, y5, y6, y7, y8, y9) (y0, _, _, _, _, _, _, _, _, _) => (y0, y1, y2, y3, y4, y5, y6, y7, y8, y9)
  σ := [(0, 448), (1, 0), (2, 1), (3, 2), (4, 3), (5, 4), (6, 5)]
  rd := rd_spec_IsRide_l0

theorem lpok_spec_IsRide_l0 : LoopOk Tryz.prog (fun k => Nat.blt k Tryz.f15.ntmps) lp_spec_IsRide_l0.F (loopAt Tryz.f15 0) := by
  refine Lp.ok (tbl := [n_spec_IsTraffic, PF.lend n_spec_IsTraffic, PF.fz n_spec_IsTraffic, n_spec_AreFaults, PF.lend n_spec_AreFaults, PF.fz n_spec_AreFaults, n_spec_AreRestraints, PF.lend n_spec_AreRestraints, PF.fz n_spec_AreRestraints, p_spec_l33Rows, PF.lend p_spec_l33Rows, PF.fz p_spec_l33Rows, n_spec_AreLockFaults, PF.lend n_spec_AreLockFaults, PF.fz n_spec_AreLockFaults, p_spec_l27Mode, n_spec_IsPlan, PF.lend n_spec_IsPlan, PF.fz n_spec_IsPlan, n_spec_AreLocks, PF.lend n_spec_AreLocks, PF.fz n_spec_AreLocks, p_spec_l01In]) (lf := []) hmix lp_spec_IsRide_l0 (by kernel_rfl) (LOk.nil _) (fun _ => rfl) (fun j _ => by unfold lp_spec_IsRide_l0; match j with | 0 => rfl | _ + 1 => rfl) ?_ ?_ ?_ ?_ (fun _ => rfl) ?_
  · intro x; obtain ⟨y0, y1, y2, y3, y4, y5, y6, y7, y8, y9⟩ := x; kernel_rfl
  · intro x; obtain ⟨y0, y1, y2, y3, y4, y5, y6, y7, y8, y9⟩ := x; kernel_rfl
  · intro s x h
    have h : rd_spec_IsRide_l0 s = some x := h
    unfold rd_spec_IsRide_l0 at h
    repeat' split at h
    all_goals cases h
    exact ⟨absS_cons (by assumption) rfl (absS_cons (by assumption) rfl (rfl)), absE_cons rfl (by assumption) rfl (absE_cons rfl (by assumption) rfl (absE_cons rfl (by assumption) rfl (absE_cons rfl (by assumption) rfl (absE_cons rfl (by assumption) rfl (absE_cons rfl (by assumption) rfl (absE_cons rfl (by assumption) rfl (rfl)))))))⟩
  · intro x; obtain ⟨y0, y1, y2, y3, y4, y5, y6, y7, y8, y9⟩ := x; kernel_rfl
  · intro x z; obtain ⟨y0, y1, y2, y3, y4, y5, y6, y7, y8, y9⟩ := x; exact (And.intro (And.intro trivial rfl) trivial)

def spec_IsRide_a0 (x0 : Int) (x3 : List Int) (x4 : List (Int × Int × Int)) (x5 : List (List Int)) : Bool :=
  bif bif !isT x0 x3 then true else !(inR x0 (2 : Int) (8 : Int) && okFs x0 x4) then true else (↑(List.length x5) : Int) != (↑(List.length x3) : Int)

def spec_IsRide_a1 (x0 : Int) (x1 : Int) (x2 : Int) (x3 : List Int) (x4 : List (Int × Int × Int)) (x5 : List (List Int)) (x6 : List (Int × Int × Int)) (x7 : List (Int × Int)) (x8 : List (Int × Int)) : Int × Int × Int × Int × List Int × List (Int × Int × Int) × List (List Int) × List (Int × Int × Int) × List (Int × Int) × List (Int × Int) :=
  ((0 : Int), x0, x1, x2, x3, x4, x5, x6, x7, x8)

def spec_IsRide_a2 (x0 : Int) (x1 : Int) (x2 : Int) (x3 : List Int) (x4 : List (Int × Int × Int)) (x5 : List (List Int)) (x6 : List (Int × Int × Int)) (x7 : List (Int × Int)) (x8 : List (Int × Int)) : Bool :=
  Nat.beq (Prod.fst (Lp.res lp_spec_IsRide_l0 (spec_IsRide_a1 x0 x1 x2 x3 x4 x5 x6 x7 x8))) (0 : Nat)

def spec_IsRide_a3 (x1 : Int) (x5 : List (List Int)) (x6 : List (Int × Int × Int)) (x7 : List (Int × Int)) : Bool :=
  bif bif lfOk (spec_l33Rows_0 x5) x6 then spec_l27Mode_0 x1 else false then okPl x7 else false

def spec_IsRide_0 (x0 : Int) (x1 : Int) (x2 : Int) (x3 : List Int) (x4 : List (Int × Int × Int)) (x5 : List (List Int)) (x6 : List (Int × Int × Int)) (x7 : List (Int × Int)) (x8 : List (Int × Int)) : Bool :=
  bif spec_IsRide_a0 x0 x3 x4 x5 then false
  else
  bif spec_IsRide_a2 x0 x1 x2 x3 x4 x5 x6 x7 x8 then false
  else bif bif spec_IsRide_a3 x1 x5 x6 x7 then okLk x8 else false then spec_l01In_0 x2 (0 : Int) (100000 : Int) else false

def spec_IsRide_1 (x0 : Int) (x1 : Int) (x2 : Int) (x3 : List Int) (x4 : List (Int × Int × Int)) (x5 : List (List Int)) (x6 : List (Int × Int × Int)) (x7 : List (Int × Int)) (x8 : List (Int × Int)) : Bool :=
  allT
  [!(!!isT x0 x3 && true) || leN (List.length x4) (9223372036854775807 : Nat),
    spec_IsRide_a0 x0 x3 x4 x5 || Lp.fin lp_spec_IsRide_l0 (spec_IsRide_a1 x0 x1 x2 x3 x4 x5 x6 x7 x8),
    spec_IsRide_a0 x0 x3 x4 x5 || (spec_IsRide_a2 x0 x1 x2 x3 x4 x5 x6 x7 x8 || spec_l33Rows_1 x5),
    spec_IsRide_a0 x0 x3 x4 x5 || (spec_IsRide_a2 x0 x1 x2 x3 x4 x5 x6 x7 x8 || leN (List.length x6) (9223372036854775807 : Nat)),
    spec_IsRide_a0 x0 x3 x4 x5 ||
      (spec_IsRide_a2 x0 x1 x2 x3 x4 x5 x6 x7 x8 ||
        (!((bif lfOk (spec_l33Rows_0 x5) x6 then spec_l27Mode_0 x1 else false) && true) || leN (List.length x7) (9223372036854775807 : Nat))),
    spec_IsRide_a0 x0 x3 x4 x5 ||
      (spec_IsRide_a2 x0 x1 x2 x3 x4 x5 x6 x7 x8 || (!(spec_IsRide_a3 x1 x5 x6 x7 && true) || leN (List.length x8) (9223372036854775807 : Nat)))]

def F_spec_IsRide : List SV → List Entry → Option Out
  | [.one ⟨true, [.val (.int .i64 x0), .ref 0, .ref 1, .ref 2, .ref 3, .val (.int .i64 x1), .ref 4, .ref 5, .val (.int .i64 x2)]⟩], [.row false 2 (.int .i64) x3, .row false 78 (.pair (.int .i64) (.pair (.int .i64) (.int .i64))) x4, .row false 22 (.sl 2 (.int .i64)) x5, .row false 82 (.pair (.int .i64) (.pair (.int .i64) (.int .i64))) x6, .row false 86 (.pair (.int .i64) (.int .i64)) x7, .row false 90 (.pair (.int .i64) (.int .i64)) x8] => some ⟨(.one ⟨false, [(.val (.bool (spec_IsRide_0 x0 x1 x2 x3 x4 x5 x6 x7 x8)))]⟩), [(.row false 2 (CTy.int IntKind.i64) x3), (.row false 78 (CTy.pair (CTy.int IntKind.i64) (CTy.pair (CTy.int IntKind.i64) (CTy.int IntKind.i64))) x4), (.row false 22 (CTy.sl (2 : TypeId) (CTy.int IntKind.i64)) x5), (.row false 82 (CTy.pair (CTy.int IntKind.i64) (CTy.pair (CTy.int IntKind.i64) (CTy.int IntKind.i64))) x6), (.row false 86 (CTy.pair (CTy.int IntKind.i64) (CTy.int IntKind.i64)) x7), (.row false 90 (CTy.pair (CTy.int IntKind.i64) (CTy.int IntKind.i64)) x8)], [], [(spec_IsRide_1 x0 x1 x2 x3 x4 x5 x6 x7 x8)]⟩
  | _, _ => none

def p_spec_IsRide : PF Tryz.prog := PF.ofG Tryz.prog [n_spec_IsTraffic, PF.lend n_spec_IsTraffic, PF.fz n_spec_IsTraffic, n_spec_AreFaults, PF.lend n_spec_AreFaults, PF.fz n_spec_AreFaults, n_spec_AreRestraints, PF.lend n_spec_AreRestraints, PF.fz n_spec_AreRestraints, p_spec_l33Rows, PF.lend p_spec_l33Rows, PF.fz p_spec_l33Rows, n_spec_AreLockFaults, PF.lend n_spec_AreLockFaults, PF.fz n_spec_AreLockFaults, p_spec_l27Mode, n_spec_IsPlan, PF.lend n_spec_IsPlan, PF.fz n_spec_IsPlan, n_spec_AreLocks, PF.lend n_spec_AreLocks, PF.fz n_spec_AreLocks, p_spec_l01In] [lp_spec_IsRide_l0.F] hmix 15 Tryz.f15 Tryz.func15 (LOk.fnT (l := [loopAt Tryz.f15 0]) (by kernel_rfl) (.cons lpok_spec_IsRide_l0 (.nil _))) F_spec_IsRide (by
  intro vs es r h; unfold F_spec_IsRide at h; split at h
  · cases h; kernel_rfl
  · cases h)

def laws_toRide_0 (x3 : List Int) (x4 : List (Int × Int × Int)) (x5 : List (List Int)) (x6 : List (Int × Int × Int)) (x7 : List (Int × Int)) (x8 : List (Int × Int)) : Bool :=
  allT
  [leN (List.length x3) (1048576 : Nat), leN (List.length x4) (1048576 : Nat), ssOk (1048576 : Nat) x5, leN (List.length x6) (1048576 : Nat),
    leN (List.length x7) (1048576 : Nat), leN (List.length x8) (1048576 : Nat)]

def F_laws_toRide : List SV → List Entry → Option Out
  | [.one ⟨true, [.val (.int .i64 x0), .ref 0, .ref 1, .ref 2, .ref 3, .val (.int .i64 x1), .ref 4, .ref 5, .val (.int .i64 x2)]⟩], [.row false 2 (.int .i64) x3, .row false 80 (.pair (.int .i64) (.pair (.int .i64) (.int .i64))) x4, .row false 22 (.sl 2 (.int .i64)) x5, .row false 84 (.pair (.int .i64) (.pair (.int .i64) (.int .i64))) x6, .row false 88 (.pair (.int .i64) (.int .i64)) x7, .row false 92 (.pair (.int .i64) (.int .i64)) x8] => some ⟨(.one ⟨true, [(.val (.int IntKind.i64 x0)), (.ref 6), (.ref 7), (.ref 8), (.ref 9), (.val (.int IntKind.i64 x1)), (.ref 10), (.ref 11), (.val (.int IntKind.i64 x2))]⟩), [(.row false 2 (CTy.int IntKind.i64) x3), (.row false 80 (CTy.pair (CTy.int IntKind.i64) (CTy.pair (CTy.int IntKind.i64) (CTy.int IntKind.i64))) x4), (.row false 22 (CTy.sl (2 : TypeId) (CTy.int IntKind.i64)) x5), (.row false 84 (CTy.pair (CTy.int IntKind.i64) (CTy.pair (CTy.int IntKind.i64) (CTy.int IntKind.i64))) x6), (.row false 88 (CTy.pair (CTy.int IntKind.i64) (CTy.int IntKind.i64)) x7), (.row false 92 (CTy.pair (CTy.int IntKind.i64) (CTy.int IntKind.i64)) x8)], [(.row true 2 (CTy.int IntKind.i64) x3), (.row true 78 (CTy.pair (CTy.int IntKind.i64) (CTy.pair (CTy.int IntKind.i64) (CTy.int IntKind.i64))) x4), (.row true 22 (CTy.sl (2 : Nat) (CTy.int IntKind.i64)) x5), (.row true 82 (CTy.pair (CTy.int IntKind.i64) (CTy.pair (CTy.int IntKind.i64) (CTy.int IntKind.i64))) x6), (.row true 86 (CTy.pair (CTy.int IntKind.i64) (CTy.int IntKind.i64)) x7), (.row true 90 (CTy.pair (CTy.int IntKind.i64) (CTy.int IntKind.i64)) x8)], [(laws_toRide_0 x3 x4 x5 x6 x7 x8)]⟩
  | _, _ => none

def p_laws_toRide : PF Tryz.prog := PF.ofG Tryz.prog [n_laws_toTraffic, PF.lend n_laws_toTraffic, PF.fz n_laws_toTraffic, n_laws_toSensorFaultS, PF.lend n_laws_toSensorFaultS, PF.fz n_laws_toSensorFaultS, n_laws_toInt64SS, PF.lend n_laws_toInt64SS, PF.fz n_laws_toInt64SS, n_laws_toLockFaultS, PF.lend n_laws_toLockFaultS, PF.fz n_laws_toLockFaultS, n_laws_toTaskS, PF.lend n_laws_toTaskS, PF.fz n_laws_toTaskS, n_laws_toLockS, PF.lend n_laws_toLockS, PF.fz n_laws_toLockS] [] hmix 6 Tryz.f6 Tryz.func6 (fun c _ => LOk.nil c) F_laws_toRide (by
  intro vs es r h; unfold F_laws_toRide at h; split at h
  · cases h; kernel_rfl
  · cases h)

abbrev X_impl_IsRide_l0 := Int × Int × List (List Int) × Int × Int × Int × List Int × List (Int × (Int × Int)) × List (Int × (Int × Int)) × List (Int × Int) × List (Int × Int)

def impl_IsRide_l0_a0 (y0 : Int) (y2 : List (List Int)) : List Int :=
  Option.getD y2[Int.toNat y0]? (dflt (CTy.sl (2 : TypeId) (CTy.int IntKind.i64)))

def impl_IsRide_l0_0 (y0 : Int) (y1 : Int) : Bool :=
  ltI y0 y1

def impl_IsRide_l0_1 (y0 : Int) : Bool :=
  leI (0 : Int) y0

def impl_IsRide_l0_2 (y0 : Int) (y2 : List (List Int)) : Bool :=
  ltI y0 (↑(List.length y2) : Int)

def impl_IsRide_l0_3 (y0 : Int) (y2 : List (List Int)) : Bool :=
  ltN (Int.toNat y0) (List.length y2)

def impl_IsRide_l0_4 (y0 : Int) (y2 : List (List Int)) : Bool :=
  leN (List.length (impl_IsRide_l0_a0 y0 y2)) (9223372036854775807 : Nat)

def impl_IsRide_l0_5 (y0 : Int) (y2 : List (List Int)) : Bool :=
  !(!!areR (impl_IsRide_l0_a0 y0 y2) && true) || leI (0 : Int) (0 : Int)

def impl_IsRide_l0_6 (y0 : Int) (y2 : List (List Int)) : Bool :=
  !(!!areR (impl_IsRide_l0_a0 y0 y2) && true) || ltI (0 : Int) (↑(List.length y2) : Int)

def impl_IsRide_l0_7 (y0 : Int) (y2 : List (List Int)) : Bool :=
  !(!!areR (impl_IsRide_l0_a0 y0 y2) && true) || ltN (Int.toNat (0 : Int)) (List.length y2)

def impl_IsRide_l0_8 (y0 : Int) (y2 : List (List Int)) : Bool :=
  bif !areR (impl_IsRide_l0_a0 y0 y2) then true
  else
  (↑(List.length (impl_IsRide_l0_a0 y0 y2)) : Int) !=
    (↑(List.length
          (bif !!areR (impl_IsRide_l0_a0 y0 y2) && true then Option.getD y2[Int.toNat (0 : Int)]? (dflt (CTy.sl (2 : TypeId) (CTy.int IntKind.i64)))
          else [])) :
      Int)

def impl_IsRide_l0_9 (y0 : Int) : Int :=
  IntKind.wrap IntKind.i64 (y0 + (1 : Int))

def JL_impl_IsRide_l0 : X_impl_IsRide_l0 → List (Nat × SV)
  | (y0, y1, _, _, _, _, _, _, _, _, _) => [(31, (.one ⟨false, [(.val (.int IntKind.i64 y0))]⟩)), (30, (.one ⟨false, [(.val (.int IntKind.i64 y1))]⟩)), (29, (.one ⟨false, [(.ref 0)]⟩)), (1, (.one ⟨false, [(.ptr 1 0)]⟩))]

def JE_impl_IsRide_l0 : X_impl_IsRide_l0 → List (Nat × Entry)
  | (_, _, y2, y3, y4, y5, y6, y7, y8, y9, y10) => [(0, (.row false 22 (CTy.sl (2 : TypeId) (CTy.int IntKind.i64)) y2)), (1, (.box 40 [(.val (.int IntKind.i64 y3)), (.ref 2), (.ref 3), (.ref 0), (.ref 4), (.val (.int IntKind.i64 y4)), (.ref 5), (.ref 6), (.val (.int IntKind.i64 y5))])), (2, (.row false 2 (CTy.int IntKind.i64) y6)), (3, (.row false 78 (CTy.pair (CTy.int IntKind.i64) (CTy.pair (CTy.int IntKind.i64) (CTy.int IntKind.i64))) y7)), (4, (.row false 82 (CTy.pair (CTy.int IntKind.i64) (CTy.pair (CTy.int IntKind.i64) (CTy.int IntKind.i64))) y8)), (5, (.row false 86 (CTy.pair (CTy.int IntKind.i64) (CTy.int IntKind.i64)) y9)), (6, (.row false 90 (CTy.pair (CTy.int IntKind.i64) (CTy.int IntKind.i64)) y10))]

def XL_impl_IsRide_l0 : Nat → X_impl_IsRide_l0 → List (Nat × SV)
  | 0, (_, _, _, _, _, _, _, _, _, _, _) => [(2, (.one ⟨false, [(.val (.bool false))]⟩))]
  | _, (_, _, _, _, _, _, _, _, _, _, _) => []

def XE_impl_IsRide_l0 : Nat → X_impl_IsRide_l0 → List (Nat × Entry)
  | 0, (_, _, y2, y3, y4, y5, y6, y7, y8, y9, y10) => [(0, (.row false 22 (CTy.sl (2 : TypeId) (CTy.int IntKind.i64)) y2)), (1, (.box 40 [(.val (.int IntKind.i64 y3)), (.ref 2), (.ref 3), (.ref 0), (.ref 4), (.val (.int IntKind.i64 y4)), (.ref 5), (.ref 6), (.val (.int IntKind.i64 y5))])), (2, (.row false 2 (CTy.int IntKind.i64) y6)), (3, (.row false 78 (CTy.pair (CTy.int IntKind.i64) (CTy.pair (CTy.int IntKind.i64) (CTy.int IntKind.i64))) y7)), (4, (.row false 82 (CTy.pair (CTy.int IntKind.i64) (CTy.pair (CTy.int IntKind.i64) (CTy.int IntKind.i64))) y8)), (5, (.row false 86 (CTy.pair (CTy.int IntKind.i64) (CTy.int IntKind.i64)) y9)), (6, (.row false 90 (CTy.pair (CTy.int IntKind.i64) (CTy.int IntKind.i64)) y10))]
  | _, (_, _, y2, y3, y4, y5, y6, y7, y8, y9, y10) => [(0, (.row false 22 (CTy.sl (2 : TypeId) (CTy.int IntKind.i64)) y2)), (1, (.box 40 [(.val (.int IntKind.i64 y3)), (.ref 2), (.ref 3), (.ref 0), (.ref 4), (.val (.int IntKind.i64 y4)), (.ref 5), (.ref 6), (.val (.int IntKind.i64 y5))])), (2, (.row false 2 (CTy.int IntKind.i64) y6)), (3, (.row false 78 (CTy.pair (CTy.int IntKind.i64) (CTy.pair (CTy.int IntKind.i64) (CTy.int IntKind.i64))) y7)), (4, (.row false 82 (CTy.pair (CTy.int IntKind.i64) (CTy.pair (CTy.int IntKind.i64) (CTy.int IntKind.i64))) y8)), (5, (.row false 86 (CTy.pair (CTy.int IntKind.i64) (CTy.int IntKind.i64)) y9)), (6, (.row false 90 (CTy.pair (CTy.int IntKind.i64) (CTy.int IntKind.i64)) y10))]

def lt_impl_IsRide_l0 : X_impl_IsRide_l0 → LT X_impl_IsRide_l0
  | (y0, y1, y2, y3, y4, y5, y6, y7, y8, y9, y10) => .ite (impl_IsRide_l0_0 y0 y1) (.need [(impl_IsRide_l0_1 y0), (impl_IsRide_l0_2 y0 y2), (impl_IsRide_l0_3 y0 y2)] (.need [(impl_IsRide_l0_4 y0 y2), (impl_IsRide_l0_5 y0 y2), (impl_IsRide_l0_6 y0 y2), (impl_IsRide_l0_7 y0 y2)] (.ite (impl_IsRide_l0_8 y0 y2) (.ext 0 [(0, 0), (1, 1), (2, 2), (3, 3), (4, 4), (5, 5), (6, 6)]) (.nrm ((impl_IsRide_l0_9 y0), y1, y2, y3, y4, y5, y6, y7, y8, y9, y10) [(0, 0), (1, 1), (2, 2), (3, 3), (4, 4), (5, 5), (6, 6)])))) (.ext 1 [(0, 0), (1, 1), (2, 2), (3, 3), (4, 4), (5, 5), (6, 6)])

def rd_impl_IsRide_l0 (s : St) : Option X_impl_IsRide_l0 :=
  (match s.look 31 with
  | some ⟨none, (.one ⟨false, [(.val (.int IntKind.i64 y0))]⟩)⟩ =>
  (match s.look 30 with
  | some ⟨none, (.one ⟨false, [(.val (.int IntKind.i64 y1))]⟩)⟩ =>
  (match s.look 29 with
  | some ⟨none, (.one ⟨false, [(.ref 2)]⟩)⟩ =>
  (match s.look 1 with
  | some ⟨none, (.one ⟨false, [(.ptr 448 0)]⟩)⟩ =>
  (match s.ent 2 with
  | some (.row false 22 (CTy.sl (2 : TypeId) (CTy.int IntKind.i64)) y2) =>
  (match s.ent 448 with
  | some (.box 40 [(.val (.int IntKind.i64 y3)), (.ref 0), (.ref 1), (.ref 2), (.ref 3), (.val (.int IntKind.i64 y4)), (.ref 4), (.ref 5), (.val (.int IntKind.i64 y5))]) =>
  (match s.ent 0 with
  | some (.row false 2 (CTy.int IntKind.i64) y6) =>
  (match s.ent 1 with
  | some (.row false 78 (CTy.pair (CTy.int IntKind.i64) (CTy.pair (CTy.int IntKind.i64) (CTy.int IntKind.i64))) y7) =>
  (match s.ent 3 with
  | some (.row false 82 (CTy.pair (CTy.int IntKind.i64) (CTy.pair (CTy.int IntKind.i64) (CTy.int IntKind.i64))) y8) =>
  (match s.ent 4 with
  | some (.row false 86 (CTy.pair (CTy.int IntKind.i64) (CTy.int IntKind.i64)) y9) =>
  (match s.ent 5 with
  | some (.row false 90 (CTy.pair (CTy.int IntKind.i64) (CTy.int IntKind.i64)) y10) =>
  some (y0, y1, y2, y3, y4, y5, y6, y7, y8, y9, y10)
  | _ => none)
  | _ => none)
  | _ => none)
  | _ => none)
  | _ => none)
  | _ => none)
  | _ => none)
  | _ => none)
  | _ => none)
  | _ => none)
  | _ => none)

def lp_impl_IsRide_l0 : Lp X_impl_IsRide_l0 where
  h := ⟨[32, 33, 34, 4, 35, 36, 37, 38, 39, 40, 41, 42, 43, 44, 45, 46, 47, 2, 48, 31], [0, 1, 2, 3, 4, 5, 6], [], []⟩
  JL := JL_impl_IsRide_l0
  JE := JE_impl_IsRide_l0
  XL := XL_impl_IsRide_l0
  XE := XE_impl_IsRide_l0
  q := fun j => match j with | 0 => .ret | _ => .exit 0
  tags := [0, 1]
  lt := lt_impl_IsRide_l0
  fuel := fun (y0, y1, y2, y3, y4, y5, y6, y7, y8, y9, y10) => y0.natAbs + y1.natAbs + y2.length + y3.natAbs + y4.natAbs + y5.natAbs + y6.length + y7.length + y8.length + y9.length + y10.length
  fix := fun (_, y1, y2, y3, y4, y5, y6, y7, y8, y9, y10) (y0, _, _, _, _, _, _, _, _, _, _) => (y0, y1, y2, y3, y4, y5, y6, y7, y8, y9, y10)
  σ := [(0, 2), (1, 448), (2, 0), (3, 1), (4, 3), (5, 4), (6, 5)]
  rd := rd_impl_IsRide_l0

theorem lpok_impl_IsRide_l0 : LoopOk Tryz.prog (fun k => Nat.blt k Tryz.f25.ntmps) lp_impl_IsRide_l0.F (loopAt Tryz.f25 0) := by
  refine Lp.ok (tbl := [n_impl_IsTraffic, PF.lend n_impl_IsTraffic, PF.fz n_impl_IsTraffic, n_impl_areFaults, PF.lend n_impl_areFaults, PF.fz n_impl_areFaults, n_impl_AreRestraints, PF.lend n_impl_AreRestraints, PF.fz n_impl_AreRestraints, n_impl_AreLockFaults, PF.lend n_impl_AreLockFaults, PF.fz n_impl_AreLockFaults, p_impl_length_int64, PF.lend p_impl_length_int64, PF.fz p_impl_length_int64, p_impl_isMode, n_impl_IsPlan, PF.lend n_impl_IsPlan, PF.fz n_impl_IsPlan, n_impl_AreLocks, PF.lend n_impl_AreLocks, PF.fz n_impl_AreLocks, p_impl_isDay]) (lf := []) hmix lp_impl_IsRide_l0 (by kernel_rfl) (LOk.nil _) (fun _ => rfl) (fun j _ => by unfold lp_impl_IsRide_l0; match j with | 0 => rfl | _ + 1 => rfl) ?_ ?_ ?_ ?_ (fun _ => rfl) ?_
  · intro x; obtain ⟨y0, y1, y2, y3, y4, y5, y6, y7, y8, y9, y10⟩ := x; kernel_rfl
  · intro x; obtain ⟨y0, y1, y2, y3, y4, y5, y6, y7, y8, y9, y10⟩ := x; kernel_rfl
  · intro s x h
    have h : rd_impl_IsRide_l0 s = some x := h
    unfold rd_impl_IsRide_l0 at h
    repeat' split at h
    all_goals cases h
    exact ⟨absS_cons (by assumption) rfl (absS_cons (by assumption) rfl (absS_cons (by assumption) rfl (absS_cons (by assumption) rfl (rfl)))), absE_cons rfl (by assumption) rfl (absE_cons rfl (by assumption) rfl (absE_cons rfl (by assumption) rfl (absE_cons rfl (by assumption) rfl (absE_cons rfl (by assumption) rfl (absE_cons rfl (by assumption) rfl (absE_cons rfl (by assumption) rfl (rfl)))))))⟩
  · intro x; obtain ⟨y0, y1, y2, y3, y4, y5, y6, y7, y8, y9, y10⟩ := x; kernel_rfl
  · intro x z; obtain ⟨y0, y1, y2, y3, y4, y5, y6, y7, y8, y9, y10⟩ := x; exact (And.intro (And.intro trivial rfl) trivial)

def impl_IsRide_a0 (x0 : Int) (x3 : List Int) (x4 : List (Int × Int × Int)) (x5 : List (List Int)) : Bool :=
  bif bif !isT x0 x3 then true else !okFs x0 x4 then true else (↑(List.length x5) : Int) != (↑(List.length x3) : Int)

def impl_IsRide_a1 (x0 : Int) (x1 : Int) (x2 : Int) (x3 : List Int) (x4 : List (Int × Int × Int)) (x5 : List (List Int)) (x6 : List (Int × Int × Int)) (x7 : List (Int × Int)) (x8 : List (Int × Int)) : Int × Int × List (List Int) × Int × Int × Int × List Int × List (Int × Int × Int) × List (Int × Int × Int) × List (Int × Int) × List (Int × Int) :=
  ((0 : Int), (↑(List.length x5) : Int), x5, x0, x1, x2, x3, x4, x6, x7, x8)

def impl_IsRide_a2 (x0 : Int) (x1 : Int) (x2 : Int) (x3 : List Int) (x4 : List (Int × Int × Int)) (x5 : List (List Int)) (x6 : List (Int × Int × Int)) (x7 : List (Int × Int)) (x8 : List (Int × Int)) : Bool :=
  Nat.beq (Prod.fst (Lp.res lp_impl_IsRide_l0 (impl_IsRide_a1 x0 x1 x2 x3 x4 x5 x6 x7 x8))) (0 : Nat)

def impl_IsRide_a3 (x1 : Int) (x5 : List (List Int)) (x6 : List (Int × Int × Int)) : Bool :=
  bif lfOk (impl_length_int64_0 (Option.getD x5[Int.toNat (0 : Int)]? (dflt (CTy.sl (2 : TypeId) (CTy.int IntKind.i64))))) x6 then impl_isMode_0 x1
  else false

def impl_IsRide_0 (x0 : Int) (x1 : Int) (x2 : Int) (x3 : List Int) (x4 : List (Int × Int × Int)) (x5 : List (List Int)) (x6 : List (Int × Int × Int)) (x7 : List (Int × Int)) (x8 : List (Int × Int)) : Bool :=
  bif impl_IsRide_a0 x0 x3 x4 x5 then false
  else
  bif impl_IsRide_a2 x0 x1 x2 x3 x4 x5 x6 x7 x8 then false
  else bif bif bif impl_IsRide_a3 x1 x5 x6 then okPl x7 else false then okLk x8 else false then impl_isDay_0 x2 else false

def impl_IsRide_1 (x0 : Int) (x1 : Int) (x2 : Int) (x3 : List Int) (x4 : List (Int × Int × Int)) (x5 : List (List Int)) (x6 : List (Int × Int × Int)) (x7 : List (Int × Int)) (x8 : List (Int × Int)) : Bool :=
  allT
  [!(!!isT x0 x3 && true) || leN (List.length x4) (9223372036854775807 : Nat),
    impl_IsRide_a0 x0 x3 x4 x5 || Lp.fin lp_impl_IsRide_l0 (impl_IsRide_a1 x0 x1 x2 x3 x4 x5 x6 x7 x8),
    impl_IsRide_a0 x0 x3 x4 x5 || (impl_IsRide_a2 x0 x1 x2 x3 x4 x5 x6 x7 x8 || leI (0 : Int) (0 : Int)),
    impl_IsRide_a0 x0 x3 x4 x5 || (impl_IsRide_a2 x0 x1 x2 x3 x4 x5 x6 x7 x8 || ltI (0 : Int) (↑(List.length x5) : Int)),
    impl_IsRide_a0 x0 x3 x4 x5 || (impl_IsRide_a2 x0 x1 x2 x3 x4 x5 x6 x7 x8 || ltN (Int.toNat (0 : Int)) (List.length x5)),
    impl_IsRide_a0 x0 x3 x4 x5 || (impl_IsRide_a2 x0 x1 x2 x3 x4 x5 x6 x7 x8 || leN (List.length x6) (9223372036854775807 : Nat)),
    impl_IsRide_a0 x0 x3 x4 x5 ||
      (impl_IsRide_a2 x0 x1 x2 x3 x4 x5 x6 x7 x8 || (!(impl_IsRide_a3 x1 x5 x6 && true) || leN (List.length x7) (9223372036854775807 : Nat))),
    impl_IsRide_a0 x0 x3 x4 x5 ||
      (impl_IsRide_a2 x0 x1 x2 x3 x4 x5 x6 x7 x8 ||
        (!((bif impl_IsRide_a3 x1 x5 x6 then okPl x7 else false) && true) || leN (List.length x8) (9223372036854775807 : Nat)))]

def F_impl_IsRide : List SV → List Entry → Option Out
  | [.one ⟨true, [.val (.int .i64 x0), .ref 0, .ref 1, .ref 2, .ref 3, .val (.int .i64 x1), .ref 4, .ref 5, .val (.int .i64 x2)]⟩], [.row false 2 (.int .i64) x3, .row false 78 (.pair (.int .i64) (.pair (.int .i64) (.int .i64))) x4, .row false 22 (.sl 2 (.int .i64)) x5, .row false 82 (.pair (.int .i64) (.pair (.int .i64) (.int .i64))) x6, .row false 86 (.pair (.int .i64) (.int .i64)) x7, .row false 90 (.pair (.int .i64) (.int .i64)) x8] => some ⟨(.one ⟨false, [(.val (.bool (impl_IsRide_0 x0 x1 x2 x3 x4 x5 x6 x7 x8)))]⟩), [(.row false 2 (CTy.int IntKind.i64) x3), (.row false 78 (CTy.pair (CTy.int IntKind.i64) (CTy.pair (CTy.int IntKind.i64) (CTy.int IntKind.i64))) x4), (.row false 22 (CTy.sl (2 : TypeId) (CTy.int IntKind.i64)) x5), (.row false 82 (CTy.pair (CTy.int IntKind.i64) (CTy.pair (CTy.int IntKind.i64) (CTy.int IntKind.i64))) x6), (.row false 86 (CTy.pair (CTy.int IntKind.i64) (CTy.int IntKind.i64)) x7), (.row false 90 (CTy.pair (CTy.int IntKind.i64) (CTy.int IntKind.i64)) x8)], [], [(impl_IsRide_1 x0 x1 x2 x3 x4 x5 x6 x7 x8)]⟩
  | _, _ => none

def p_impl_IsRide : PF Tryz.prog := PF.ofG Tryz.prog [n_impl_IsTraffic, PF.lend n_impl_IsTraffic, PF.fz n_impl_IsTraffic, n_impl_areFaults, PF.lend n_impl_areFaults, PF.fz n_impl_areFaults, n_impl_AreRestraints, PF.lend n_impl_AreRestraints, PF.fz n_impl_AreRestraints, n_impl_AreLockFaults, PF.lend n_impl_AreLockFaults, PF.fz n_impl_AreLockFaults, p_impl_length_int64, PF.lend p_impl_length_int64, PF.fz p_impl_length_int64, p_impl_isMode, n_impl_IsPlan, PF.lend n_impl_IsPlan, PF.fz n_impl_IsPlan, n_impl_AreLocks, PF.lend n_impl_AreLocks, PF.fz n_impl_AreLocks, p_impl_isDay] [lp_impl_IsRide_l0.F] hmix 25 Tryz.f25 Tryz.func25 (LOk.fnT (l := [loopAt Tryz.f25 0]) (by kernel_rfl) (.cons lpok_impl_IsRide_l0 (.nil _))) F_impl_IsRide (by
  intro vs es r h; unfold F_impl_IsRide at h; split at h
  · cases h; kernel_rfl
  · cases h)

def laws_eqRide_0 (x0 : Int) (x1 : Int) (x2 : Int) (x3 : Int) (x4 : Int) (x5 : Int) (x6 : List Int) (x7 : List (Int × Int × Int)) (x8 : List (List Int)) (x9 : List (Int × Int × Int)) (x10 : List (Int × Int)) (x11 : List (Int × Int)) (x12 : List Int) (x13 : List (Int × Int × Int)) (x14 : List (List Int)) (x15 : List (Int × Int × Int)) (x16 : List (Int × Int)) (x17 : List (Int × Int)) : Bool :=
  bif !eqT x0 x3 x6 x12 then false
  else
  bif !eqFls x7 x13 then false
  else
    bif !eqSS x8 x14 then false
    else
      bif !eqFls x9 x15 then false
      else bif x1 != x4 then false else bif !eqPr x10 x16 then false else bif !eqPr x11 x17 then false else bif x2 != x5 then false else true

def laws_eqRide_1 (x0 : Int) (x1 : Int) (x3 : Int) (x4 : Int) (x6 : List Int) (x7 : List (Int × Int × Int)) (x8 : List (List Int)) (x9 : List (Int × Int × Int)) (x10 : List (Int × Int)) (x11 : List (Int × Int)) (x12 : List Int) (x13 : List (Int × Int × Int)) (x14 : List (List Int)) (x15 : List (Int × Int × Int)) (x16 : List (Int × Int)) : Bool :=
  allT
  [leN (List.length x6) (9223372036854775807 : Nat), !eqT x0 x3 x6 x12 || leN (List.length x7) (9223372036854775807 : Nat),
    !eqT x0 x3 x6 x12 || (!eqFls x7 x13 || ssOk (9223372036854775807 : Nat) x8),
    !eqT x0 x3 x6 x12 || (!eqFls x7 x13 || (!eqSS x8 x14 || leN (List.length x9) (9223372036854775807 : Nat))),
    !eqT x0 x3 x6 x12 || (!eqFls x7 x13 || (!eqSS x8 x14 || (!eqFls x9 x15 || (x1 != x4 || leN (List.length x10) (9223372036854775807 : Nat))))),
    !eqT x0 x3 x6 x12 ||
      (!eqFls x7 x13 || (!eqSS x8 x14 || (!eqFls x9 x15 || (x1 != x4 || (!eqPr x10 x16 || leN (List.length x11) (9223372036854775807 : Nat))))))]

def F_laws_eqRide : List SV → List Entry → Option Out
  | [.one ⟨true, [.val (.int .i64 x0), .ref 0, .ref 1, .ref 2, .ref 3, .val (.int .i64 x1), .ref 4, .ref 5, .val (.int .i64 x2)]⟩, .one ⟨true, [.val (.int .i64 x3), .ref 6, .ref 7, .ref 8, .ref 9, .val (.int .i64 x4), .ref 10, .ref 11, .val (.int .i64 x5)]⟩], [.row false 2 (.int .i64) x6, .row false 78 (.pair (.int .i64) (.pair (.int .i64) (.int .i64))) x7, .row false 22 (.sl 2 (.int .i64)) x8, .row false 82 (.pair (.int .i64) (.pair (.int .i64) (.int .i64))) x9, .row false 86 (.pair (.int .i64) (.int .i64)) x10, .row false 90 (.pair (.int .i64) (.int .i64)) x11, .row false 2 (.int .i64) x12, .row false 78 (.pair (.int .i64) (.pair (.int .i64) (.int .i64))) x13, .row false 22 (.sl 2 (.int .i64)) x14, .row false 82 (.pair (.int .i64) (.pair (.int .i64) (.int .i64))) x15, .row false 86 (.pair (.int .i64) (.int .i64)) x16, .row false 90 (.pair (.int .i64) (.int .i64)) x17] => some ⟨(.one ⟨false, [(.val (.bool (laws_eqRide_0 x0 x1 x2 x3 x4 x5 x6 x7 x8 x9 x10 x11 x12 x13 x14 x15 x16 x17)))]⟩), [(.row false 2 (CTy.int IntKind.i64) x6), (.row false 78 (CTy.pair (CTy.int IntKind.i64) (CTy.pair (CTy.int IntKind.i64) (CTy.int IntKind.i64))) x7), (.row false 22 (CTy.sl (2 : TypeId) (CTy.int IntKind.i64)) x8), (.row false 82 (CTy.pair (CTy.int IntKind.i64) (CTy.pair (CTy.int IntKind.i64) (CTy.int IntKind.i64))) x9), (.row false 86 (CTy.pair (CTy.int IntKind.i64) (CTy.int IntKind.i64)) x10), (.row false 90 (CTy.pair (CTy.int IntKind.i64) (CTy.int IntKind.i64)) x11), (.row false 2 (CTy.int IntKind.i64) x12), (.row false 78 (CTy.pair (CTy.int IntKind.i64) (CTy.pair (CTy.int IntKind.i64) (CTy.int IntKind.i64))) x13), (.row false 22 (CTy.sl (2 : TypeId) (CTy.int IntKind.i64)) x14), (.row false 82 (CTy.pair (CTy.int IntKind.i64) (CTy.pair (CTy.int IntKind.i64) (CTy.int IntKind.i64))) x15), (.row false 86 (CTy.pair (CTy.int IntKind.i64) (CTy.int IntKind.i64)) x16), (.row false 90 (CTy.pair (CTy.int IntKind.i64) (CTy.int IntKind.i64)) x17)], [], [(laws_eqRide_1 x0 x1 x3 x4 x6 x7 x8 x9 x10 x11 x12 x13 x14 x15 x16)]⟩
  | _, _ => none

def p_laws_eqRide : PF Tryz.prog := PF.ofG Tryz.prog [n_laws_eqTraffic, PF.lend n_laws_eqTraffic, PF.fz n_laws_eqTraffic, n_laws_eqSensorFaultS, PF.lend n_laws_eqSensorFaultS, PF.fz n_laws_eqSensorFaultS, n_laws_eqInt64SS, PF.lend n_laws_eqInt64SS, PF.fz n_laws_eqInt64SS, n_laws_eqLockFaultS, PF.lend n_laws_eqLockFaultS, PF.fz n_laws_eqLockFaultS, n_laws_eqTaskS, PF.lend n_laws_eqTaskS, PF.fz n_laws_eqTaskS, n_laws_eqLockS, PF.lend n_laws_eqLockS, PF.fz n_laws_eqLockS] [] hmix 8 Tryz.f8 Tryz.func8 (fun c _ => LOk.nil c) F_laws_eqRide (by
  intro vs es r h; unfold F_laws_eqRide at h; split at h
  · cases h; kernel_rfl
  · cases h)

end Go.SX

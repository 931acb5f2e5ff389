/- What functions of the program come to, row by row (made by a program of the workplace). -/
import Derived.Test.YtjhgiognlkmehaaGreatTXh
import Derived.Test.YtjhgiognlkmehaaGreatProg
import Derived.Test.YtjhgiognlkmehaaGreatNk
namespace Go.SX
open Go.Proofs
set_option maxRecDepth 100000

abbrev X_laws_szInt64SS_l0 := Int × Int × List (List Int)

def laws_szInt64SS_l0_a0 (y0 : Int) (y2 : List (List Int)) : List Int :=
  Option.getD y2[Int.toNat y0]? (dflt (CTy.sl (2 : TypeId) (CTy.int IntKind.i64)))

def laws_szInt64SS_l0_0 (y0 : Int) (y2 : List (List Int)) : Bool :=
  ltI y0 (↑(List.length y2) : Int)

def laws_szInt64SS_l0_1 (y0 : Int) : Bool :=
  leI (0 : Int) y0

def laws_szInt64SS_l0_2 (y0 : Int) (y2 : List (List Int)) : Bool :=
  ltN (Int.toNat y0) (List.length y2)

def laws_szInt64SS_l0_3 (y0 : Int) (y1 : Int) (y2 : List (List Int)) : Bool :=
  leN (List.length (laws_szInt64SS_l0_a0 y0 y2)) (9223372036854775807 : Nat) && (leI (-1 : Int) y1 && leI y1 (1048576 : Int))

def laws_szInt64SS_l0_4 (y0 : Int) (y1 : Int) (y2 : List (List Int)) : Bool :=
  ltI (szV y1 (laws_szInt64SS_l0_a0 y0 y2)) (0 : Int)

def laws_szInt64SS_l0_5  : Int :=
  (-1 : Int)

def laws_szInt64SS_l0_6 (y0 : Int) : Int :=
  IntKind.wrap IntKind.i64 (y0 + (1 : Int))

def laws_szInt64SS_l0_7 (y0 : Int) (y1 : Int) (y2 : List (List Int)) : Int :=
  szV y1 (laws_szInt64SS_l0_a0 y0 y2)

def JL_laws_szInt64SS_l0 : X_laws_szInt64SS_l0 → List (Nat × SV)
  | (y0, y1, _) => [(5, (.one ⟨false, [(.val (.int IntKind.i64 y0))]⟩)), (0, (.one ⟨false, [(.ref 0)]⟩)), (1, (.one ⟨false, [(.val (.int IntKind.i64 y1))]⟩))]

def JE_laws_szInt64SS_l0 : X_laws_szInt64SS_l0 → List (Nat × Entry)
  | (_, _, y2) => [(0, (.row false 22 (CTy.sl (2 : TypeId) (CTy.int IntKind.i64)) y2))]

def XL_laws_szInt64SS_l0 : Nat → X_laws_szInt64SS_l0 → List (Nat × SV)
  | 0, (_, _, _) => [(4, (.one ⟨false, [(.val (.int IntKind.i64 (laws_szInt64SS_l0_5)))]⟩))]
  | _, (_, y1, _) => [(1, (.one ⟨false, [(.val (.int IntKind.i64 y1))]⟩))]

def XE_laws_szInt64SS_l0 : Nat → X_laws_szInt64SS_l0 → List (Nat × Entry)
  | 0, (_, _, y2) => [(0, (.row false 22 (CTy.sl (2 : TypeId) (CTy.int IntKind.i64)) y2))]
  | _, (_, _, y2) => [(0, (.row false 22 (CTy.sl (2 : TypeId) (CTy.int IntKind.i64)) y2))]

def lt_laws_szInt64SS_l0 : X_laws_szInt64SS_l0 → LT X_laws_szInt64SS_l0
  | (y0, y1, y2) => .ite (laws_szInt64SS_l0_0 y0 y2) (.need [(laws_szInt64SS_l0_1 y0), (laws_szInt64SS_l0_0 y0 y2), (laws_szInt64SS_l0_2 y0 y2), (laws_szInt64SS_l0_3 y0 y1 y2)] (.ite (laws_szInt64SS_l0_4 y0 y1 y2) (.ext 0 [(0, 0)]) (.nrm ((laws_szInt64SS_l0_6 y0), (laws_szInt64SS_l0_7 y0 y1 y2), y2) [(0, 0)]))) (.ext 1 [(0, 0)])

def rd_laws_szInt64SS_l0 (s : St) : Option X_laws_szInt64SS_l0 :=
  (match s.look 5 with
  | some ⟨none, (.one ⟨false, [(.val (.int IntKind.i64 y0))]⟩)⟩ =>
  (match s.look 0 with
  | some ⟨none, (.one ⟨false, [(.ref 0)]⟩)⟩ =>
  (match s.look 1 with
  | some ⟨none, (.one ⟨false, [(.val (.int IntKind.i64 y1))]⟩)⟩ =>
  (match s.ent 0 with
  | some (.row false 22 (CTy.sl (2 : TypeId) (CTy.int IntKind.i64)) y2) =>
  some (y0, y1, y2)
  | _ => none)
  | _ => none)
  | _ => none)
  | _ => none)

def lp_laws_szInt64SS_l0 : Lp X_laws_szInt64SS_l0 where
  h := ⟨[12, 13, 14, 15, 18, 19, 20, 21, 22, 23, 1, 24, 25, 4, 16, 17, 5], [0], [], []⟩
  JL := JL_laws_szInt64SS_l0
  JE := JE_laws_szInt64SS_l0
  XL := XL_laws_szInt64SS_l0
  XE := XE_laws_szInt64SS_l0
  q := fun j => match j with | 0 => .ret | _ => .exit 0
  tags := [0, 1]
  lt := lt_laws_szInt64SS_l0
  fuel := fun (y0, y1, y2) => y0.natAbs + y1.natAbs + y2.length
  fix := fun (_, _, y2) (y0, y1, _) => (y0, y1, y2)
  σ := [(0, 0)]
  rd := rd_laws_szInt64SS_l0

theorem lpok_laws_szInt64SS_l0 : LoopOk Tryz.prog (fun k => Nat.blt k Tryz.f11.ntmps) lp_laws_szInt64SS_l0.F (loopAt Tryz.f11 0) := by
  refine Lp.ok (tbl := [n_laws_szInt64S, PF.lend n_laws_szInt64S, PF.fz n_laws_szInt64S]) (lf := []) hmix lp_laws_szInt64SS_l0 (by kernel_rfl) (LOk.nil _) (fun _ => rfl) (fun j _ => by unfold lp_laws_szInt64SS_l0; match j with | 0 => rfl | _ + 1 => rfl) ?_ ?_ ?_ ?_ (fun _ => rfl) ?_
  · intro x; obtain ⟨y0, y1, y2⟩ := x; kernel_rfl
  · intro x; obtain ⟨y0, y1, y2⟩ := x; kernel_rfl
  · intro s x h
    have h : rd_laws_szInt64SS_l0 s = some x := h
    unfold rd_laws_szInt64SS_l0 at h
    repeat' split at h
    all_goals cases h
    exact ⟨absS_cons (by assumption) rfl (absS_cons (by assumption) rfl (absS_cons (by assumption) rfl (rfl))), absE_cons rfl (by assumption) rfl (rfl)⟩
  · intro x; obtain ⟨y0, y1, y2⟩ := x; kernel_rfl
  · intro x z; obtain ⟨y0, y1, y2⟩ := x; exact (And.intro (And.intro trivial rfl) trivial)

def laws_szInt64SS_a0 (x0 : Int) (x1 : List (List Int)) : Int :=
  IntKind.wrap IntKind.i64 (x0 - (↑(List.length x1) : Int))

def laws_szInt64SS_a1 (x0 : Int) (x1 : List (List Int)) : Int × Int × List (List Int) :=
  ((0 : Int), laws_szInt64SS_a0 x0 x1, x1)

def laws_szInt64SS_0 (x0 : Int) (x1 : List (List Int)) : Int :=
  bif ltI (laws_szInt64SS_a0 x0 x1) (0 : Int) then (-1 : Int)
  else
  bif Nat.beq (Prod.fst (Lp.res lp_laws_szInt64SS_l0 (laws_szInt64SS_a1 x0 x1))) (0 : Nat) then laws_szInt64SS_l0_5
  else Prod.fst (Prod.snd (Prod.snd (Lp.res lp_laws_szInt64SS_l0 (laws_szInt64SS_a1 x0 x1))))

def laws_szInt64SS_1 (x0 : Int) (x1 : List (List Int)) : Bool :=
  allT [ltI (laws_szInt64SS_a0 x0 x1) (0 : Int) || Lp.fin lp_laws_szInt64SS_l0 (laws_szInt64SS_a1 x0 x1)]

def F_laws_szInt64SS : List SV → List Entry → Option Out
  | [.one ⟨false, [.ref 0]⟩, .one ⟨false, [.val (.int .i64 x0)]⟩], [.row false 22 (.sl 2 (.int .i64)) x1] => some ⟨(.one ⟨false, [(.val (.int IntKind.i64 (laws_szInt64SS_0 x0 x1)))]⟩), [(.row false 22 (CTy.sl (2 : TypeId) (CTy.int IntKind.i64)) x1)], [], [(laws_szInt64SS_1 x0 x1)]⟩
  | _, _ => none

def p_laws_szInt64SS : PF Tryz.prog := PF.ofG Tryz.prog [n_laws_szInt64S, PF.lend n_laws_szInt64S, PF.fz n_laws_szInt64S] [lp_laws_szInt64SS_l0.F] hmix 11 Tryz.f11 Tryz.func11 (LOk.fnT (l := [loopAt Tryz.f11 0]) (by kernel_rfl) (.cons lpok_laws_szInt64SS_l0 (.nil _))) F_laws_szInt64SS (by
  intro vs es r h; unfold F_laws_szInt64SS at h; split at h
  · cases h; kernel_rfl
  · cases h)

def laws_szLockFaultS_a0 (x0 : Int) (x1 : List (Int × Int × Int)) : Int :=
  IntKind.wrap IntKind.i64 (x0 - (↑(List.length x1) : Int))

def laws_szLockFaultS_0 (x0 : Int) (x1 : List (Int × Int × Int)) : Int :=
  bif ltI (laws_szLockFaultS_a0 x0 x1) (0 : Int) then (-1 : Int) else laws_szLockFaultS_a0 x0 x1

def F_laws_szLockFaultS : List SV → List Entry → Option Out
  | [.one ⟨false, [.ref 0]⟩, .one ⟨false, [.val (.int .i64 x0)]⟩], [.row false 84 (.pair (.int .i64) (.pair (.int .i64) (.int .i64))) x1] => some ⟨(.one ⟨false, [(.val (.int IntKind.i64 (laws_szLockFaultS_0 x0 x1)))]⟩), [(.row false 84 (CTy.pair (CTy.int IntKind.i64) (CTy.pair (CTy.int IntKind.i64) (CTy.int IntKind.i64))) x1)], [], []⟩
  | _, _ => none

def p_laws_szLockFaultS : PF Tryz.prog := PF.ofG Tryz.prog [] [] hmix 12 Tryz.f12 Tryz.func12 (fun c _ => LOk.nil c) F_laws_szLockFaultS (by
  intro vs es r h; unfold F_laws_szLockFaultS at h; split at h
  · cases h; kernel_rfl
  · cases h)

def laws_szTaskS_a0 (x0 : Int) (x1 : List (Int × Int)) : Int :=
  IntKind.wrap IntKind.i64 (x0 - (↑(List.length x1) : Int))

def laws_szTaskS_0 (x0 : Int) (x1 : List (Int × Int)) : Int :=
  bif ltI (laws_szTaskS_a0 x0 x1) (0 : Int) then (-1 : Int) else laws_szTaskS_a0 x0 x1

def F_laws_szTaskS : List SV → List Entry → Option Out
  | [.one ⟨false, [.ref 0]⟩, .one ⟨false, [.val (.int .i64 x0)]⟩], [.row false 88 (.pair (.int .i64) (.int .i64)) x1] => some ⟨(.one ⟨false, [(.val (.int IntKind.i64 (laws_szTaskS_0 x0 x1)))]⟩), [(.row false 88 (CTy.pair (CTy.int IntKind.i64) (CTy.int IntKind.i64)) x1)], [], []⟩
  | _, _ => none

def p_laws_szTaskS : PF Tryz.prog := PF.ofG Tryz.prog [] [] hmix 13 Tryz.f13 Tryz.func13 (fun c _ => LOk.nil c) F_laws_szTaskS (by
  intro vs es r h; unfold F_laws_szTaskS at h; split at h
  · cases h; kernel_rfl
  · cases h)

def laws_szLockS_a0 (x0 : Int) (x1 : List (Int × Int)) : Int :=
  IntKind.wrap IntKind.i64 (x0 - (↑(List.length x1) : Int))

def laws_szLockS_0 (x0 : Int) (x1 : List (Int × Int)) : Int :=
  bif ltI (laws_szLockS_a0 x0 x1) (0 : Int) then (-1 : Int) else laws_szLockS_a0 x0 x1

def F_laws_szLockS : List SV → List Entry → Option Out
  | [.one ⟨false, [.ref 0]⟩, .one ⟨false, [.val (.int .i64 x0)]⟩], [.row false 92 (.pair (.int .i64) (.int .i64)) x1] => some ⟨(.one ⟨false, [(.val (.int IntKind.i64 (laws_szLockS_0 x0 x1)))]⟩), [(.row false 92 (CTy.pair (CTy.int IntKind.i64) (CTy.int IntKind.i64)) x1)], [], []⟩
  | _, _ => none

def p_laws_szLockS : PF Tryz.prog := PF.ofG Tryz.prog [] [] hmix 14 Tryz.f14 Tryz.func14 (fun c _ => LOk.nil c) F_laws_szLockS (by
  intro vs es r h; unfold F_laws_szLockS at h; split at h
  · cases h; kernel_rfl
  · cases h)

abbrev X_spec_AreRestraints_l0 := Int × List Int

def spec_AreRestraints_l0_0 (y0 : Int) (y1 : List Int) : Bool :=
  ltI y0 (↑(List.length y1) : Int)

def spec_AreRestraints_l0_1 (y0 : Int) : Bool :=
  leI (0 : Int) y0

def spec_AreRestraints_l0_2 (y0 : Int) (y1 : List Int) : Bool :=
  ltN (Int.toNat y0) (List.length y1)

def spec_AreRestraints_l0_3 (y0 : Int) (y1 : List Int) : Bool :=
  !spec_l01In_0 (Option.getD y1[Int.toNat y0]? (0 : Int)) (0 : Int) (2 : Int)

def spec_AreRestraints_l0_4 (y0 : Int) : Int :=
  IntKind.wrap IntKind.i64 (y0 + (1 : Int))

def JL_spec_AreRestraints_l0 : X_spec_AreRestraints_l0 → List (Nat × SV)
  | (y0, _) => [(3, (.one ⟨false, [(.val (.int IntKind.i64 y0))]⟩)), (0, (.one ⟨false, [(.ref 0)]⟩))]

def JE_spec_AreRestraints_l0 : X_spec_AreRestraints_l0 → List (Nat × Entry)
  | (_, y1) => [(0, (.row false 2 (CTy.int IntKind.i64) y1))]

def XL_spec_AreRestraints_l0 : Nat → X_spec_AreRestraints_l0 → List (Nat × SV)
  | 0, (_, _) => [(2, (.one ⟨false, [(.val (.bool false))]⟩))]
  | _, (_, _) => []

def XE_spec_AreRestraints_l0 : Nat → X_spec_AreRestraints_l0 → List (Nat × Entry)
  | 0, (_, y1) => [(0, (.row false 2 (CTy.int IntKind.i64) y1))]
  | _, (_, y1) => [(0, (.row false 2 (CTy.int IntKind.i64) y1))]

def lt_spec_AreRestraints_l0 : X_spec_AreRestraints_l0 → LT X_spec_AreRestraints_l0
  | (y0, y1) => .ite (spec_AreRestraints_l0_0 y0 y1) (.need [(spec_AreRestraints_l0_1 y0), (spec_AreRestraints_l0_0 y0 y1), (spec_AreRestraints_l0_2 y0 y1)] (.ite (spec_AreRestraints_l0_3 y0 y1) (.ext 0 [(0, 0)]) (.nrm ((spec_AreRestraints_l0_4 y0), y1) [(0, 0)]))) (.ext 1 [(0, 0)])

def rd_spec_AreRestraints_l0 (s : St) : Option X_spec_AreRestraints_l0 :=
  (match s.look 3 with
  | some ⟨none, (.one ⟨false, [(.val (.int IntKind.i64 y0))]⟩)⟩ =>
  (match s.look 0 with
  | some ⟨none, (.one ⟨false, [(.ref 0)]⟩)⟩ =>
  (match s.ent 0 with
  | some (.row false 2 (CTy.int IntKind.i64) y1) =>
  some (y0, y1)
  | _ => none)
  | _ => none)
  | _ => none)

def lp_spec_AreRestraints_l0 : Lp X_spec_AreRestraints_l0 where
  h := ⟨[4, 5, 6, 7, 10, 11, 12, 13, 14, 15, 2, 8, 9, 3], [0], [], []⟩
  JL := JL_spec_AreRestraints_l0
  JE := JE_spec_AreRestraints_l0
  XL := XL_spec_AreRestraints_l0
  XE := XE_spec_AreRestraints_l0
  q := fun j => match j with | 0 => .ret | _ => .exit 0
  tags := [0, 1]
  lt := lt_spec_AreRestraints_l0
  fuel := fun (y0, y1) => y0.natAbs + y1.length
  fix := fun (_, y1) (y0, _) => (y0, y1)
  σ := [(0, 0)]
  rd := rd_spec_AreRestraints_l0

theorem lpok_spec_AreRestraints_l0 : LoopOk Tryz.prog (fun k => Nat.blt k Tryz.f38.ntmps) lp_spec_AreRestraints_l0.F (loopAt Tryz.f38 0) := by
  refine Lp.ok (tbl := [p_spec_l01In]) (lf := []) hmix lp_spec_AreRestraints_l0 (by kernel_rfl) (LOk.nil _) (fun _ => rfl) (fun j _ => by unfold lp_spec_AreRestraints_l0; match j with | 0 => rfl | _ + 1 => rfl) ?_ ?_ ?_ ?_ (fun _ => rfl) ?_
  · intro x; obtain ⟨y0, y1⟩ := x; kernel_rfl
  · intro x; obtain ⟨y0, y1⟩ := x; kernel_rfl
  · intro s x h
    have h : rd_spec_AreRestraints_l0 s = some x := h
    unfold rd_spec_AreRestraints_l0 at h
    repeat' split at h
    all_goals cases h
    exact ⟨absS_cons (by assumption) rfl (absS_cons (by assumption) rfl (rfl)), absE_cons rfl (by assumption) rfl (rfl)⟩
  · intro x; obtain ⟨y0, y1⟩ := x; kernel_rfl
  · intro x z; obtain ⟨y0, y1⟩ := x; exact (And.intro (And.intro trivial rfl) trivial)

def spec_AreRestraints_0 (x0 : List Int) : Bool :=
  bif Nat.beq (Prod.fst (Lp.res lp_spec_AreRestraints_l0 ((0 : Int), x0))) (0 : Nat) then false
  else spec_l01In_0 (↑(List.length x0) : Int) (1 : Int) (12 : Int)

def spec_AreRestraints_1 (x0 : List Int) : Bool :=
  allT [Lp.fin lp_spec_AreRestraints_l0 ((0 : Int), x0)]

def F_spec_AreRestraints : List SV → List Entry → Option Out
  | [.one ⟨false, [.ref 0]⟩], [.row false 2 (.int .i64) x0] => some ⟨(.one ⟨false, [(.val (.bool (spec_AreRestraints_0 x0)))]⟩), [(.row false 2 (CTy.int IntKind.i64) x0)], [], [(spec_AreRestraints_1 x0)]⟩
  | _, _ => none

def p_spec_AreRestraints : PF Tryz.prog := PF.ofG Tryz.prog [p_spec_l01In] [lp_spec_AreRestraints_l0.F] hmix 38 Tryz.f38 Tryz.func38 (LOk.fnT (l := [loopAt Tryz.f38 0]) (by kernel_rfl) (.cons lpok_spec_AreRestraints_l0 (.nil _))) F_spec_AreRestraints (by
  intro vs es r h; unfold F_spec_AreRestraints at h; split at h
  · cases h; kernel_rfl
  · cases h)

def spec_l33Rows_0 (x5 : List (List Int)) : Int :=
  (↑(List.length (Option.getD x5[Int.toNat (0 : Int)]? (dflt (CTy.sl (2 : TypeId) (CTy.int IntKind.i64))))) : Int)

def spec_l33Rows_1 (x5 : List (List Int)) : Bool :=
  allT [ltI (0 : Int) (↑(List.length x5) : Int), ltN (Int.toNat (0 : Int)) (List.length x5)]

def F_spec_l33Rows : List SV → List Entry → Option Out
  | [.one ⟨true, [.val (.int .i64 _x0), .ref 0, .ref 1, .ref 2, .ref 3, .val (.int .i64 _x1), .ref 4, .ref 5, .val (.int .i64 _x2)]⟩], [.row false 2 (.int .i64) x3, .row false 78 (.pair (.int .i64) (.pair (.int .i64) (.int .i64))) x4, .row false 22 (.sl 2 (.int .i64)) x5, .row false 82 (.pair (.int .i64) (.pair (.int .i64) (.int .i64))) x6, .row false 86 (.pair (.int .i64) (.int .i64)) x7, .row false 90 (.pair (.int .i64) (.int .i64)) x8] => some ⟨(.one ⟨false, [(.val (.int IntKind.i64 (spec_l33Rows_0 x5)))]⟩), [(.row false 2 (CTy.int IntKind.i64) x3), (.row false 78 (CTy.pair (CTy.int IntKind.i64) (CTy.pair (CTy.int IntKind.i64) (CTy.int IntKind.i64))) x4), (.row false 22 (CTy.sl (2 : TypeId) (CTy.int IntKind.i64)) x5), (.row false 82 (CTy.pair (CTy.int IntKind.i64) (CTy.pair (CTy.int IntKind.i64) (CTy.int IntKind.i64))) x6), (.row false 86 (CTy.pair (CTy.int IntKind.i64) (CTy.int IntKind.i64)) x7), (.row false 90 (CTy.pair (CTy.int IntKind.i64) (CTy.int IntKind.i64)) x8)], [], [(spec_l33Rows_1 x5)]⟩
  | _, _ => none

def p_spec_l33Rows : PF Tryz.prog := PF.ofG Tryz.prog [] [] hmix 39 Tryz.f39 Tryz.func39 (fun c _ => LOk.nil c) F_spec_l33Rows (by
  intro vs es r h; unfold F_spec_l33Rows at h; split at h
  · cases h; kernel_rfl
  · cases h)

abbrev X_spec_AreLockFaults_l0_l0 := Int × Int × List (Int × (Int × Int)) × Int × Int × Int

def spec_AreLockFaults_l0_l0_a0 (y0 : Int) (y2 : List (Int × (Int × Int))) : Int × Int × Int :=
  Option.getD y2[Int.toNat y0]? ((0 : Int), (0 : Int), (0 : Int))

def spec_AreLockFaults_l0_l0_a1 (y0 : Int) (y2 : List (Int × (Int × Int))) (y3 : Int) : Bool :=
  Prod.fst (spec_AreLockFaults_l0_l0_a0 y0 y2) == y3

def spec_AreLockFaults_l0_l0_0 (y0 : Int) (y1 : Int) : Bool :=
  ltI y0 y1

def spec_AreLockFaults_l0_l0_1 (y0 : Int) : Bool :=
  leI (0 : Int) y0

def spec_AreLockFaults_l0_l0_2 (y0 : Int) (y2 : List (Int × (Int × Int))) : Bool :=
  ltI y0 (↑(List.length y2) : Int)

def spec_AreLockFaults_l0_l0_3 (y0 : Int) (y2 : List (Int × (Int × Int))) : Bool :=
  ltN (Int.toNat y0) (List.length y2)

def spec_AreLockFaults_l0_l0_4 (y0 : Int) (y2 : List (Int × (Int × Int))) (y3 : Int) : Bool :=
  !(spec_AreLockFaults_l0_l0_a1 y0 y2 y3 && true) || leI (0 : Int) y0

def spec_AreLockFaults_l0_l0_5 (y0 : Int) (y2 : List (Int × (Int × Int))) (y3 : Int) : Bool :=
  !(spec_AreLockFaults_l0_l0_a1 y0 y2 y3 && true) || ltI y0 (↑(List.length y2) : Int)

def spec_AreLockFaults_l0_l0_6 (y0 : Int) (y2 : List (Int × (Int × Int))) (y3 : Int) : Bool :=
  !(spec_AreLockFaults_l0_l0_a1 y0 y2 y3 && true) || ltN (Int.toNat y0) (List.length y2)

def spec_AreLockFaults_l0_l0_7 (y0 : Int) (y2 : List (Int × (Int × Int))) (y3 : Int) (y4 : Int) : Bool :=
  bif spec_AreLockFaults_l0_l0_a1 y0 y2 y3 then Prod.fst (Prod.snd (spec_AreLockFaults_l0_l0_a0 y0 y2)) == y4 else false

def spec_AreLockFaults_l0_l0_8 (y0 : Int) : Int :=
  IntKind.wrap IntKind.i64 (y0 + (1 : Int))

def JL_spec_AreLockFaults_l0_l0 : X_spec_AreLockFaults_l0_l0 → List (Nat × SV)
  | (y0, y1, _, _, _, _) => [(7, (.one ⟨false, [(.val (.int IntKind.i64 y0))]⟩)), (5, (.one ⟨false, [(.val (.int IntKind.i64 y1))]⟩)), (1, (.one ⟨false, [(.ref 0)]⟩)), (6, (.one ⟨false, [(.ptr 1 0)]⟩))]

def JE_spec_AreLockFaults_l0_l0 : X_spec_AreLockFaults_l0_l0 → List (Nat × Entry)
  | (_, _, y2, y3, y4, y5) => [(0, (.row false 82 (CTy.pair (CTy.int IntKind.i64) (CTy.pair (CTy.int IntKind.i64) (CTy.int IntKind.i64))) y2)), (1, (.box 82 [(.val (.int IntKind.i64 y3)), (.val (.int IntKind.i64 y4)), (.val (.int IntKind.i64 y5))]))]

def XL_spec_AreLockFaults_l0_l0 : Nat → X_spec_AreLockFaults_l0_l0 → List (Nat × SV)
  | 0, (_, _, _, _, _, _) => [(4, (.one ⟨false, [(.val (.bool false))]⟩))]
  | _, (_, _, _, _, _, _) => []

def XE_spec_AreLockFaults_l0_l0 : Nat → X_spec_AreLockFaults_l0_l0 → List (Nat × Entry)
  | 0, (_, _, y2, y3, y4, y5) => [(0, (.row false 82 (CTy.pair (CTy.int IntKind.i64) (CTy.pair (CTy.int IntKind.i64) (CTy.int IntKind.i64))) y2)), (1, (.box 82 [(.val (.int IntKind.i64 y3)), (.val (.int IntKind.i64 y4)), (.val (.int IntKind.i64 y5))]))]
  | _, (_, _, y2, y3, y4, y5) => [(0, (.row false 82 (CTy.pair (CTy.int IntKind.i64) (CTy.pair (CTy.int IntKind.i64) (CTy.int IntKind.i64))) y2)), (1, (.box 82 [(.val (.int IntKind.i64 y3)), (.val (.int IntKind.i64 y4)), (.val (.int IntKind.i64 y5))]))]

def lt_spec_AreLockFaults_l0_l0 : X_spec_AreLockFaults_l0_l0 → LT X_spec_AreLockFaults_l0_l0
  | (y0, y1, y2, y3, y4, y5) => .ite (spec_AreLockFaults_l0_l0_0 y0 y1) (.need [(spec_AreLockFaults_l0_l0_1 y0), (spec_AreLockFaults_l0_l0_2 y0 y2), (spec_AreLockFaults_l0_l0_3 y0 y2), (spec_AreLockFaults_l0_l0_4 y0 y2 y3), (spec_AreLockFaults_l0_l0_5 y0 y2 y3), (spec_AreLockFaults_l0_l0_6 y0 y2 y3)] (.ite (spec_AreLockFaults_l0_l0_7 y0 y2 y3 y4) (.ext 0 [(0, 0), (1, 1)]) (.nrm ((spec_AreLockFaults_l0_l0_8 y0), y1, y2, y3, y4, y5) [(0, 0), (1, 1)]))) (.ext 1 [(0, 0), (1, 1)])

def rd_spec_AreLockFaults_l0_l0 (s : St) : Option X_spec_AreLockFaults_l0_l0 :=
  (match s.look 7 with
  | some ⟨none, (.one ⟨false, [(.val (.int IntKind.i64 y0))]⟩)⟩ =>
  (match s.look 5 with
  | some ⟨none, (.one ⟨false, [(.val (.int IntKind.i64 y1))]⟩)⟩ =>
  (match s.look 1 with
  | some ⟨none, (.one ⟨false, [(.ref 0)]⟩)⟩ =>
  (match s.look 6 with
  | some ⟨none, (.one ⟨false, [(.ptr 576 0)]⟩)⟩ =>
  (match s.ent 0 with
  | some (.row false 82 (CTy.pair (CTy.int IntKind.i64) (CTy.pair (CTy.int IntKind.i64) (CTy.int IntKind.i64))) y2) =>
  (match s.ent 576 with
  | some (.box 82 [(.val (.int IntKind.i64 y3)), (.val (.int IntKind.i64 y4)), (.val (.int IntKind.i64 y5))]) =>
  some (y0, y1, y2, y3, y4, y5)
  | _ => none)
  | _ => none)
  | _ => none)
  | _ => none)
  | _ => none)
  | _ => none)

def lp_spec_AreLockFaults_l0_l0 : Lp X_spec_AreLockFaults_l0_l0 where
  h := ⟨[36, 37, 38, 41, 42, 43, 44, 45, 46, 47, 48, 49, 50, 51, 52, 53, 54, 55, 56, 57, 58, 4, 39, 40, 7], [0, 1], [], []⟩
  JL := JL_spec_AreLockFaults_l0_l0
  JE := JE_spec_AreLockFaults_l0_l0
  XL := XL_spec_AreLockFaults_l0_l0
  XE := XE_spec_AreLockFaults_l0_l0
  q := fun j => match j with | 0 => .ret | _ => .exit 2
  tags := [0, 1]
  lt := lt_spec_AreLockFaults_l0_l0
  fuel := fun (y0, y1, y2, y3, y4, y5) => y0.natAbs + y1.natAbs + y2.length + y3.natAbs + y4.natAbs + y5.natAbs
  fix := fun (_, y1, y2, y3, y4, y5) (y0, _, _, _, _, _) => (y0, y1, y2, y3, y4, y5)
  σ := [(0, 0), (1, 576)]
  rd := rd_spec_AreLockFaults_l0_l0

theorem lpok_spec_AreLockFaults_l0_l0 : LoopOk Tryz.prog (memN [8, 9, 10, 11, 14, 15, 16, 17, 6, 18, 19, 20, 21, 22, 23, 24, 25, 26, 27, 28, 29, 30, 31, 32, 33, 34, 35, 4, 7, 36, 37, 38, 41, 42, 43, 44, 45, 46, 47, 48, 49, 50, 51, 52, 53, 54, 55, 56, 57, 58, 39, 40, 12, 13, 5]) lp_spec_AreLockFaults_l0_l0.F (loopIn (loopAt Tryz.f40 0) 0) := by
  refine Lp.ok (tbl := [p_spec_l01In]) (lf := []) hmix lp_spec_AreLockFaults_l0_l0 (by kernel_rfl) (LOk.nil _) (fun _ => rfl) (fun j _ => by unfold lp_spec_AreLockFaults_l0_l0; match j with | 0 => rfl | _ + 1 => rfl) ?_ ?_ ?_ ?_ (fun _ => rfl) ?_
  · intro x; obtain ⟨y0, y1, y2, y3, y4, y5⟩ := x; kernel_rfl
  · intro x; obtain ⟨y0, y1, y2, y3, y4, y5⟩ := x; kernel_rfl
  · intro s x h
    have h : rd_spec_AreLockFaults_l0_l0 s = some x := h
    unfold rd_spec_AreLockFaults_l0_l0 at h
    repeat' split at h
    all_goals cases h
    exact ⟨absS_cons (by assumption) rfl (absS_cons (by assumption) rfl (absS_cons (by assumption) rfl (absS_cons (by assumption) rfl (rfl)))), absE_cons rfl (by assumption) rfl (absE_cons rfl (by assumption) rfl (rfl))⟩
  · intro x; obtain ⟨y0, y1, y2, y3, y4, y5⟩ := x; kernel_rfl
  · intro x z; obtain ⟨y0, y1, y2, y3, y4, y5⟩ := x; exact (And.intro (And.intro trivial rfl) trivial)

abbrev X_spec_AreLockFaults_l0 := Int × Int × List (Int × (Int × Int))

def spec_AreLockFaults_l0_a0 (y0 : Int) (y2 : List (Int × (Int × Int))) : Int × Int × Int :=
  Option.getD y2[Int.toNat y0]? ((0 : Int), (0 : Int), (0 : Int))

def spec_AreLockFaults_l0_a1 (y0 : Int) (y2 : List (Int × (Int × Int))) : Int × Int × List (Int × Int × Int) × Int × Int × Int :=
  ((0 : Int), y0, y2, Prod.fst (spec_AreLockFaults_l0_a0 y0 y2), Prod.fst (Prod.snd (spec_AreLockFaults_l0_a0 y0 y2)),
  Prod.snd (Prod.snd (spec_AreLockFaults_l0_a0 y0 y2)))

def spec_AreLockFaults_l0_0 (y0 : Int) (y2 : List (Int × (Int × Int))) : Bool :=
  ltI y0 (↑(List.length y2) : Int)

def spec_AreLockFaults_l0_1 (y0 : Int) : Bool :=
  leI (0 : Int) y0

def spec_AreLockFaults_l0_2 (y0 : Int) (y2 : List (Int × (Int × Int))) : Bool :=
  ltN (Int.toNat y0) (List.length y2)

def spec_AreLockFaults_l0_3 (y0 : Int) (y1 : Int) (y2 : List (Int × (Int × Int))) : Bool :=
  bif
    bif !spec_l01In_0 (Prod.fst (spec_AreLockFaults_l0_a0 y0 y2)) (0 : Int) (IntKind.wrap IntKind.i64 (y1 - (1 : Int))) then true
    else !spec_l01In_0 (Prod.fst (Prod.snd (spec_AreLockFaults_l0_a0 y0 y2))) (0 : Int) (1 : Int) then
  true
  else !spec_l01In_0 (Prod.snd (Prod.snd (spec_AreLockFaults_l0_a0 y0 y2))) (0 : Int) (1 : Int)

def spec_AreLockFaults_l0_4 (y0 : Int) (y2 : List (Int × (Int × Int))) : Bool :=
  Lp.fin lp_spec_AreLockFaults_l0_l0 (spec_AreLockFaults_l0_a1 y0 y2)

def spec_AreLockFaults_l0_5 (y0 : Int) (y2 : List (Int × (Int × Int))) : Bool :=
  Nat.beq (Prod.fst (Lp.res lp_spec_AreLockFaults_l0_l0 (spec_AreLockFaults_l0_a1 y0 y2))) (0 : Nat)

def spec_AreLockFaults_l0_6 (y0 : Int) : Int :=
  IntKind.wrap IntKind.i64 (y0 + (1 : Int))

def JL_spec_AreLockFaults_l0 : X_spec_AreLockFaults_l0 → List (Nat × SV)
  | (y0, y1, _) => [(5, (.one ⟨false, [(.val (.int IntKind.i64 y0))]⟩)), (1, (.one ⟨false, [(.ref 0)]⟩)), (0, (.one ⟨false, [(.val (.int IntKind.i64 y1))]⟩))]

def JE_spec_AreLockFaults_l0 : X_spec_AreLockFaults_l0 → List (Nat × Entry)
  | (_, _, y2) => [(0, (.row false 82 (CTy.pair (CTy.int IntKind.i64) (CTy.pair (CTy.int IntKind.i64) (CTy.int IntKind.i64))) y2))]

def XL_spec_AreLockFaults_l0 : Nat → X_spec_AreLockFaults_l0 → List (Nat × SV)
  | 0, (_, _, _) => [(4, (.one ⟨false, [(.val (.bool false))]⟩))]
  | 1, (_, _, _) => [(4, (.one ⟨false, [(.val (.bool false))]⟩))]
  | _, (_, _, _) => []

def XE_spec_AreLockFaults_l0 : Nat → X_spec_AreLockFaults_l0 → List (Nat × Entry)
  | 0, (_, _, y2) => [(0, (.row false 82 (CTy.pair (CTy.int IntKind.i64) (CTy.pair (CTy.int IntKind.i64) (CTy.int IntKind.i64))) y2))]
  | 1, (_, _, y2) => [(0, (.row false 82 (CTy.pair (CTy.int IntKind.i64) (CTy.pair (CTy.int IntKind.i64) (CTy.int IntKind.i64))) y2))]
  | _, (_, _, y2) => [(0, (.row false 82 (CTy.pair (CTy.int IntKind.i64) (CTy.pair (CTy.int IntKind.i64) (CTy.int IntKind.i64))) y2))]

def lt_spec_AreLockFaults_l0 : X_spec_AreLockFaults_l0 → LT X_spec_AreLockFaults_l0
  | (y0, y1, y2) => .ite (spec_AreLockFaults_l0_0 y0 y2) (.need [(spec_AreLockFaults_l0_1 y0), (spec_AreLockFaults_l0_0 y0 y2), (spec_AreLockFaults_l0_2 y0 y2)] (.ite (spec_AreLockFaults_l0_3 y0 y1 y2) (.ext 0 [(0, 0)]) (.need [(spec_AreLockFaults_l0_4 y0 y2)] (.ite (spec_AreLockFaults_l0_5 y0 y2) (.ext 1 [(0, 0)]) (.nrm ((spec_AreLockFaults_l0_6 y0), y1, y2) [(0, 0)]))))) (.ext 2 [(0, 0)])

def rd_spec_AreLockFaults_l0 (s : St) : Option X_spec_AreLockFaults_l0 :=
  (match s.look 5 with
  | some ⟨none, (.one ⟨false, [(.val (.int IntKind.i64 y0))]⟩)⟩ =>
  (match s.look 1 with
  | some ⟨none, (.one ⟨false, [(.ref 0)]⟩)⟩ =>
  (match s.look 0 with
  | some ⟨none, (.one ⟨false, [(.val (.int IntKind.i64 y1))]⟩)⟩ =>
  (match s.ent 0 with
  | some (.row false 82 (CTy.pair (CTy.int IntKind.i64) (CTy.pair (CTy.int IntKind.i64) (CTy.int IntKind.i64))) y2) =>
  some (y0, y1, y2)
  | _ => none)
  | _ => none)
  | _ => none)
  | _ => none)

def lp_spec_AreLockFaults_l0 : Lp X_spec_AreLockFaults_l0 where
  h := ⟨[8, 9, 10, 11, 14, 15, 16, 17, 6, 18, 19, 20, 21, 22, 23, 24, 25, 26, 27, 28, 29, 30, 31, 32, 33, 34, 35, 4, 7, 36, 37, 38, 41, 42, 43, 44, 45, 46, 47, 48, 49, 50, 51, 52, 53, 54, 55, 56, 57, 58, 39, 40, 12, 13, 5], [0], [], []⟩
  JL := JL_spec_AreLockFaults_l0
  JE := JE_spec_AreLockFaults_l0
  XL := XL_spec_AreLockFaults_l0
  XE := XE_spec_AreLockFaults_l0
  q := fun j => match j with | 0 => .ret | 1 => .ret | _ => .exit 0
  tags := [0, 1, 2]
  lt := lt_spec_AreLockFaults_l0
  fuel := fun (y0, y1, y2) => y0.natAbs + y1.natAbs + y2.length
  fix := fun (_, y1, y2) (y0, _, _) => (y0, y1, y2)
  σ := [(0, 0)]
  rd := rd_spec_AreLockFaults_l0

theorem lpok_spec_AreLockFaults_l0 : LoopOk Tryz.prog (fun k => Nat.blt k Tryz.f40.ntmps) lp_spec_AreLockFaults_l0.F (loopAt Tryz.f40 0) := by
  refine Lp.ok (tbl := [p_spec_l01In]) (lf := [lp_spec_AreLockFaults_l0_l0.F]) hmix lp_spec_AreLockFaults_l0 (by kernel_rfl) (LOk.allT (l := [loopIn (loopAt Tryz.f40 0) 0]) (by kernel_rfl) (.cons lpok_spec_AreLockFaults_l0_l0 (.nil _))) (fun _ => rfl) (fun j _ => by unfold lp_spec_AreLockFaults_l0; match j with | 0 => rfl | 1 => rfl | _ + 2 => rfl) ?_ ?_ ?_ ?_ (fun _ => rfl) ?_
  · intro x; obtain ⟨y0, y1, y2⟩ := x; kernel_rfl
  · intro x; obtain ⟨y0, y1, y2⟩ := x; kernel_rfl
  · intro s x h
    have h : rd_spec_AreLockFaults_l0 s = some x := h
    unfold rd_spec_AreLockFaults_l0 at h
    repeat' split at h
    all_goals cases h
    exact ⟨absS_cons (by assumption) rfl (absS_cons (by assumption) rfl (absS_cons (by assumption) rfl (rfl))), absE_cons rfl (by assumption) rfl (rfl)⟩
  · intro x; obtain ⟨y0, y1, y2⟩ := x; kernel_rfl
  · intro x z; obtain ⟨y0, y1, y2⟩ := x; exact (And.intro (And.intro trivial (And.intro trivial rfl)) trivial)

def spec_AreLockFaults_a0 (x0 : Int) (x1 : List (Int × Int × Int)) : Int × Int × List (Int × Int × Int) :=
  ((0 : Int), x0, x1)

def spec_AreLockFaults_0 (x0 : Int) (x1 : List (Int × Int × Int)) : Bool :=
  bif Nat.beq (Prod.fst (Lp.res lp_spec_AreLockFaults_l0 (spec_AreLockFaults_a0 x0 x1))) (0 : Nat) then false
  else
  bif Nat.beq (Prod.fst (Lp.res lp_spec_AreLockFaults_l0 (spec_AreLockFaults_a0 x0 x1))) (1 : Nat) then false
  else bif spec_l01In_0 x0 (1 : Int) (12 : Int) then leI (↑(List.length x1) : Int) (8 : Int) else false

def spec_AreLockFaults_1 (x0 : Int) (x1 : List (Int × Int × Int)) : Bool :=
  allT [Lp.fin lp_spec_AreLockFaults_l0 (spec_AreLockFaults_a0 x0 x1)]

def F_spec_AreLockFaults : List SV → List Entry → Option Out
  | [.one ⟨false, [.val (.int .i64 x0)]⟩, .one ⟨false, [.ref 0]⟩], [.row false 82 (.pair (.int .i64) (.pair (.int .i64) (.int .i64))) x1] => some ⟨(.one ⟨false, [(.val (.bool (spec_AreLockFaults_0 x0 x1)))]⟩), [(.row false 82 (CTy.pair (CTy.int IntKind.i64) (CTy.pair (CTy.int IntKind.i64) (CTy.int IntKind.i64))) x1)], [], [(spec_AreLockFaults_1 x0 x1)]⟩
  | _, _ => none

def p_spec_AreLockFaults : PF Tryz.prog := PF.ofG Tryz.prog [p_spec_l01In] [lp_spec_AreLockFaults_l0.F] hmix 40 Tryz.f40 Tryz.func40 (LOk.fnT (l := [loopAt Tryz.f40 0]) (by kernel_rfl) (.cons lpok_spec_AreLockFaults_l0 (.nil _))) F_spec_AreLockFaults (by
  intro vs es r h; unfold F_spec_AreLockFaults at h; split at h
  · cases h; kernel_rfl
  · cases h)

def spec_l27Mode_0 (x0 : Int) : Bool :=
  spec_l01In_0 x0 (0 : Int) (5 : Int)

def F_spec_l27Mode : List SV → List Entry → Option Out
  | [.one ⟨false, [.val (.int .i64 x0)]⟩], [] => some ⟨(.one ⟨false, [(.val (.bool (spec_l27Mode_0 x0)))]⟩), [], [], []⟩
  | _, _ => none

def p_spec_l27Mode : PF Tryz.prog := PF.ofG Tryz.prog [p_spec_l01In] [] hmix 41 Tryz.f41 Tryz.func41 (fun c _ => LOk.nil c) F_spec_l27Mode (by
  intro vs es r h; unfold F_spec_l27Mode at h; split at h
  · cases h; kernel_rfl
  · cases h)

abbrev X_spec_IsPlan_l0 := Int × List (Int × Int)

def spec_IsPlan_l0_a0 (y0 : Int) (y1 : List (Int × Int)) : Int × Int :=
  Option.getD y1[Int.toNat y0]? ((0 : Int), (0 : Int))

def spec_IsPlan_l0_a1 (y0 : Int) (y1 : List (Int × Int)) : Bool :=
  !spec_l01In_0 (Prod.fst (spec_IsPlan_l0_a0 y0 y1)) (1 : Int) (366 : Int)

def spec_IsPlan_l0_0 (y0 : Int) (y1 : List (Int × Int)) : Bool :=
  ltI y0 (↑(List.length y1) : Int)

def spec_IsPlan_l0_1 (y0 : Int) : Bool :=
  leI (0 : Int) y0

def spec_IsPlan_l0_2 (y0 : Int) (y1 : List (Int × Int)) : Bool :=
  ltN (Int.toNat y0) (List.length y1)

def spec_IsPlan_l0_3 (y0 : Int) (y1 : List (Int × Int)) : Bool :=
  !(!spec_IsPlan_l0_a1 y0 y1 && true) || leI (0 : Int) y0

def spec_IsPlan_l0_4 (y0 : Int) (y1 : List (Int × Int)) : Bool :=
  !(!spec_IsPlan_l0_a1 y0 y1 && true) || ltI y0 (↑(List.length y1) : Int)

def spec_IsPlan_l0_5 (y0 : Int) (y1 : List (Int × Int)) : Bool :=
  !(!spec_IsPlan_l0_a1 y0 y1 && true) || ltN (Int.toNat y0) (List.length y1)

def spec_IsPlan_l0_6 (y0 : Int) (y1 : List (Int × Int)) : Bool :=
  bif spec_IsPlan_l0_a1 y0 y1 then true else !spec_l01In_0 (Prod.snd (spec_IsPlan_l0_a0 y0 y1)) (0 : Int) (100000 : Int)

def spec_IsPlan_l0_7 (y0 : Int) : Int :=
  IntKind.wrap IntKind.i64 (y0 + (1 : Int))

def JL_spec_IsPlan_l0 : X_spec_IsPlan_l0 → List (Nat × SV)
  | (y0, _) => [(3, (.one ⟨false, [(.val (.int IntKind.i64 y0))]⟩)), (0, (.one ⟨false, [(.ref 0)]⟩))]

def JE_spec_IsPlan_l0 : X_spec_IsPlan_l0 → List (Nat × Entry)
  | (_, y1) => [(0, (.row false 86 (CTy.pair (CTy.int IntKind.i64) (CTy.int IntKind.i64)) y1))]

def XL_spec_IsPlan_l0 : Nat → X_spec_IsPlan_l0 → List (Nat × SV)
  | 0, (_, _) => [(2, (.one ⟨false, [(.val (.bool false))]⟩))]
  | _, (_, _) => []

def XE_spec_IsPlan_l0 : Nat → X_spec_IsPlan_l0 → List (Nat × Entry)
  | 0, (_, y1) => [(0, (.row false 86 (CTy.pair (CTy.int IntKind.i64) (CTy.int IntKind.i64)) y1))]
  | _, (_, y1) => [(0, (.row false 86 (CTy.pair (CTy.int IntKind.i64) (CTy.int IntKind.i64)) y1))]

def lt_spec_IsPlan_l0 : X_spec_IsPlan_l0 → LT X_spec_IsPlan_l0
  | (y0, y1) => .ite (spec_IsPlan_l0_0 y0 y1) (.need [(spec_IsPlan_l0_1 y0), (spec_IsPlan_l0_0 y0 y1), (spec_IsPlan_l0_2 y0 y1), (spec_IsPlan_l0_3 y0 y1), (spec_IsPlan_l0_4 y0 y1), (spec_IsPlan_l0_5 y0 y1)] (.ite (spec_IsPlan_l0_6 y0 y1) (.ext 0 [(0, 0)]) (.nrm ((spec_IsPlan_l0_7 y0), y1) [(0, 0)]))) (.ext 1 [(0, 0)])

def rd_spec_IsPlan_l0 (s : St) : Option X_spec_IsPlan_l0 :=
  (match s.look 3 with
  | some ⟨none, (.one ⟨false, [(.val (.int IntKind.i64 y0))]⟩)⟩ =>
  (match s.look 0 with
  | some ⟨none, (.one ⟨false, [(.ref 0)]⟩)⟩ =>
  (match s.ent 0 with
  | some (.row false 86 (CTy.pair (CTy.int IntKind.i64) (CTy.int IntKind.i64)) y1) =>
  some (y0, y1)
  | _ => none)
  | _ => none)
  | _ => none)

def lp_spec_IsPlan_l0 : Lp X_spec_IsPlan_l0 where
  h := ⟨[4, 5, 6, 7, 10, 11, 12, 13, 14, 15, 16, 17, 18, 19, 20, 21, 22, 23, 24, 25, 2, 8, 9, 3], [0], [], []⟩
  JL := JL_spec_IsPlan_l0
  JE := JE_spec_IsPlan_l0
  XL := XL_spec_IsPlan_l0
  XE := XE_spec_IsPlan_l0
  q := fun j => match j with | 0 => .ret | _ => .exit 0
  tags := [0, 1]
  lt := lt_spec_IsPlan_l0
  fuel := fun (y0, y1) => y0.natAbs + y1.length
  fix := fun (_, y1) (y0, _) => (y0, y1)
  σ := [(0, 0)]
  rd := rd_spec_IsPlan_l0

theorem lpok_spec_IsPlan_l0 : LoopOk Tryz.prog (fun k => Nat.blt k Tryz.f42.ntmps) lp_spec_IsPlan_l0.F (loopAt Tryz.f42 0) := by
  refine Lp.ok (tbl := [p_spec_l01In]) (lf := []) hmix lp_spec_IsPlan_l0 (by kernel_rfl) (LOk.nil _) (fun _ => rfl) (fun j _ => by unfold lp_spec_IsPlan_l0; match j with | 0 => rfl | _ + 1 => rfl) ?_ ?_ ?_ ?_ (fun _ => rfl) ?_
  · intro x; obtain ⟨y0, y1⟩ := x; kernel_rfl
  · intro x; obtain ⟨y0, y1⟩ := x; kernel_rfl
  · intro s x h
    have h : rd_spec_IsPlan_l0 s = some x := h
    unfold rd_spec_IsPlan_l0 at h
    repeat' split at h
    all_goals cases h
    exact ⟨absS_cons (by assumption) rfl (absS_cons (by assumption) rfl (rfl)), absE_cons rfl (by assumption) rfl (rfl)⟩
  · intro x; obtain ⟨y0, y1⟩ := x; kernel_rfl
  · intro x z; obtain ⟨y0, y1⟩ := x; exact (And.intro (And.intro trivial rfl) trivial)

def spec_IsPlan_0 (x0 : List (Int × Int)) : Bool :=
  bif Nat.beq (Prod.fst (Lp.res lp_spec_IsPlan_l0 ((0 : Int), x0))) (0 : Nat) then false else leI (↑(List.length x0) : Int) (12 : Int)

def spec_IsPlan_1 (x0 : List (Int × Int)) : Bool :=
  allT [Lp.fin lp_spec_IsPlan_l0 ((0 : Int), x0)]

def F_spec_IsPlan : List SV → List Entry → Option Out
  | [.one ⟨false, [.ref 0]⟩], [.row false 86 (.pair (.int .i64) (.int .i64)) x0] => some ⟨(.one ⟨false, [(.val (.bool (spec_IsPlan_0 x0)))]⟩), [(.row false 86 (CTy.pair (CTy.int IntKind.i64) (CTy.int IntKind.i64)) x0)], [], [(spec_IsPlan_1 x0)]⟩
  | _, _ => none

def p_spec_IsPlan : PF Tryz.prog := PF.ofG Tryz.prog [p_spec_l01In] [lp_spec_IsPlan_l0.F] hmix 42 Tryz.f42 Tryz.func42 (LOk.fnT (l := [loopAt Tryz.f42 0]) (by kernel_rfl) (.cons lpok_spec_IsPlan_l0 (.nil _))) F_spec_IsPlan (by
  intro vs es r h; unfold F_spec_IsPlan at h; split at h
  · cases h; kernel_rfl
  · cases h)

def spec_l29Lock_0 (x0 : Int) (x1 : Int) : Bool :=
  bif spec_l01In_0 x0 (0 : Int) (23 : Int) then spec_l01In_0 x1 (1 : Int) (999 : Int) else false

def F_spec_l29Lock : List SV → List Entry → Option Out
  | [.one ⟨false, [.val (.int .i64 x0)]⟩, .one ⟨false, [.val (.int .i64 x1)]⟩], [] => some ⟨(.one ⟨false, [(.val (.bool (spec_l29Lock_0 x0 x1)))]⟩), [], [], []⟩
  | _, _ => none

def p_spec_l29Lock : PF Tryz.prog := PF.ofG Tryz.prog [p_spec_l01In] [] hmix 71 Tryz.f71 Tryz.func71 (fun c _ => LOk.nil c) F_spec_l29Lock (by
  intro vs es r h; unfold F_spec_l29Lock at h; split at h
  · cases h; kernel_rfl
  · cases h)

abbrev X_spec_l29Find_l0 := Int × Int × Int × List (Int × Int)

def spec_l29Find_l0_a0 (y0 : Int) (y3 : List (Int × Int)) : Int × Int :=
  Option.getD y3[Int.toNat y0]? ((0 : Int), (0 : Int))

def spec_l29Find_l0_a1 (y0 : Int) (y1 : Int) (y3 : List (Int × Int)) : Bool :=
  !(Prod.fst (spec_l29Find_l0_a0 y0 y3) == y1 && true)

def spec_l29Find_l0_0 (y0 : Int) (y3 : List (Int × Int)) : Bool :=
  ltI y0 (↑(List.length y3) : Int)

def spec_l29Find_l0_1 (y0 : Int) : Bool :=
  leI (0 : Int) y0

def spec_l29Find_l0_2 (y0 : Int) (y3 : List (Int × Int)) : Bool :=
  ltN (Int.toNat y0) (List.length y3)

def spec_l29Find_l0_3 (y0 : Int) (y1 : Int) (y3 : List (Int × Int)) : Bool :=
  spec_l29Find_l0_a1 y0 y1 y3 || leI (0 : Int) y0

def spec_l29Find_l0_4 (y0 : Int) (y1 : Int) (y3 : List (Int × Int)) : Bool :=
  spec_l29Find_l0_a1 y0 y1 y3 || ltI y0 (↑(List.length y3) : Int)

def spec_l29Find_l0_5 (y0 : Int) (y1 : Int) (y3 : List (Int × Int)) : Bool :=
  spec_l29Find_l0_a1 y0 y1 y3 || ltN (Int.toNat y0) (List.length y3)

def spec_l29Find_l0_6 (y0 : Int) (y1 : Int) (y2 : Int) (y3 : List (Int × Int)) : Bool :=
  bif Prod.fst (spec_l29Find_l0_a0 y0 y3) == y1 then Prod.snd (spec_l29Find_l0_a0 y0 y3) == y2 else false

def spec_l29Find_l0_7 (y0 : Int) : Int :=
  IntKind.wrap IntKind.i64 (y0 + (1 : Int))

def JL_spec_l29Find_l0 : X_spec_l29Find_l0 → List (Nat × SV)
  | (y0, y1, y2, _) => [(7, (.one ⟨false, [(.val (.int IntKind.i64 y0))]⟩)), (0, (.one ⟨false, [(.ref 0)]⟩)), (1, (.one ⟨false, [(.val (.int IntKind.i64 y1))]⟩)), (2, (.one ⟨false, [(.val (.int IntKind.i64 y2))]⟩))]

def JE_spec_l29Find_l0 : X_spec_l29Find_l0 → List (Nat × Entry)
  | (_, _, _, y3) => [(0, (.row false 90 (CTy.pair (CTy.int IntKind.i64) (CTy.int IntKind.i64)) y3))]

def XL_spec_l29Find_l0 : Nat → X_spec_l29Find_l0 → List (Nat × SV)
  | 0, (y0, _, _, _) => [(6, (.one ⟨false, [(.val (.int IntKind.i64 y0))]⟩))]
  | _, (_, _, _, _) => []

def XE_spec_l29Find_l0 : Nat → X_spec_l29Find_l0 → List (Nat × Entry)
  | 0, (_, _, _, y3) => [(0, (.row false 90 (CTy.pair (CTy.int IntKind.i64) (CTy.int IntKind.i64)) y3))]
  | _, (_, _, _, y3) => [(0, (.row false 90 (CTy.pair (CTy.int IntKind.i64) (CTy.int IntKind.i64)) y3))]

def lt_spec_l29Find_l0 : X_spec_l29Find_l0 → LT X_spec_l29Find_l0
  | (y0, y1, y2, y3) => .ite (spec_l29Find_l0_0 y0 y3) (.need [(spec_l29Find_l0_1 y0), (spec_l29Find_l0_0 y0 y3), (spec_l29Find_l0_2 y0 y3), (spec_l29Find_l0_3 y0 y1 y3), (spec_l29Find_l0_4 y0 y1 y3), (spec_l29Find_l0_5 y0 y1 y3)] (.ite (spec_l29Find_l0_6 y0 y1 y2 y3) (.ext 0 [(0, 0)]) (.nrm ((spec_l29Find_l0_7 y0), y1, y2, y3) [(0, 0)]))) (.ext 1 [(0, 0)])

def rd_spec_l29Find_l0 (s : St) : Option X_spec_l29Find_l0 :=
  (match s.look 7 with
  | some ⟨none, (.one ⟨false, [(.val (.int IntKind.i64 y0))]⟩)⟩ =>
  (match s.look 0 with
  | some ⟨none, (.one ⟨false, [(.ref 0)]⟩)⟩ =>
  (match s.look 1 with
  | some ⟨none, (.one ⟨false, [(.val (.int IntKind.i64 y1))]⟩)⟩ =>
  (match s.look 2 with
  | some ⟨none, (.one ⟨false, [(.val (.int IntKind.i64 y2))]⟩)⟩ =>
  (match s.ent 0 with
  | some (.row false 90 (CTy.pair (CTy.int IntKind.i64) (CTy.int IntKind.i64)) y3) =>
  some (y0, y1, y2, y3)
  | _ => none)
  | _ => none)
  | _ => none)
  | _ => none)
  | _ => none)

def lp_spec_l29Find_l0 : Lp X_spec_l29Find_l0 where
  h := ⟨[8, 9, 10, 11, 14, 15, 16, 17, 18, 19, 20, 21, 22, 23, 24, 25, 26, 27, 28, 29, 30, 6, 12, 13, 7], [0], [], []⟩
  JL := JL_spec_l29Find_l0
  JE := JE_spec_l29Find_l0
  XL := XL_spec_l29Find_l0
  XE := XE_spec_l29Find_l0
  q := fun j => match j with | 0 => .ret | _ => .exit 0
  tags := [0, 1]
  lt := lt_spec_l29Find_l0
  fuel := fun (y0, y1, y2, y3) => y0.natAbs + y1.natAbs + y2.natAbs + y3.length
  fix := fun (_, y1, y2, y3) (y0, _, _, _) => (y0, y1, y2, y3)
  σ := [(0, 0)]
  rd := rd_spec_l29Find_l0

theorem lpok_spec_l29Find_l0 : LoopOk Tryz.prog (fun k => Nat.blt k Tryz.f72.ntmps) lp_spec_l29Find_l0.F (loopAt Tryz.f72 0) := by
  refine Lp.ok (tbl := []) (lf := []) hmix lp_spec_l29Find_l0 (by kernel_rfl) (LOk.nil _) (fun _ => rfl) (fun j _ => by unfold lp_spec_l29Find_l0; match j with | 0 => rfl | _ + 1 => rfl) ?_ ?_ ?_ ?_ (fun _ => rfl) ?_
  · intro x; obtain ⟨y0, y1, y2, y3⟩ := x; kernel_rfl
  · intro x; obtain ⟨y0, y1, y2, y3⟩ := x; kernel_rfl
  · intro s x h
    have h : rd_spec_l29Find_l0 s = some x := h
    unfold rd_spec_l29Find_l0 at h
    repeat' split at h
    all_goals cases h
    exact ⟨absS_cons (by assumption) rfl (absS_cons (by assumption) rfl (absS_cons (by assumption) rfl (absS_cons (by assumption) rfl (rfl)))), absE_cons rfl (by assumption) rfl (rfl)⟩
  · intro x; obtain ⟨y0, y1, y2, y3⟩ := x; kernel_rfl
  · intro x z; obtain ⟨y0, y1, y2, y3⟩ := x; exact (And.intro (And.intro trivial rfl) trivial)

def spec_l29Find_a0 (x0 : Int) (x1 : Int) (x2 : List (Int × Int)) : Int × Int × Int × List (Int × Int) :=
  ((0 : Int), x0, x1, x2)

def spec_l29Find_0 (x0 : Int) (x1 : Int) (x2 : List (Int × Int)) : Int :=
  bif Nat.beq (Prod.fst (Lp.res lp_spec_l29Find_l0 (spec_l29Find_a0 x0 x1 x2))) (0 : Nat) then
  Prod.fst (Prod.snd (Lp.res lp_spec_l29Find_l0 (spec_l29Find_a0 x0 x1 x2)))
  else (-1 : Int)

def spec_l29Find_1 (x0 : Int) (x1 : Int) (x2 : List (Int × Int)) : Bool :=
  allT [Lp.fin lp_spec_l29Find_l0 (spec_l29Find_a0 x0 x1 x2)]

def F_spec_l29Find : List SV → List Entry → Option Out
  | [.one ⟨false, [.ref 0]⟩, .one ⟨false, [.val (.int .i64 x0)]⟩, .one ⟨false, [.val (.int .i64 x1)]⟩], [.row false 90 (.pair (.int .i64) (.int .i64)) x2] => some ⟨(.one ⟨false, [(.val (.int IntKind.i64 (spec_l29Find_0 x0 x1 x2)))]⟩), [(.row false 90 (CTy.pair (CTy.int IntKind.i64) (CTy.int IntKind.i64)) x2)], [], [(spec_l29Find_1 x0 x1 x2)]⟩
  | _, _ => none

def p_spec_l29Find : PF Tryz.prog := PF.ofG Tryz.prog [] [lp_spec_l29Find_l0.F] hmix 72 Tryz.f72 Tryz.func72 (LOk.fnT (l := [loopAt Tryz.f72 0]) (by kernel_rfl) (.cons lpok_spec_l29Find_l0 (.nil _))) F_spec_l29Find (by
  intro vs es r h; unfold F_spec_l29Find at h; split at h
  · cases h; kernel_rfl
  · cases h)

abbrev X_spec_AreLocks_l0 := Int × List (Int × Int)

def spec_AreLocks_l0_a0 (y0 : Int) (y1 : List (Int × Int)) : Int × Int :=
  Option.getD y1[Int.toNat y0]? ((0 : Int), (0 : Int))

def spec_AreLocks_l0_a1 (y0 : Int) (y1 : List (Int × Int)) : Bool :=
  !spec_l29Lock_0 (Prod.fst (spec_AreLocks_l0_a0 y0 y1)) (Prod.snd (spec_AreLocks_l0_a0 y0 y1))

def spec_AreLocks_l0_0 (y0 : Int) (y1 : List (Int × Int)) : Bool :=
  ltI y0 (↑(List.length y1) : Int)

def spec_AreLocks_l0_1 (y0 : Int) : Bool :=
  leI (0 : Int) y0

def spec_AreLocks_l0_2 (y0 : Int) (y1 : List (Int × Int)) : Bool :=
  ltN (Int.toNat y0) (List.length y1)

def spec_AreLocks_l0_3 (y0 : Int) (y1 : List (Int × Int)) : Bool :=
  !(!spec_AreLocks_l0_a1 y0 y1 && true) || leI (0 : Int) y0

def spec_AreLocks_l0_4 (y0 : Int) (y1 : List (Int × Int)) : Bool :=
  !(!spec_AreLocks_l0_a1 y0 y1 && true) || ltI y0 (↑(List.length y1) : Int)

def spec_AreLocks_l0_5 (y0 : Int) (y1 : List (Int × Int)) : Bool :=
  !(!spec_AreLocks_l0_a1 y0 y1 && true) || ltN (Int.toNat y0) (List.length y1)

def spec_AreLocks_l0_6 (y0 : Int) (y1 : List (Int × Int)) : Bool :=
  !(!spec_AreLocks_l0_a1 y0 y1 && true) || spec_l29Find_1 (Prod.fst (spec_AreLocks_l0_a0 y0 y1)) (Prod.snd (spec_AreLocks_l0_a0 y0 y1)) y1

def spec_AreLocks_l0_7 (y0 : Int) (y1 : List (Int × Int)) : Bool :=
  bif spec_AreLocks_l0_a1 y0 y1 then true else spec_l29Find_0 (Prod.fst (spec_AreLocks_l0_a0 y0 y1)) (Prod.snd (spec_AreLocks_l0_a0 y0 y1)) y1 != y0

def spec_AreLocks_l0_8 (y0 : Int) : Int :=
  IntKind.wrap IntKind.i64 (y0 + (1 : Int))

def JL_spec_AreLocks_l0 : X_spec_AreLocks_l0 → List (Nat × SV)
  | (y0, _) => [(3, (.one ⟨false, [(.val (.int IntKind.i64 y0))]⟩)), (0, (.one ⟨false, [(.ref 0)]⟩))]

def JE_spec_AreLocks_l0 : X_spec_AreLocks_l0 → List (Nat × Entry)
  | (_, y1) => [(0, (.row false 90 (CTy.pair (CTy.int IntKind.i64) (CTy.int IntKind.i64)) y1))]

def XL_spec_AreLocks_l0 : Nat → X_spec_AreLocks_l0 → List (Nat × SV)
  | 0, (_, _) => [(2, (.one ⟨false, [(.val (.bool false))]⟩))]
  | _, (_, _) => []

def XE_spec_AreLocks_l0 : Nat → X_spec_AreLocks_l0 → List (Nat × Entry)
  | 0, (_, y1) => [(0, (.row false 90 (CTy.pair (CTy.int IntKind.i64) (CTy.int IntKind.i64)) y1))]
  | _, (_, y1) => [(0, (.row false 90 (CTy.pair (CTy.int IntKind.i64) (CTy.int IntKind.i64)) y1))]

def lt_spec_AreLocks_l0 : X_spec_AreLocks_l0 → LT X_spec_AreLocks_l0
  | (y0, y1) => .ite (spec_AreLocks_l0_0 y0 y1) (.need [(spec_AreLocks_l0_1 y0), (spec_AreLocks_l0_0 y0 y1), (spec_AreLocks_l0_2 y0 y1), (spec_AreLocks_l0_1 y0), (spec_AreLocks_l0_0 y0 y1), (spec_AreLocks_l0_2 y0 y1), (spec_AreLocks_l0_3 y0 y1), (spec_AreLocks_l0_4 y0 y1), (spec_AreLocks_l0_5 y0 y1), (spec_AreLocks_l0_3 y0 y1), (spec_AreLocks_l0_4 y0 y1), (spec_AreLocks_l0_5 y0 y1), (spec_AreLocks_l0_6 y0 y1)] (.ite (spec_AreLocks_l0_7 y0 y1) (.ext 0 [(0, 0)]) (.nrm ((spec_AreLocks_l0_8 y0), y1) [(0, 0)]))) (.ext 1 [(0, 0)])

def rd_spec_AreLocks_l0 (s : St) : Option X_spec_AreLocks_l0 :=
  (match s.look 3 with
  | some ⟨none, (.one ⟨false, [(.val (.int IntKind.i64 y0))]⟩)⟩ =>
  (match s.look 0 with
  | some ⟨none, (.one ⟨false, [(.ref 0)]⟩)⟩ =>
  (match s.ent 0 with
  | some (.row false 90 (CTy.pair (CTy.int IntKind.i64) (CTy.int IntKind.i64)) y1) =>
  some (y0, y1)
  | _ => none)
  | _ => none)
  | _ => none)

def lp_spec_AreLocks_l0 : Lp X_spec_AreLocks_l0 where
  h := ⟨[4, 5, 6, 7, 10, 11, 12, 13, 14, 15, 16, 17, 18, 19, 20, 21, 22, 23, 24, 25, 26, 27, 28, 29, 30, 31, 32, 33, 34, 35, 36, 37, 2, 8, 9, 3], [0], [], []⟩
  JL := JL_spec_AreLocks_l0
  JE := JE_spec_AreLocks_l0
  XL := XL_spec_AreLocks_l0
  XE := XE_spec_AreLocks_l0
  q := fun j => match j with | 0 => .ret | _ => .exit 0
  tags := [0, 1]
  lt := lt_spec_AreLocks_l0
  fuel := fun (y0, y1) => y0.natAbs + y1.length
  fix := fun (_, y1) (y0, _) => (y0, y1)
  σ := [(0, 0)]
  rd := rd_spec_AreLocks_l0

theorem lpok_spec_AreLocks_l0 : LoopOk Tryz.prog (fun k => Nat.blt k Tryz.f43.ntmps) lp_spec_AreLocks_l0.F (loopAt Tryz.f43 0) := by
  refine Lp.ok (tbl := [p_spec_l29Lock, p_spec_l29Find, PF.lend p_spec_l29Find, PF.fz p_spec_l29Find]) (lf := []) hmix lp_spec_AreLocks_l0 (by kernel_rfl) (LOk.nil _) (fun _ => rfl) (fun j _ => by unfold lp_spec_AreLocks_l0; match j with | 0 => rfl | _ + 1 => rfl) ?_ ?_ ?_ ?_ (fun _ => rfl) ?_
  · intro x; obtain ⟨y0, y1⟩ := x; kernel_rfl
  · intro x; obtain ⟨y0, y1⟩ := x; kernel_rfl
  · intro s x h
    have h : rd_spec_AreLocks_l0 s = some x := h
    unfold rd_spec_AreLocks_l0 at h
    repeat' split at h
    all_goals cases h
    exact ⟨absS_cons (by assumption) rfl (absS_cons (by assumption) rfl (rfl)), absE_cons rfl (by assumption) rfl (rfl)⟩
  · intro x; obtain ⟨y0, y1⟩ := x; kernel_rfl
  · intro x z; obtain ⟨y0, y1⟩ := x; exact (And.intro (And.intro trivial rfl) trivial)

def spec_AreLocks_0 (x0 : List (Int × Int)) : Bool :=
  bif Nat.beq (Prod.fst (Lp.res lp_spec_AreLocks_l0 ((0 : Int), x0))) (0 : Nat) then false else leI (↑(List.length x0) : Int) (8 : Int)

def spec_AreLocks_1 (x0 : List (Int × Int)) : Bool :=
  allT [Lp.fin lp_spec_AreLocks_l0 ((0 : Int), x0)]

def F_spec_AreLocks : List SV → List Entry → Option Out
  | [.one ⟨false, [.ref 0]⟩], [.row false 90 (.pair (.int .i64) (.int .i64)) x0] => some ⟨(.one ⟨false, [(.val (.bool (spec_AreLocks_0 x0)))]⟩), [(.row false 90 (CTy.pair (CTy.int IntKind.i64) (CTy.int IntKind.i64)) x0)], [], [(spec_AreLocks_1 x0)]⟩
  | _, _ => none

def p_spec_AreLocks : PF Tryz.prog := PF.ofG Tryz.prog [p_spec_l29Lock, p_spec_l29Find, PF.lend p_spec_l29Find, PF.fz p_spec_l29Find] [lp_spec_AreLocks_l0.F] hmix 43 Tryz.f43 Tryz.func43 (LOk.fnT (l := [loopAt Tryz.f43 0]) (by kernel_rfl) (.cons lpok_spec_AreLocks_l0 (.nil _))) F_spec_AreLocks (by
  intro vs es r h; unfold F_spec_AreLocks at h; split at h
  · cases h; kernel_rfl
  · cases h)

abbrev X_laws_toInt64SS_l0 := Int × List (List Int) × List (List Int)

def laws_toInt64SS_l0_a0 (y0 : Int) (y1 : List (List Int)) : List Int :=
  Option.getD y1[Int.toNat y0]? (dflt (CTy.sl (2 : TypeId) (CTy.int IntKind.i64)))

def laws_toInt64SS_l0_0 (y0 : Int) (y1 : List (List Int)) : Bool :=
  ltI y0 (↑(List.length y1) : Int)

def laws_toInt64SS_l0_1 (y0 : Int) : Bool :=
  leI (0 : Int) y0

def laws_toInt64SS_l0_2 (y0 : Int) (y1 : List (List Int)) : Bool :=
  ltN (Int.toNat y0) (List.length y1)

def laws_toInt64SS_l0_3 (y0 : Int) (y1 : List (List Int)) : Bool :=
  leN (List.length (laws_toInt64SS_l0_a0 y0 y1)) (1048576 : Nat)

def laws_toInt64SS_l0_4 (y0 : Int) (y2 : List (List Int)) : Bool :=
  ltI y0 (↑(List.length y2) : Int)

def laws_toInt64SS_l0_5 (y0 : Int) (y2 : List (List Int)) : Bool :=
  ltN (Int.toNat y0) (List.length y2)

def laws_toInt64SS_l0_6 (y0 : Int) : Int :=
  IntKind.wrap IntKind.i64 (y0 + (1 : Int))

def laws_toInt64SS_l0_7 (y0 : Int) (y1 : List (List Int)) (y2 : List (List Int)) : List (List Int) :=
  List.set y2 (Int.toNat y0) (laws_toInt64SS_l0_a0 y0 y1)

def JL_laws_toInt64SS_l0 : X_laws_toInt64SS_l0 → List (Nat × SV)
  | (y0, _, _) => [(4, (.one ⟨false, [(.val (.int IntKind.i64 y0))]⟩)), (0, (.one ⟨false, [(.ref 0)]⟩)), (3, (.one ⟨false, [(.ref 1)]⟩))]

def JE_laws_toInt64SS_l0 : X_laws_toInt64SS_l0 → List (Nat × Entry)
  | (_, y1, y2) => [(0, (.row false 22 (CTy.sl (2 : TypeId) (CTy.int IntKind.i64)) y1)), (1, (.row true 22 (CTy.sl (2 : Nat) (CTy.int IntKind.i64)) y2))]

def XL_laws_toInt64SS_l0 : Nat → X_laws_toInt64SS_l0 → List (Nat × SV)
  | _, (_, _, _) => []

def XE_laws_toInt64SS_l0 : Nat → X_laws_toInt64SS_l0 → List (Nat × Entry)
  | _, (_, y1, y2) => [(0, (.row false 22 (CTy.sl (2 : TypeId) (CTy.int IntKind.i64)) y1)), (1, (.row true 22 (CTy.sl (2 : Nat) (CTy.int IntKind.i64)) y2))]

def lt_laws_toInt64SS_l0 : X_laws_toInt64SS_l0 → LT X_laws_toInt64SS_l0
  | (y0, y1, y2) => .ite (laws_toInt64SS_l0_0 y0 y1) (.need [(laws_toInt64SS_l0_1 y0), (laws_toInt64SS_l0_0 y0 y1), (laws_toInt64SS_l0_2 y0 y1), (laws_toInt64SS_l0_3 y0 y1), (laws_toInt64SS_l0_1 y0), (laws_toInt64SS_l0_4 y0 y2), (laws_toInt64SS_l0_5 y0 y2)] (.nrm ((laws_toInt64SS_l0_6 y0), y1, (laws_toInt64SS_l0_7 y0 y1 y2)) [(0, 0), (1, 1)])) (.ext 0 [(0, 0), (1, 1)])

def rd_laws_toInt64SS_l0 (s : St) : Option X_laws_toInt64SS_l0 :=
  (match s.look 4 with
  | some ⟨none, (.one ⟨false, [(.val (.int IntKind.i64 y0))]⟩)⟩ =>
  (match s.look 0 with
  | some ⟨none, (.one ⟨false, [(.ref 0)]⟩)⟩ =>
  (match s.look 3 with
  | some ⟨none, (.one ⟨false, [(.ref 320)]⟩)⟩ =>
  (match s.ent 0 with
  | some (.row false 22 (CTy.sl (2 : TypeId) (CTy.int IntKind.i64)) y1) =>
  (match s.ent 320 with
  | some (.row true 22 (CTy.sl (2 : Nat) (CTy.int IntKind.i64)) y2) =>
  some (y0, y1, y2)
  | _ => none)
  | _ => none)
  | _ => none)
  | _ => none)
  | _ => none)

def lp_laws_toInt64SS_l0 : Lp X_laws_toInt64SS_l0 where
  h := ⟨[8, 9, 10, 11, 14, 15, 16, 17, 18, 19, 20, 21, 12, 13, 4], [0, 1], [], []⟩
  JL := JL_laws_toInt64SS_l0
  JE := JE_laws_toInt64SS_l0
  XL := XL_laws_toInt64SS_l0
  XE := XE_laws_toInt64SS_l0
  q := fun j => match j with | _ => .exit 0
  tags := [0]
  lt := lt_laws_toInt64SS_l0
  fuel := fun (y0, y1, y2) => y0.natAbs + y1.length + y2.length
  fix := fun (_, y1, _) (y0, _, y2) => (y0, y1, y2)
  σ := [(0, 0), (1, 320)]
  rd := rd_laws_toInt64SS_l0

theorem lpok_laws_toInt64SS_l0 : LoopOk Tryz.prog (fun k => Nat.blt k Tryz.f21.ntmps) lp_laws_toInt64SS_l0.F (loopAt Tryz.f21 0) := by
  refine Lp.ok (tbl := [n_laws_toInt64S, PF.lend n_laws_toInt64S, PF.fz n_laws_toInt64S]) (lf := []) hmix lp_laws_toInt64SS_l0 (by kernel_rfl) (LOk.nil _) (fun _ => rfl) (fun _ _ => rfl) ?_ ?_ ?_ ?_ (fun _ => rfl) ?_
  · intro x; obtain ⟨y0, y1, y2⟩ := x; kernel_rfl
  · intro x; obtain ⟨y0, y1, y2⟩ := x; kernel_rfl
  · intro s x h
    have h : rd_laws_toInt64SS_l0 s = some x := h
    unfold rd_laws_toInt64SS_l0 at h
    repeat' split at h
    all_goals cases h
    exact ⟨absS_cons (by assumption) rfl (absS_cons (by assumption) rfl (absS_cons (by assumption) rfl (rfl))), absE_cons rfl (by assumption) rfl (absE_cons rfl (by assumption) rfl (rfl))⟩
  · intro x; obtain ⟨y0, y1, y2⟩ := x; kernel_rfl
  · intro x z; obtain ⟨y0, y1, y2⟩ := x; exact (And.intro rfl trivial)

def laws_toInt64SS_a0 (x0 : List (List Int)) : Int × List (List Int) × List (List Int) :=
  ((0 : Int), x0, List.replicate (Int.toNat (↑(List.length x0) : Int)) [])

def laws_toInt64SS_0 (x0 : List (List Int)) : List (List Int) :=
  Prod.snd (Prod.snd (Prod.snd (Lp.res lp_laws_toInt64SS_l0 (laws_toInt64SS_a0 x0))))

def laws_toInt64SS_1 (x0 : List (List Int)) : Bool :=
  allT
  [leI (0 : Int) (↑(List.length x0) : Int), leI (↑(List.length x0) : Int) (↑(List.length x0) : Int),
    leI ((↑(24 : Nat) : Int) * (↑(List.length x0) : Int)) (281474976710656 : Int), leI (↑(List.length x0) : Int) (9223372036854775807 : Int),
    Lp.fin lp_laws_toInt64SS_l0 (laws_toInt64SS_a0 x0)]

def F_laws_toInt64SS : List SV → List Entry → Option Out
  | [.one ⟨false, [.ref 0]⟩], [.row false 22 (.sl 2 (.int .i64)) x0] => some ⟨(.one ⟨false, [(.ref 1)]⟩), [(.row false 22 (CTy.sl (2 : TypeId) (CTy.int IntKind.i64)) x0)], [(.row true 22 (CTy.sl (2 : Nat) (CTy.int IntKind.i64)) (laws_toInt64SS_0 x0))], [(laws_toInt64SS_1 x0)]⟩
  | _, _ => none

def p_laws_toInt64SS : PF Tryz.prog := PF.ofG Tryz.prog [n_laws_toInt64S, PF.lend n_laws_toInt64S, PF.fz n_laws_toInt64S] [lp_laws_toInt64SS_l0.F] hmix 21 Tryz.f21 Tryz.func21 (LOk.fnT (l := [loopAt Tryz.f21 0]) (by kernel_rfl) (.cons lpok_laws_toInt64SS_l0 (.nil _))) F_laws_toInt64SS (by
  intro vs es r h; unfold F_laws_toInt64SS at h; split at h
  · cases h; kernel_rfl
  · cases h)

def F_laws_toLockFault : List SV → List Entry → Option Out
  | [.one ⟨true, [.val (.int .i64 x0), .val (.int .i64 x1), .val (.int .i64 x2)]⟩], [] => some ⟨(.one ⟨true, [(.val (.int IntKind.i64 x0)), (.val (.int IntKind.i64 x1)), (.val (.int IntKind.i64 x2))]⟩), [], [], []⟩
  | _, _ => none

def p_laws_toLockFault : PF Tryz.prog := PF.ofG Tryz.prog [] [] hmix 49 Tryz.f49 Tryz.func49 (fun c _ => LOk.nil c) F_laws_toLockFault (by
  intro vs es r h; unfold F_laws_toLockFault at h; split at h
  · cases h; kernel_rfl
  · cases h)

abbrev X_laws_toLockFaultS_l0 := Int × List (Int × (Int × Int)) × List (Int × (Int × Int))

def laws_toLockFaultS_l0_a0 (y0 : Int) (y1 : List (Int × (Int × Int))) : Int × Int × Int :=
  Option.getD y1[Int.toNat y0]? ((0 : Int), (0 : Int), (0 : Int))

def laws_toLockFaultS_l0_0 (y0 : Int) (y1 : List (Int × (Int × Int))) : Bool :=
  ltI y0 (↑(List.length y1) : Int)

def laws_toLockFaultS_l0_1 (y0 : Int) : Bool :=
  leI (0 : Int) y0

def laws_toLockFaultS_l0_2 (y0 : Int) (y1 : List (Int × (Int × Int))) : Bool :=
  ltN (Int.toNat y0) (List.length y1)

def laws_toLockFaultS_l0_3 (y0 : Int) (y2 : List (Int × (Int × Int))) : Bool :=
  ltI y0 (↑(List.length y2) : Int)

def laws_toLockFaultS_l0_4 (y0 : Int) (y2 : List (Int × (Int × Int))) : Bool :=
  ltN (Int.toNat y0) (List.length y2)

def laws_toLockFaultS_l0_5 (y0 : Int) : Int :=
  IntKind.wrap IntKind.i64 (y0 + (1 : Int))

def laws_toLockFaultS_l0_6 (y0 : Int) (y1 : List (Int × (Int × Int))) (y2 : List (Int × (Int × Int))) : List (Int × (Int × Int)) :=
  List.set y2 (Int.toNat y0)
  (Prod.fst (laws_toLockFaultS_l0_a0 y0 y1), Prod.fst (Prod.snd (laws_toLockFaultS_l0_a0 y0 y1)), Prod.snd (Prod.snd (laws_toLockFaultS_l0_a0 y0 y1)))

def JL_laws_toLockFaultS_l0 : X_laws_toLockFaultS_l0 → List (Nat × SV)
  | (y0, _, _) => [(4, (.one ⟨false, [(.val (.int IntKind.i64 y0))]⟩)), (0, (.one ⟨false, [(.ref 0)]⟩)), (3, (.one ⟨false, [(.ref 1)]⟩))]

def JE_laws_toLockFaultS_l0 : X_laws_toLockFaultS_l0 → List (Nat × Entry)
  | (_, y1, y2) => [(0, (.row false 84 (CTy.pair (CTy.int IntKind.i64) (CTy.pair (CTy.int IntKind.i64) (CTy.int IntKind.i64))) y1)), (1, (.row true 82 (CTy.pair (CTy.int IntKind.i64) (CTy.pair (CTy.int IntKind.i64) (CTy.int IntKind.i64))) y2))]

def XL_laws_toLockFaultS_l0 : Nat → X_laws_toLockFaultS_l0 → List (Nat × SV)
  | _, (_, _, _) => []

def XE_laws_toLockFaultS_l0 : Nat → X_laws_toLockFaultS_l0 → List (Nat × Entry)
  | _, (_, y1, y2) => [(0, (.row false 84 (CTy.pair (CTy.int IntKind.i64) (CTy.pair (CTy.int IntKind.i64) (CTy.int IntKind.i64))) y1)), (1, (.row true 82 (CTy.pair (CTy.int IntKind.i64) (CTy.pair (CTy.int IntKind.i64) (CTy.int IntKind.i64))) y2))]

def lt_laws_toLockFaultS_l0 : X_laws_toLockFaultS_l0 → LT X_laws_toLockFaultS_l0
  | (y0, y1, y2) => .ite (laws_toLockFaultS_l0_0 y0 y1) (.need [(laws_toLockFaultS_l0_1 y0), (laws_toLockFaultS_l0_0 y0 y1), (laws_toLockFaultS_l0_2 y0 y1), (laws_toLockFaultS_l0_1 y0), (laws_toLockFaultS_l0_3 y0 y2), (laws_toLockFaultS_l0_4 y0 y2)] (.nrm ((laws_toLockFaultS_l0_5 y0), y1, (laws_toLockFaultS_l0_6 y0 y1 y2)) [(0, 0), (1, 1)])) (.ext 0 [(0, 0), (1, 1)])

def rd_laws_toLockFaultS_l0 (s : St) : Option X_laws_toLockFaultS_l0 :=
  (match s.look 4 with
  | some ⟨none, (.one ⟨false, [(.val (.int IntKind.i64 y0))]⟩)⟩ =>
  (match s.look 0 with
  | some ⟨none, (.one ⟨false, [(.ref 0)]⟩)⟩ =>
  (match s.look 3 with
  | some ⟨none, (.one ⟨false, [(.ref 320)]⟩)⟩ =>
  (match s.ent 0 with
  | some (.row false 84 (CTy.pair (CTy.int IntKind.i64) (CTy.pair (CTy.int IntKind.i64) (CTy.int IntKind.i64))) y1) =>
  (match s.ent 320 with
  | some (.row true 82 (CTy.pair (CTy.int IntKind.i64) (CTy.pair (CTy.int IntKind.i64) (CTy.int IntKind.i64))) y2) =>
  some (y0, y1, y2)
  | _ => none)
  | _ => none)
  | _ => none)
  | _ => none)
  | _ => none)

def lp_laws_toLockFaultS_l0 : Lp X_laws_toLockFaultS_l0 where
  h := ⟨[8, 9, 10, 11, 14, 15, 16, 17, 18, 19, 20, 21, 12, 13, 4], [0, 1], [], []⟩
  JL := JL_laws_toLockFaultS_l0
  JE := JE_laws_toLockFaultS_l0
  XL := XL_laws_toLockFaultS_l0
  XE := XE_laws_toLockFaultS_l0
  q := fun j => match j with | _ => .exit 0
  tags := [0]
  lt := lt_laws_toLockFaultS_l0
  fuel := fun (y0, y1, y2) => y0.natAbs + y1.length + y2.length
  fix := fun (_, y1, _) (y0, _, y2) => (y0, y1, y2)
  σ := [(0, 0), (1, 320)]
  rd := rd_laws_toLockFaultS_l0

theorem lpok_laws_toLockFaultS_l0 : LoopOk Tryz.prog (fun k => Nat.blt k Tryz.f22.ntmps) lp_laws_toLockFaultS_l0.F (loopAt Tryz.f22 0) := by
  refine Lp.ok (tbl := [p_laws_toLockFault]) (lf := []) hmix lp_laws_toLockFaultS_l0 (by kernel_rfl) (LOk.nil _) (fun _ => rfl) (fun _ _ => rfl) ?_ ?_ ?_ ?_ (fun _ => rfl) ?_
  · intro x; obtain ⟨y0, y1, y2⟩ := x; kernel_rfl
  · intro x; obtain ⟨y0, y1, y2⟩ := x; kernel_rfl
  · intro s x h
    have h : rd_laws_toLockFaultS_l0 s = some x := h
    unfold rd_laws_toLockFaultS_l0 at h
    repeat' split at h
    all_goals cases h
    exact ⟨absS_cons (by assumption) rfl (absS_cons (by assumption) rfl (absS_cons (by assumption) rfl (rfl))), absE_cons rfl (by assumption) rfl (absE_cons rfl (by assumption) rfl (rfl))⟩
  · intro x; obtain ⟨y0, y1, y2⟩ := x; kernel_rfl
  · intro x z; obtain ⟨y0, y1, y2⟩ := x; exact (And.intro rfl trivial)

def laws_toLockFaultS_a0 (x0 : List (Int × Int × Int)) : Int × List (Int × Int × Int) × List (Int × Int × Int) :=
  ((0 : Int), x0, List.replicate (Int.toNat (↑(List.length x0) : Int)) ((0 : Int), (0 : Int), (0 : Int)))

def laws_toLockFaultS_0 (x0 : List (Int × Int × Int)) : List (Int × (Int × Int)) :=
  Prod.snd (Prod.snd (Prod.snd (Lp.res lp_laws_toLockFaultS_l0 (laws_toLockFaultS_a0 x0))))

def laws_toLockFaultS_1 (x0 : List (Int × Int × Int)) : Bool :=
  allT
  [leI (0 : Int) (↑(List.length x0) : Int), leI (↑(List.length x0) : Int) (↑(List.length x0) : Int),
    leI ((↑(24 : Nat) : Int) * (↑(List.length x0) : Int)) (281474976710656 : Int), leI (↑(List.length x0) : Int) (9223372036854775807 : Int),
    Lp.fin lp_laws_toLockFaultS_l0 (laws_toLockFaultS_a0 x0)]

def F_laws_toLockFaultS : List SV → List Entry → Option Out
  | [.one ⟨false, [.ref 0]⟩], [.row false 84 (.pair (.int .i64) (.pair (.int .i64) (.int .i64))) x0] => some ⟨(.one ⟨false, [(.ref 1)]⟩), [(.row false 84 (CTy.pair (CTy.int IntKind.i64) (CTy.pair (CTy.int IntKind.i64) (CTy.int IntKind.i64))) x0)], [(.row true 82 (CTy.pair (CTy.int IntKind.i64) (CTy.pair (CTy.int IntKind.i64) (CTy.int IntKind.i64))) (laws_toLockFaultS_0 x0))], [(laws_toLockFaultS_1 x0)]⟩
  | _, _ => none

def p_laws_toLockFaultS : PF Tryz.prog := PF.ofG Tryz.prog [p_laws_toLockFault] [lp_laws_toLockFaultS_l0.F] hmix 22 Tryz.f22 Tryz.func22 (LOk.fnT (l := [loopAt Tryz.f22 0]) (by kernel_rfl) (.cons lpok_laws_toLockFaultS_l0 (.nil _))) F_laws_toLockFaultS (by
  intro vs es r h; unfold F_laws_toLockFaultS at h; split at h
  · cases h; kernel_rfl
  · cases h)

def F_laws_toTask : List SV → List Entry → Option Out
  | [.one ⟨true, [.val (.int .i64 x0), .val (.int .i64 x1)]⟩], [] => some ⟨(.one ⟨true, [(.val (.int IntKind.i64 x0)), (.val (.int IntKind.i64 x1))]⟩), [], [], []⟩
  | _, _ => none

def p_laws_toTask : PF Tryz.prog := PF.ofG Tryz.prog [] [] hmix 50 Tryz.f50 Tryz.func50 (fun c _ => LOk.nil c) F_laws_toTask (by
  intro vs es r h; unfold F_laws_toTask at h; split at h
  · cases h; kernel_rfl
  · cases h)

abbrev X_laws_toTaskS_l0 := Int × List (Int × Int) × List (Int × Int)

def laws_toTaskS_l0_a0 (y0 : Int) (y1 : List (Int × Int)) : Int × Int :=
  Option.getD y1[Int.toNat y0]? ((0 : Int), (0 : Int))

def laws_toTaskS_l0_0 (y0 : Int) (y1 : List (Int × Int)) : Bool :=
  ltI y0 (↑(List.length y1) : Int)

def laws_toTaskS_l0_1 (y0 : Int) : Bool :=
  leI (0 : Int) y0

def laws_toTaskS_l0_2 (y0 : Int) (y1 : List (Int × Int)) : Bool :=
  ltN (Int.toNat y0) (List.length y1)

def laws_toTaskS_l0_3 (y0 : Int) (y2 : List (Int × Int)) : Bool :=
  ltI y0 (↑(List.length y2) : Int)

def laws_toTaskS_l0_4 (y0 : Int) (y2 : List (Int × Int)) : Bool :=
  ltN (Int.toNat y0) (List.length y2)

def laws_toTaskS_l0_5 (y0 : Int) : Int :=
  IntKind.wrap IntKind.i64 (y0 + (1 : Int))

def laws_toTaskS_l0_6 (y0 : Int) (y1 : List (Int × Int)) (y2 : List (Int × Int)) : List (Int × Int) :=
  List.set y2 (Int.toNat y0) (Prod.fst (laws_toTaskS_l0_a0 y0 y1), Prod.snd (laws_toTaskS_l0_a0 y0 y1))

def JL_laws_toTaskS_l0 : X_laws_toTaskS_l0 → List (Nat × SV)
  | (y0, _, _) => [(4, (.one ⟨false, [(.val (.int IntKind.i64 y0))]⟩)), (0, (.one ⟨false, [(.ref 0)]⟩)), (3, (.one ⟨false, [(.ref 1)]⟩))]

def JE_laws_toTaskS_l0 : X_laws_toTaskS_l0 → List (Nat × Entry)
  | (_, y1, y2) => [(0, (.row false 88 (CTy.pair (CTy.int IntKind.i64) (CTy.int IntKind.i64)) y1)), (1, (.row true 86 (CTy.pair (CTy.int IntKind.i64) (CTy.int IntKind.i64)) y2))]

def XL_laws_toTaskS_l0 : Nat → X_laws_toTaskS_l0 → List (Nat × SV)
  | _, (_, _, _) => []

def XE_laws_toTaskS_l0 : Nat → X_laws_toTaskS_l0 → List (Nat × Entry)
  | _, (_, y1, y2) => [(0, (.row false 88 (CTy.pair (CTy.int IntKind.i64) (CTy.int IntKind.i64)) y1)), (1, (.row true 86 (CTy.pair (CTy.int IntKind.i64) (CTy.int IntKind.i64)) y2))]

def lt_laws_toTaskS_l0 : X_laws_toTaskS_l0 → LT X_laws_toTaskS_l0
  | (y0, y1, y2) => .ite (laws_toTaskS_l0_0 y0 y1) (.need [(laws_toTaskS_l0_1 y0), (laws_toTaskS_l0_0 y0 y1), (laws_toTaskS_l0_2 y0 y1), (laws_toTaskS_l0_1 y0), (laws_toTaskS_l0_3 y0 y2), (laws_toTaskS_l0_4 y0 y2)] (.nrm ((laws_toTaskS_l0_5 y0), y1, (laws_toTaskS_l0_6 y0 y1 y2)) [(0, 0), (1, 1)])) (.ext 0 [(0, 0), (1, 1)])

def rd_laws_toTaskS_l0 (s : St) : Option X_laws_toTaskS_l0 :=
  (match s.look 4 with
  | some ⟨none, (.one ⟨false, [(.val (.int IntKind.i64 y0))]⟩)⟩ =>
  (match s.look 0 with
  | some ⟨none, (.one ⟨false, [(.ref 0)]⟩)⟩ =>
  (match s.look 3 with
  | some ⟨none, (.one ⟨false, [(.ref 320)]⟩)⟩ =>
  (match s.ent 0 with
  | some (.row false 88 (CTy.pair (CTy.int IntKind.i64) (CTy.int IntKind.i64)) y1) =>
  (match s.ent 320 with
  | some (.row true 86 (CTy.pair (CTy.int IntKind.i64) (CTy.int IntKind.i64)) y2) =>
  some (y0, y1, y2)
  | _ => none)
  | _ => none)
  | _ => none)
  | _ => none)
  | _ => none)

def lp_laws_toTaskS_l0 : Lp X_laws_toTaskS_l0 where
  h := ⟨[8, 9, 10, 11, 14, 15, 16, 17, 18, 19, 20, 21, 12, 13, 4], [0, 1], [], []⟩
  JL := JL_laws_toTaskS_l0
  JE := JE_laws_toTaskS_l0
  XL := XL_laws_toTaskS_l0
  XE := XE_laws_toTaskS_l0
  q := fun j => match j with | _ => .exit 0
  tags := [0]
  lt := lt_laws_toTaskS_l0
  fuel := fun (y0, y1, y2) => y0.natAbs + y1.length + y2.length
  fix := fun (_, y1, _) (y0, _, y2) => (y0, y1, y2)
  σ := [(0, 0), (1, 320)]
  rd := rd_laws_toTaskS_l0

theorem lpok_laws_toTaskS_l0 : LoopOk Tryz.prog (fun k => Nat.blt k Tryz.f23.ntmps) lp_laws_toTaskS_l0.F (loopAt Tryz.f23 0) := by
  refine Lp.ok (tbl := [p_laws_toTask]) (lf := []) hmix lp_laws_toTaskS_l0 (by kernel_rfl) (LOk.nil _) (fun _ => rfl) (fun _ _ => rfl) ?_ ?_ ?_ ?_ (fun _ => rfl) ?_
  · intro x; obtain ⟨y0, y1, y2⟩ := x; kernel_rfl
  · intro x; obtain ⟨y0, y1, y2⟩ := x; kernel_rfl
  · intro s x h
    have h : rd_laws_toTaskS_l0 s = some x := h
    unfold rd_laws_toTaskS_l0 at h
    repeat' split at h
    all_goals cases h
    exact ⟨absS_cons (by assumption) rfl (absS_cons (by assumption) rfl (absS_cons (by assumption) rfl (rfl))), absE_cons rfl (by assumption) rfl (absE_cons rfl (by assumption) rfl (rfl))⟩
  · intro x; obtain ⟨y0, y1, y2⟩ := x; kernel_rfl
  · intro x z; obtain ⟨y0, y1, y2⟩ := x; exact (And.intro rfl trivial)

def laws_toTaskS_a0 (x0 : List (Int × Int)) : Int × List (Int × Int) × List (Int × Int) :=
  ((0 : Int), x0, List.replicate (Int.toNat (↑(List.length x0) : Int)) ((0 : Int), (0 : Int)))

def laws_toTaskS_0 (x0 : List (Int × Int)) : List (Int × Int) :=
  Prod.snd (Prod.snd (Prod.snd (Lp.res lp_laws_toTaskS_l0 (laws_toTaskS_a0 x0))))

def laws_toTaskS_1 (x0 : List (Int × Int)) : Bool :=
  allT
  [leI (0 : Int) (↑(List.length x0) : Int), leI (↑(List.length x0) : Int) (↑(List.length x0) : Int),
    leI ((↑(16 : Nat) : Int) * (↑(List.length x0) : Int)) (281474976710656 : Int), leI (↑(List.length x0) : Int) (9223372036854775807 : Int),
    Lp.fin lp_laws_toTaskS_l0 (laws_toTaskS_a0 x0)]

def F_laws_toTaskS : List SV → List Entry → Option Out
  | [.one ⟨false, [.ref 0]⟩], [.row false 88 (.pair (.int .i64) (.int .i64)) x0] => some ⟨(.one ⟨false, [(.ref 1)]⟩), [(.row false 88 (CTy.pair (CTy.int IntKind.i64) (CTy.int IntKind.i64)) x0)], [(.row true 86 (CTy.pair (CTy.int IntKind.i64) (CTy.int IntKind.i64)) (laws_toTaskS_0 x0))], [(laws_toTaskS_1 x0)]⟩
  | _, _ => none

def p_laws_toTaskS : PF Tryz.prog := PF.ofG Tryz.prog [p_laws_toTask] [lp_laws_toTaskS_l0.F] hmix 23 Tryz.f23 Tryz.func23 (LOk.fnT (l := [loopAt Tryz.f23 0]) (by kernel_rfl) (.cons lpok_laws_toTaskS_l0 (.nil _))) F_laws_toTaskS (by
  intro vs es r h; unfold F_laws_toTaskS at h; split at h
  · cases h; kernel_rfl
  · cases h)

def F_laws_toLock : List SV → List Entry → Option Out
  | [.one ⟨true, [.val (.int .i64 x0), .val (.int .i64 x1)]⟩], [] => some ⟨(.one ⟨true, [(.val (.int IntKind.i64 x0)), (.val (.int IntKind.i64 x1))]⟩), [], [], []⟩
  | _, _ => none

def p_laws_toLock : PF Tryz.prog := PF.ofG Tryz.prog [] [] hmix 51 Tryz.f51 Tryz.func51 (fun c _ => LOk.nil c) F_laws_toLock (by
  intro vs es r h; unfold F_laws_toLock at h; split at h
  · cases h; kernel_rfl
  · cases h)

abbrev X_laws_toLockS_l0 := Int × List (Int × Int) × List (Int × Int)

def laws_toLockS_l0_a0 (y0 : Int) (y1 : List (Int × Int)) : Int × Int :=
  Option.getD y1[Int.toNat y0]? ((0 : Int), (0 : Int))

def laws_toLockS_l0_0 (y0 : Int) (y1 : List (Int × Int)) : Bool :=
  ltI y0 (↑(List.length y1) : Int)

def laws_toLockS_l0_1 (y0 : Int) : Bool :=
  leI (0 : Int) y0

def laws_toLockS_l0_2 (y0 : Int) (y1 : List (Int × Int)) : Bool :=
  ltN (Int.toNat y0) (List.length y1)

def laws_toLockS_l0_3 (y0 : Int) (y2 : List (Int × Int)) : Bool :=
  ltI y0 (↑(List.length y2) : Int)

def laws_toLockS_l0_4 (y0 : Int) (y2 : List (Int × Int)) : Bool :=
  ltN (Int.toNat y0) (List.length y2)

def laws_toLockS_l0_5 (y0 : Int) : Int :=
  IntKind.wrap IntKind.i64 (y0 + (1 : Int))

def laws_toLockS_l0_6 (y0 : Int) (y1 : List (Int × Int)) (y2 : List (Int × Int)) : List (Int × Int) :=
  List.set y2 (Int.toNat y0) (Prod.fst (laws_toLockS_l0_a0 y0 y1), Prod.snd (laws_toLockS_l0_a0 y0 y1))

def JL_laws_toLockS_l0 : X_laws_toLockS_l0 → List (Nat × SV)
  | (y0, _, _) => [(4, (.one ⟨false, [(.val (.int IntKind.i64 y0))]⟩)), (0, (.one ⟨false, [(.ref 0)]⟩)), (3, (.one ⟨false, [(.ref 1)]⟩))]

def JE_laws_toLockS_l0 : X_laws_toLockS_l0 → List (Nat × Entry)
  | (_, y1, y2) => [(0, (.row false 92 (CTy.pair (CTy.int IntKind.i64) (CTy.int IntKind.i64)) y1)), (1, (.row true 90 (CTy.pair (CTy.int IntKind.i64) (CTy.int IntKind.i64)) y2))]

def XL_laws_toLockS_l0 : Nat → X_laws_toLockS_l0 → List (Nat × SV)
  | _, (_, _, _) => []

def XE_laws_toLockS_l0 : Nat → X_laws_toLockS_l0 → List (Nat × Entry)
  | _, (_, y1, y2) => [(0, (.row false 92 (CTy.pair (CTy.int IntKind.i64) (CTy.int IntKind.i64)) y1)), (1, (.row true 90 (CTy.pair (CTy.int IntKind.i64) (CTy.int IntKind.i64)) y2))]

def lt_laws_toLockS_l0 : X_laws_toLockS_l0 → LT X_laws_toLockS_l0
  | (y0, y1, y2) => .ite (laws_toLockS_l0_0 y0 y1) (.need [(laws_toLockS_l0_1 y0), (laws_toLockS_l0_0 y0 y1), (laws_toLockS_l0_2 y0 y1), (laws_toLockS_l0_1 y0), (laws_toLockS_l0_3 y0 y2), (laws_toLockS_l0_4 y0 y2)] (.nrm ((laws_toLockS_l0_5 y0), y1, (laws_toLockS_l0_6 y0 y1 y2)) [(0, 0), (1, 1)])) (.ext 0 [(0, 0), (1, 1)])

def rd_laws_toLockS_l0 (s : St) : Option X_laws_toLockS_l0 :=
  (match s.look 4 with
  | some ⟨none, (.one ⟨false, [(.val (.int IntKind.i64 y0))]⟩)⟩ =>
  (match s.look 0 with
  | some ⟨none, (.one ⟨false, [(.ref 0)]⟩)⟩ =>
  (match s.look 3 with
  | some ⟨none, (.one ⟨false, [(.ref 320)]⟩)⟩ =>
  (match s.ent 0 with
  | some (.row false 92 (CTy.pair (CTy.int IntKind.i64) (CTy.int IntKind.i64)) y1) =>
  (match s.ent 320 with
  | some (.row true 90 (CTy.pair (CTy.int IntKind.i64) (CTy.int IntKind.i64)) y2) =>
  some (y0, y1, y2)
  | _ => none)
  | _ => none)
  | _ => none)
  | _ => none)
  | _ => none)

def lp_laws_toLockS_l0 : Lp X_laws_toLockS_l0 where
  h := ⟨[8, 9, 10, 11, 14, 15, 16, 17, 18, 19, 20, 21, 12, 13, 4], [0, 1], [], []⟩
  JL := JL_laws_toLockS_l0
  JE := JE_laws_toLockS_l0
  XL := XL_laws_toLockS_l0
  XE := XE_laws_toLockS_l0
  q := fun j => match j with | _ => .exit 0
  tags := [0]
  lt := lt_laws_toLockS_l0
  fuel := fun (y0, y1, y2) => y0.natAbs + y1.length + y2.length
  fix := fun (_, y1, _) (y0, _, y2) => (y0, y1, y2)
  σ := [(0, 0), (1, 320)]
  rd := rd_laws_toLockS_l0

theorem lpok_laws_toLockS_l0 : LoopOk Tryz.prog (fun k => Nat.blt k Tryz.f24.ntmps) lp_laws_toLockS_l0.F (loopAt Tryz.f24 0) := by
  refine Lp.ok (tbl := [p_laws_toLock]) (lf := []) hmix lp_laws_toLockS_l0 (by kernel_rfl) (LOk.nil _) (fun _ => rfl) (fun _ _ => rfl) ?_ ?_ ?_ ?_ (fun _ => rfl) ?_
  · intro x; obtain ⟨y0, y1, y2⟩ := x; kernel_rfl
  · intro x; obtain ⟨y0, y1, y2⟩ := x; kernel_rfl
  · intro s x h
    have h : rd_laws_toLockS_l0 s = some x := h
    unfold rd_laws_toLockS_l0 at h
    repeat' split at h
    all_goals cases h
    exact ⟨absS_cons (by assumption) rfl (absS_cons (by assumption) rfl (absS_cons (by assumption) rfl (rfl))), absE_cons rfl (by assumption) rfl (absE_cons rfl (by assumption) rfl (rfl))⟩
  · intro x; obtain ⟨y0, y1, y2⟩ := x; kernel_rfl
  · intro x z; obtain ⟨y0, y1, y2⟩ := x; exact (And.intro rfl trivial)

def laws_toLockS_a0 (x0 : List (Int × Int)) : Int × List (Int × Int) × List (Int × Int) :=
  ((0 : Int), x0, List.replicate (Int.toNat (↑(List.length x0) : Int)) ((0 : Int), (0 : Int)))

def laws_toLockS_0 (x0 : List (Int × Int)) : List (Int × Int) :=
  Prod.snd (Prod.snd (Prod.snd (Lp.res lp_laws_toLockS_l0 (laws_toLockS_a0 x0))))

def laws_toLockS_1 (x0 : List (Int × Int)) : Bool :=
  allT
  [leI (0 : Int) (↑(List.length x0) : Int), leI (↑(List.length x0) : Int) (↑(List.length x0) : Int),
    leI ((↑(16 : Nat) : Int) * (↑(List.length x0) : Int)) (281474976710656 : Int), leI (↑(List.length x0) : Int) (9223372036854775807 : Int),
    Lp.fin lp_laws_toLockS_l0 (laws_toLockS_a0 x0)]

def F_laws_toLockS : List SV → List Entry → Option Out
  | [.one ⟨false, [.ref 0]⟩], [.row false 92 (.pair (.int .i64) (.int .i64)) x0] => some ⟨(.one ⟨false, [(.ref 1)]⟩), [(.row false 92 (CTy.pair (CTy.int IntKind.i64) (CTy.int IntKind.i64)) x0)], [(.row true 90 (CTy.pair (CTy.int IntKind.i64) (CTy.int IntKind.i64)) (laws_toLockS_0 x0))], [(laws_toLockS_1 x0)]⟩
  | _, _ => none

def p_laws_toLockS : PF Tryz.prog := PF.ofG Tryz.prog [p_laws_toLock] [lp_laws_toLockS_l0.F] hmix 24 Tryz.f24 Tryz.func24 (LOk.fnT (l := [loopAt Tryz.f24 0]) (by kernel_rfl) (.cons lpok_laws_toLockS_l0 (.nil _))) F_laws_toLockS (by
  intro vs es r h; unfold F_laws_toLockS at h; split at h
  · cases h; kernel_rfl
  · cases h)

def impl_isRowCount_0 (x0 : Int) : Bool :=
  impl_within_0 x0 (1 : Int) (12 : Int)

def F_impl_isRowCount : List SV → List Entry → Option Out
  | [.one ⟨false, [.val (.int .i64 x0)]⟩], [] => some ⟨(.one ⟨false, [(.val (.bool (impl_isRowCount_0 x0)))]⟩), [], [], []⟩
  | _, _ => none

def p_impl_isRowCount : PF Tryz.prog := PF.ofG Tryz.prog [p_impl_within] [] hmix 80 Tryz.f80 Tryz.func80 (fun c _ => LOk.nil c) F_impl_isRowCount (by
  intro vs es r h; unfold F_impl_isRowCount at h; split at h
  · cases h; kernel_rfl
  · cases h)

def impl_AreRestraints_1_0 (x0 : Int) : Bool :=
  !impl_within_0 x0 (0 : Int) (2 : Int)

def F_impl_AreRestraints_1 : List SV → List Entry → Option Out
  | [.one ⟨false, [.val (.int .i64 x0)]⟩], [] => some ⟨(.one ⟨false, [(.val (.bool (impl_AreRestraints_1_0 x0)))]⟩), [], [], []⟩
  | _, _ => none

def p_impl_AreRestraints_1 : PF Tryz.prog := PF.ofG Tryz.prog [p_impl_within] [] hmix 81 Tryz.f81 Tryz.func81 (fun c _ => LOk.nil c) F_impl_AreRestraints_1 (by
  intro vs es r h; unfold F_impl_AreRestraints_1 at h; split at h
  · cases h; kernel_rfl
  · cases h)

def impl_AreRestraints_1_q2002_0 (x0 : Int) : Bool :=
  !impl_within_0 x0 (0 : Int) (2 : Int)

def F_impl_AreRestraints_1_q2002 : List SV → List Entry → Option Out
  | [(.one ⟨false, [(.val (.int IntKind.i64 x0))]⟩)], [] => some ⟨(.one ⟨false, [(.val (.bool (impl_AreRestraints_1_q2002_0 x0)))]⟩), [], [], []⟩
  | _, _ => none

def p_impl_AreRestraints_1_q2002 : PF Tryz.prog := PF.ofG Tryz.prog [p_impl_within] [] hmix 81 Tryz.f81 Tryz.func81 (fun c _ => LOk.nil c) F_impl_AreRestraints_1_q2002 (by
  intro vs es r h; unfold F_impl_AreRestraints_1_q2002 at h; split at h
  · cases h; kernel_rfl
  · cases h)

abbrev X_slices_IndexFunc_int64_int64_q2001_l0 := Int × Int × List Int

def slices_IndexFunc_int64_int64_q2001_l0_0 (y0 : Int) (y1 : Int) : Bool :=
  ltI y0 y1

def slices_IndexFunc_int64_int64_q2001_l0_1 (y0 : Int) : Bool :=
  leI (0 : Int) y0

def slices_IndexFunc_int64_int64_q2001_l0_2 (y0 : Int) (y2 : List Int) : Bool :=
  ltI y0 (↑(List.length y2) : Int)

def slices_IndexFunc_int64_int64_q2001_l0_3 (y0 : Int) (y2 : List Int) : Bool :=
  ltN (Int.toNat y0) (List.length y2)

def slices_IndexFunc_int64_int64_q2001_l0_4 (y0 : Int) (y2 : List Int) : Bool :=
  impl_AreRestraints_1_q2002_0 (Option.getD y2[Int.toNat y0]? (0 : Int))

def slices_IndexFunc_int64_int64_q2001_l0_5 (y0 : Int) : Int :=
  IntKind.wrap IntKind.i64 (y0 + (1 : Int))

def JL_slices_IndexFunc_int64_int64_q2001_l0 : X_slices_IndexFunc_int64_int64_q2001_l0 → List (Nat × SV)
  | (y0, y1, _) => [(8, (.one ⟨false, [(.val (.int IntKind.i64 y0))]⟩)), (7, (.one ⟨false, [(.val (.int IntKind.i64 y1))]⟩)), (1, (.one ⟨false, [(.val (.func (.func 81) ⟨[]⟩ ⟨[]⟩))]⟩)), (0, (.one ⟨false, [(.ref 0)]⟩))]

def JE_slices_IndexFunc_int64_int64_q2001_l0 : X_slices_IndexFunc_int64_int64_q2001_l0 → List (Nat × Entry)
  | (_, _, y2) => [(0, (.row false 2 (CTy.int IntKind.i64) y2))]

def XL_slices_IndexFunc_int64_int64_q2001_l0 : Nat → X_slices_IndexFunc_int64_int64_q2001_l0 → List (Nat × SV)
  | 0, (y0, _, _) => [(4, (.one ⟨false, [(.val (.int IntKind.i64 y0))]⟩))]
  | _, (_, _, _) => []

def XE_slices_IndexFunc_int64_int64_q2001_l0 : Nat → X_slices_IndexFunc_int64_int64_q2001_l0 → List (Nat × Entry)
  | 0, (_, _, y2) => [(0, (.row false 2 (CTy.int IntKind.i64) y2))]
  | _, (_, _, y2) => [(0, (.row false 2 (CTy.int IntKind.i64) y2))]

def lt_slices_IndexFunc_int64_int64_q2001_l0 : X_slices_IndexFunc_int64_int64_q2001_l0 → LT X_slices_IndexFunc_int64_int64_q2001_l0
  | (y0, y1, y2) => .ite (slices_IndexFunc_int64_int64_q2001_l0_0 y0 y1) (.need [(slices_IndexFunc_int64_int64_q2001_l0_1 y0), (slices_IndexFunc_int64_int64_q2001_l0_2 y0 y2), (slices_IndexFunc_int64_int64_q2001_l0_3 y0 y2)] (.ite (slices_IndexFunc_int64_int64_q2001_l0_4 y0 y2) (.ext 0 [(0, 0)]) (.nrm ((slices_IndexFunc_int64_int64_q2001_l0_5 y0), y1, y2) [(0, 0)]))) (.ext 1 [(0, 0)])

def rd_slices_IndexFunc_int64_int64_q2001_l0 (s : St) : Option X_slices_IndexFunc_int64_int64_q2001_l0 :=
  (match s.look 8 with
  | some ⟨none, (.one ⟨false, [(.val (.int IntKind.i64 y0))]⟩)⟩ =>
  (match s.look 7 with
  | some ⟨none, (.one ⟨false, [(.val (.int IntKind.i64 y1))]⟩)⟩ =>
  (match s.look 1 with
  | some ⟨none, (.one ⟨false, [(.val (.func (.func 81) ⟨[]⟩ ⟨[]⟩))]⟩)⟩ =>
  (match s.look 0 with
  | some ⟨none, (.one ⟨false, [(.ref 0)]⟩)⟩ =>
  (match s.ent 0 with
  | some (.row false 2 (CTy.int IntKind.i64) y2) =>
  some (y0, y1, y2)
  | _ => none)
  | _ => none)
  | _ => none)
  | _ => none)
  | _ => none)

def lp_slices_IndexFunc_int64_int64_q2001_l0 : Lp X_slices_IndexFunc_int64_int64_q2001_l0 where
  h := ⟨[9, 10, 5, 11, 12, 13, 14, 15, 16, 17, 4, 18, 8], [0], [], []⟩
  JL := JL_slices_IndexFunc_int64_int64_q2001_l0
  JE := JE_slices_IndexFunc_int64_int64_q2001_l0
  XL := XL_slices_IndexFunc_int64_int64_q2001_l0
  XE := XE_slices_IndexFunc_int64_int64_q2001_l0
  q := fun j => match j with | 0 => .ret | _ => .exit 0
  tags := [0, 1]
  lt := lt_slices_IndexFunc_int64_int64_q2001_l0
  fuel := fun (y0, y1, y2) => y0.natAbs + y1.natAbs + y2.length
  fix := fun (_, y1, y2) (y0, _, _) => (y0, y1, y2)
  σ := [(0, 0)]
  rd := rd_slices_IndexFunc_int64_int64_q2001_l0

theorem lpok_slices_IndexFunc_int64_int64_q2001_l0 : LoopOk Tryz.prog (fun k => Nat.blt k Tryz.f89.ntmps) lp_slices_IndexFunc_int64_int64_q2001_l0.F (loopAt Tryz.f89 0) := by
  refine Lp.ok (tbl := [p_impl_AreRestraints_1_q2002]) (lf := []) hmix lp_slices_IndexFunc_int64_int64_q2001_l0 (by kernel_rfl) (LOk.nil _) (fun _ => rfl) (fun j _ => by unfold lp_slices_IndexFunc_int64_int64_q2001_l0; match j with | 0 => rfl | _ + 1 => rfl) ?_ ?_ ?_ ?_ (fun _ => rfl) ?_
  · intro x; obtain ⟨y0, y1, y2⟩ := x; kernel_rfl
  · intro x; obtain ⟨y0, y1, y2⟩ := x; kernel_rfl
  · intro s x h
    have h : rd_slices_IndexFunc_int64_int64_q2001_l0 s = some x := h
    unfold rd_slices_IndexFunc_int64_int64_q2001_l0 at h
    repeat' split at h
    all_goals cases h
    exact ⟨absS_cons (by assumption) rfl (absS_cons (by assumption) rfl (absS_cons (by assumption) rfl (absS_cons (by assumption) rfl (rfl)))), absE_cons rfl (by assumption) rfl (rfl)⟩
  · intro x; obtain ⟨y0, y1, y2⟩ := x; kernel_rfl
  · intro x z; obtain ⟨y0, y1, y2⟩ := x; exact (And.intro (And.intro trivial rfl) trivial)

def slices_IndexFunc_int64_int64_q2001_a0 (x0 : List Int) : Int × Int × List Int :=
  ((0 : Int), (↑(List.length x0) : Int), x0)

def slices_IndexFunc_int64_int64_q2001_0 (x0 : List Int) : Int :=
  bif Nat.beq (Prod.fst (Lp.res lp_slices_IndexFunc_int64_int64_q2001_l0 (slices_IndexFunc_int64_int64_q2001_a0 x0))) (0 : Nat) then
  Prod.fst (Prod.snd (Lp.res lp_slices_IndexFunc_int64_int64_q2001_l0 (slices_IndexFunc_int64_int64_q2001_a0 x0)))
  else (-1 : Int)

def slices_IndexFunc_int64_int64_q2001_1 (x0 : List Int) : Bool :=
  allT [Lp.fin lp_slices_IndexFunc_int64_int64_q2001_l0 (slices_IndexFunc_int64_int64_q2001_a0 x0)]

def F_slices_IndexFunc_int64_int64_q2001 : List SV → List Entry → Option Out
  | [(.one ⟨false, [(.ref 0)]⟩), (.one ⟨false, [(.val (.func (.func 81) ⟨[]⟩ ⟨[]⟩))]⟩)], [(.row false 2 (CTy.int IntKind.i64) x0)] => some ⟨(.one ⟨false, [(.val (.int IntKind.i64 (slices_IndexFunc_int64_int64_q2001_0 x0)))]⟩), [(.row false 2 (CTy.int IntKind.i64) x0)], [], [(slices_IndexFunc_int64_int64_q2001_1 x0)]⟩
  | _, _ => none

def p_slices_IndexFunc_int64_int64_q2001 : PF Tryz.prog := PF.ofG Tryz.prog [p_impl_AreRestraints_1_q2002] [lp_slices_IndexFunc_int64_int64_q2001_l0.F] hmix 89 Tryz.f89 Tryz.func89 (LOk.fnT (l := [loopAt Tryz.f89 0]) (by kernel_rfl) (.cons lpok_slices_IndexFunc_int64_int64_q2001_l0 (.nil _))) F_slices_IndexFunc_int64_int64_q2001 (by
  intro vs es r h; unfold F_slices_IndexFunc_int64_int64_q2001 at h; split at h
  · cases h; kernel_rfl
  · cases h)

def slices_ContainsFunc_int64_int64_q2000_0 (x0 : List Int) : Bool :=
  leI (0 : Int) (slices_IndexFunc_int64_int64_q2001_0 x0)

def slices_ContainsFunc_int64_int64_q2000_1 (x0 : List Int) : Bool :=
  allT [slices_IndexFunc_int64_int64_q2001_1 x0]

def F_slices_ContainsFunc_int64_int64_q2000 : List SV → List Entry → Option Out
  | [(.one ⟨false, [(.ref 0)]⟩), (.one ⟨false, [(.val (.func (.func 81) ⟨[]⟩ ⟨[]⟩))]⟩)], [(.row false 2 (CTy.int IntKind.i64) x0)] => some ⟨(.one ⟨false, [(.val (.bool (slices_ContainsFunc_int64_int64_q2000_0 x0)))]⟩), [(.row false 2 (CTy.int IntKind.i64) x0)], [], [(slices_ContainsFunc_int64_int64_q2000_1 x0)]⟩
  | _, _ => none

def p_slices_ContainsFunc_int64_int64_q2000 : PF Tryz.prog := PF.ofG Tryz.prog [p_slices_IndexFunc_int64_int64_q2001, PF.lend p_slices_IndexFunc_int64_int64_q2001, PF.fz p_slices_IndexFunc_int64_int64_q2001] [] hmix 63 Tryz.f63 Tryz.func63 (fun c _ => LOk.nil c) F_slices_ContainsFunc_int64_int64_q2000 (by
  intro vs es r h; unfold F_slices_ContainsFunc_int64_int64_q2000 at h; split at h
  · cases h; kernel_rfl
  · cases h)

def impl_AreRestraints_0 (x0 : List Int) : Bool :=
  bif impl_isRowCount_0 (impl_length_int64_0 x0) then !slices_ContainsFunc_int64_int64_q2000_0 x0 else false

def impl_AreRestraints_1 (x0 : List Int) : Bool :=
  allT [!(impl_isRowCount_0 (impl_length_int64_0 x0) && true) || slices_ContainsFunc_int64_int64_q2000_1 x0]

def F_impl_AreRestraints : List SV → List Entry → Option Out
  | [.one ⟨false, [.ref 0]⟩], [.row false 2 (.int .i64) x0] => some ⟨(.one ⟨false, [(.val (.bool (impl_AreRestraints_0 x0)))]⟩), [(.row false 2 (CTy.int IntKind.i64) x0)], [], [(impl_AreRestraints_1 x0)]⟩
  | _, _ => none

def p_impl_AreRestraints : PF Tryz.prog := PF.ofG Tryz.prog [p_impl_length_int64, PF.lend p_impl_length_int64, PF.fz p_impl_length_int64, p_impl_isRowCount, p_impl_AreRestraints_1, p_slices_ContainsFunc_int64_int64_q2000, PF.lend p_slices_ContainsFunc_int64_int64_q2000, PF.fz p_slices_ContainsFunc_int64_int64_q2000] [] hmix 54 Tryz.f54 Tryz.func54 (fun c _ => LOk.nil c) F_impl_AreRestraints (by
  intro vs es r h; unfold F_impl_AreRestraints at h; split at h
  · cases h; kernel_rfl
  · cases h)

def impl_AreLockFaults_1_q2005_0 (x0 : Int) (x1 : Int) (x3 : Int) (x4 : Int) : Bool :=
  bif x0 == x3 then x1 == x4 else false

def F_impl_AreLockFaults_1_q2005 : List SV → List Entry → Option Out
  | [(.one ⟨true, [(.val (.int IntKind.i64 x0)), (.val (.int IntKind.i64 x1)), (.val (.int IntKind.i64 _x2))]⟩), (.one ⟨false, [(.ptr 0 0)]⟩)], [(.box 82 [(.val (.int IntKind.i64 x3)), (.val (.int IntKind.i64 x4)), (.val (.int IntKind.i64 x5))])] => some ⟨(.one ⟨false, [(.val (.bool (impl_AreLockFaults_1_q2005_0 x0 x1 x3 x4)))]⟩), [(.box 82 [(.val (.int IntKind.i64 x3)), (.val (.int IntKind.i64 x4)), (.val (.int IntKind.i64 x5))])], [], []⟩
  | _, _ => none

def p_impl_AreLockFaults_1_q2005 : PF Tryz.prog := PF.ofG Tryz.prog [] [] hmix 83 Tryz.f83 Tryz.func83 (fun c _ => LOk.nil c) F_impl_AreLockFaults_1_q2005 (by
  intro vs es r h; unfold F_impl_AreLockFaults_1_q2005 at h; split at h
  · cases h; kernel_rfl
  · cases h)

abbrev X_slices_IndexFunc_impl_LockFault_q2004_l0 := Int × Int × Int × Int × Int × List (Int × (Int × Int))

def slices_IndexFunc_impl_LockFault_q2004_l0_a0 (y0 : Int) (y5 : List (Int × (Int × Int))) : Int × Int × Int :=
  Option.getD y5[Int.toNat y0]? ((0 : Int), (0 : Int), (0 : Int))

def slices_IndexFunc_impl_LockFault_q2004_l0_0 (y0 : Int) (y1 : Int) : Bool :=
  ltI y0 y1

def slices_IndexFunc_impl_LockFault_q2004_l0_1 (y0 : Int) : Bool :=
  leI (0 : Int) y0

def slices_IndexFunc_impl_LockFault_q2004_l0_2 (y0 : Int) (y5 : List (Int × (Int × Int))) : Bool :=
  ltI y0 (↑(List.length y5) : Int)

def slices_IndexFunc_impl_LockFault_q2004_l0_3 (y0 : Int) (y5 : List (Int × (Int × Int))) : Bool :=
  ltN (Int.toNat y0) (List.length y5)

def slices_IndexFunc_impl_LockFault_q2004_l0_4 (y0 : Int) (y2 : Int) (y3 : Int) (y5 : List (Int × (Int × Int))) : Bool :=
  impl_AreLockFaults_1_q2005_0 (Prod.fst (slices_IndexFunc_impl_LockFault_q2004_l0_a0 y0 y5))
  (Prod.fst (Prod.snd (slices_IndexFunc_impl_LockFault_q2004_l0_a0 y0 y5))) y2 y3

def slices_IndexFunc_impl_LockFault_q2004_l0_5 (y0 : Int) : Int :=
  IntKind.wrap IntKind.i64 (y0 + (1 : Int))

def JL_slices_IndexFunc_impl_LockFault_q2004_l0 : X_slices_IndexFunc_impl_LockFault_q2004_l0 → List (Nat × SV)
  | (y0, y1, _, _, _, _) => [(8, (.one ⟨false, [(.val (.int IntKind.i64 y0))]⟩)), (7, (.one ⟨false, [(.val (.int IntKind.i64 y1))]⟩)), (1, (.one ⟨false, [(.clo 83 [0])]⟩)), (0, (.one ⟨false, [(.ref 1)]⟩))]

def JE_slices_IndexFunc_impl_LockFault_q2004_l0 : X_slices_IndexFunc_impl_LockFault_q2004_l0 → List (Nat × Entry)
  | (_, _, y2, y3, y4, y5) => [(0, (.box 82 [(.val (.int IntKind.i64 y2)), (.val (.int IntKind.i64 y3)), (.val (.int IntKind.i64 y4))])), (1, (.row false 82 (CTy.pair (CTy.int IntKind.i64) (CTy.pair (CTy.int IntKind.i64) (CTy.int IntKind.i64))) y5))]

def XL_slices_IndexFunc_impl_LockFault_q2004_l0 : Nat → X_slices_IndexFunc_impl_LockFault_q2004_l0 → List (Nat × SV)
  | 0, (y0, _, _, _, _, _) => [(4, (.one ⟨false, [(.val (.int IntKind.i64 y0))]⟩))]
  | _, (_, _, _, _, _, _) => []

def XE_slices_IndexFunc_impl_LockFault_q2004_l0 : Nat → X_slices_IndexFunc_impl_LockFault_q2004_l0 → List (Nat × Entry)
  | 0, (_, _, y2, y3, y4, y5) => [(0, (.box 82 [(.val (.int IntKind.i64 y2)), (.val (.int IntKind.i64 y3)), (.val (.int IntKind.i64 y4))])), (1, (.row false 82 (CTy.pair (CTy.int IntKind.i64) (CTy.pair (CTy.int IntKind.i64) (CTy.int IntKind.i64))) y5))]
  | _, (_, _, y2, y3, y4, y5) => [(0, (.box 82 [(.val (.int IntKind.i64 y2)), (.val (.int IntKind.i64 y3)), (.val (.int IntKind.i64 y4))])), (1, (.row false 82 (CTy.pair (CTy.int IntKind.i64) (CTy.pair (CTy.int IntKind.i64) (CTy.int IntKind.i64))) y5))]

def lt_slices_IndexFunc_impl_LockFault_q2004_l0 : X_slices_IndexFunc_impl_LockFault_q2004_l0 → LT X_slices_IndexFunc_impl_LockFault_q2004_l0
  | (y0, y1, y2, y3, y4, y5) => .ite (slices_IndexFunc_impl_LockFault_q2004_l0_0 y0 y1) (.need [(slices_IndexFunc_impl_LockFault_q2004_l0_1 y0), (slices_IndexFunc_impl_LockFault_q2004_l0_2 y0 y5), (slices_IndexFunc_impl_LockFault_q2004_l0_3 y0 y5)] (.ite (slices_IndexFunc_impl_LockFault_q2004_l0_4 y0 y2 y3 y5) (.ext 0 [(0, 0), (1, 1)]) (.nrm ((slices_IndexFunc_impl_LockFault_q2004_l0_5 y0), y1, y2, y3, y4, y5) [(0, 0), (1, 1)]))) (.ext 1 [(0, 0), (1, 1)])

def rd_slices_IndexFunc_impl_LockFault_q2004_l0 (s : St) : Option X_slices_IndexFunc_impl_LockFault_q2004_l0 :=
  (match s.look 8 with
  | some ⟨none, (.one ⟨false, [(.val (.int IntKind.i64 y0))]⟩)⟩ =>
  (match s.look 7 with
  | some ⟨none, (.one ⟨false, [(.val (.int IntKind.i64 y1))]⟩)⟩ =>
  (match s.look 1 with
  | some ⟨none, (.one ⟨false, [(.clo 83 [1])]⟩)⟩ =>
  (match s.look 0 with
  | some ⟨none, (.one ⟨false, [(.ref 0)]⟩)⟩ =>
  (match s.ent 1 with
  | some (.box 82 [(.val (.int IntKind.i64 y2)), (.val (.int IntKind.i64 y3)), (.val (.int IntKind.i64 y4))]) =>
  (match s.ent 0 with
  | some (.row false 82 (CTy.pair (CTy.int IntKind.i64) (CTy.pair (CTy.int IntKind.i64) (CTy.int IntKind.i64))) y5) =>
  some (y0, y1, y2, y3, y4, y5)
  | _ => none)
  | _ => none)
  | _ => none)
  | _ => none)
  | _ => none)
  | _ => none)

def lp_slices_IndexFunc_impl_LockFault_q2004_l0 : Lp X_slices_IndexFunc_impl_LockFault_q2004_l0 where
  h := ⟨[9, 10, 5, 11, 12, 13, 14, 15, 16, 17, 4, 18, 8], [0, 1], [], []⟩
  JL := JL_slices_IndexFunc_impl_LockFault_q2004_l0
  JE := JE_slices_IndexFunc_impl_LockFault_q2004_l0
  XL := XL_slices_IndexFunc_impl_LockFault_q2004_l0
  XE := XE_slices_IndexFunc_impl_LockFault_q2004_l0
  q := fun j => match j with | 0 => .ret | _ => .exit 0
  tags := [0, 1]
  lt := lt_slices_IndexFunc_impl_LockFault_q2004_l0
  fuel := fun (y0, y1, y2, y3, y4, y5) => y0.natAbs + y1.natAbs + y2.natAbs + y3.natAbs + y4.natAbs + y5.length
  fix := fun (_, y1, y2, y3, y4, y5) (y0, _, _, _, _, _) => (y0, y1, y2, y3, y4, y5)
  σ := [(0, 1), (1, 0)]
  rd := rd_slices_IndexFunc_impl_LockFault_q2004_l0

theorem lpok_slices_IndexFunc_impl_LockFault_q2004_l0 : LoopOk Tryz.prog (fun k => Nat.blt k Tryz.f91.ntmps) lp_slices_IndexFunc_impl_LockFault_q2004_l0.F (loopAt Tryz.f91 0) := by
  refine Lp.ok (tbl := [p_impl_AreLockFaults_1_q2005]) (lf := []) hmix lp_slices_IndexFunc_impl_LockFault_q2004_l0 (by kernel_rfl) (LOk.nil _) (fun _ => rfl) (fun j _ => by unfold lp_slices_IndexFunc_impl_LockFault_q2004_l0; match j with | 0 => rfl | _ + 1 => rfl) ?_ ?_ ?_ ?_ (fun _ => rfl) ?_
  · intro x; obtain ⟨y0, y1, y2, y3, y4, y5⟩ := x; kernel_rfl
  · intro x; obtain ⟨y0, y1, y2, y3, y4, y5⟩ := x; kernel_rfl
  · intro s x h
    have h : rd_slices_IndexFunc_impl_LockFault_q2004_l0 s = some x := h
    unfold rd_slices_IndexFunc_impl_LockFault_q2004_l0 at h
    repeat' split at h
    all_goals cases h
    exact ⟨absS_cons (by assumption) rfl (absS_cons (by assumption) rfl (absS_cons (by assumption) rfl (absS_cons (by assumption) rfl (rfl)))), absE_cons rfl (by assumption) rfl (absE_cons rfl (by assumption) rfl (rfl))⟩
  · intro x; obtain ⟨y0, y1, y2, y3, y4, y5⟩ := x; kernel_rfl
  · intro x z; obtain ⟨y0, y1, y2, y3, y4, y5⟩ := x; exact (And.intro (And.intro trivial rfl) trivial)

def slices_IndexFunc_impl_LockFault_q2004_a0 (x0 : List (Int × Int × Int)) (x1 : Int) (x2 : Int) (x3 : Int) : Int × Int × Int × Int × Int × List (Int × Int × Int) :=
  ((0 : Int), (↑(List.length x0) : Int), x1, x2, x3, x0)

def slices_IndexFunc_impl_LockFault_q2004_a1 (x0 : List (Int × Int × Int)) (x1 : Int) (x2 : Int) (x3 : Int) : Bool :=
  Nat.beq (Prod.fst (Lp.res lp_slices_IndexFunc_impl_LockFault_q2004_l0 (slices_IndexFunc_impl_LockFault_q2004_a0 x0 x1 x2 x3))) (0 : Nat)

def slices_IndexFunc_impl_LockFault_q2004_0 (x0 : List (Int × Int × Int)) (x1 : Int) (x2 : Int) (x3 : Int) : Int :=
  bif slices_IndexFunc_impl_LockFault_q2004_a1 x0 x1 x2 x3 then
  Prod.fst (Prod.snd (Lp.res lp_slices_IndexFunc_impl_LockFault_q2004_l0 (slices_IndexFunc_impl_LockFault_q2004_a0 x0 x1 x2 x3)))
  else (-1 : Int)

def slices_IndexFunc_impl_LockFault_q2004_1 (x0 : List (Int × Int × Int)) (x1 : Int) (x2 : Int) (x3 : Int) : Int :=
  bif slices_IndexFunc_impl_LockFault_q2004_a1 x0 x1 x2 x3 then x1 else x1

def slices_IndexFunc_impl_LockFault_q2004_2 (x0 : List (Int × Int × Int)) (x1 : Int) (x2 : Int) (x3 : Int) : Int :=
  bif slices_IndexFunc_impl_LockFault_q2004_a1 x0 x1 x2 x3 then x2 else x2

def slices_IndexFunc_impl_LockFault_q2004_3 (x0 : List (Int × Int × Int)) (x1 : Int) (x2 : Int) (x3 : Int) : Int :=
  bif slices_IndexFunc_impl_LockFault_q2004_a1 x0 x1 x2 x3 then x3 else x3

def slices_IndexFunc_impl_LockFault_q2004_4 (x0 : List (Int × Int × Int)) (x1 : Int) (x2 : Int) (x3 : Int) : Bool :=
  allT [Lp.fin lp_slices_IndexFunc_impl_LockFault_q2004_l0 (slices_IndexFunc_impl_LockFault_q2004_a0 x0 x1 x2 x3)]

def F_slices_IndexFunc_impl_LockFault_q2004 : List SV → List Entry → Option Out
  | [(.one ⟨false, [(.ref 0)]⟩), (.one ⟨false, [(.clo 83 [1])]⟩)], [(.row false 82 (CTy.pair (CTy.int IntKind.i64) (CTy.pair (CTy.int IntKind.i64) (CTy.int IntKind.i64))) x0), (.box 82 [(.val (.int IntKind.i64 x1)), (.val (.int IntKind.i64 x2)), (.val (.int IntKind.i64 x3))])] => some ⟨(.one ⟨false, [(.val (.int IntKind.i64 (slices_IndexFunc_impl_LockFault_q2004_0 x0 x1 x2 x3)))]⟩), [(.row false 82 (CTy.pair (CTy.int IntKind.i64) (CTy.pair (CTy.int IntKind.i64) (CTy.int IntKind.i64))) x0), (.box 82 [(.val (.int IntKind.i64 (slices_IndexFunc_impl_LockFault_q2004_1 x0 x1 x2 x3))), (.val (.int IntKind.i64 (slices_IndexFunc_impl_LockFault_q2004_2 x0 x1 x2 x3))), (.val (.int IntKind.i64 (slices_IndexFunc_impl_LockFault_q2004_3 x0 x1 x2 x3)))])], [], [(slices_IndexFunc_impl_LockFault_q2004_4 x0 x1 x2 x3)]⟩
  | _, _ => none

def p_slices_IndexFunc_impl_LockFault_q2004 : PF Tryz.prog := PF.ofG Tryz.prog [p_impl_AreLockFaults_1_q2005] [lp_slices_IndexFunc_impl_LockFault_q2004_l0.F] hmix 91 Tryz.f91 Tryz.func91 (LOk.fnT (l := [loopAt Tryz.f91 0]) (by kernel_rfl) (.cons lpok_slices_IndexFunc_impl_LockFault_q2004_l0 (.nil _))) F_slices_IndexFunc_impl_LockFault_q2004 (by
  intro vs es r h; unfold F_slices_IndexFunc_impl_LockFault_q2004 at h; split at h
  · cases h; kernel_rfl
  · cases h)

def slices_ContainsFunc_impl_LockFault_q2003_0 (x0 : List (Int × Int × Int)) (x1 : Int) (x2 : Int) (x3 : Int) : Bool :=
  leI (0 : Int) (slices_IndexFunc_impl_LockFault_q2004_0 x0 x1 x2 x3)

def slices_ContainsFunc_impl_LockFault_q2003_1 (x0 : List (Int × Int × Int)) (x1 : Int) (x2 : Int) (x3 : Int) : Int :=
  slices_IndexFunc_impl_LockFault_q2004_1 x0 x1 x2 x3

def slices_ContainsFunc_impl_LockFault_q2003_2 (x0 : List (Int × Int × Int)) (x1 : Int) (x2 : Int) (x3 : Int) : Int :=
  slices_IndexFunc_impl_LockFault_q2004_2 x0 x1 x2 x3

def slices_ContainsFunc_impl_LockFault_q2003_3 (x0 : List (Int × Int × Int)) (x1 : Int) (x2 : Int) (x3 : Int) : Int :=
  slices_IndexFunc_impl_LockFault_q2004_3 x0 x1 x2 x3

def slices_ContainsFunc_impl_LockFault_q2003_4 (x0 : List (Int × Int × Int)) (x1 : Int) (x2 : Int) (x3 : Int) : Bool :=
  allT [slices_IndexFunc_impl_LockFault_q2004_4 x0 x1 x2 x3]

def F_slices_ContainsFunc_impl_LockFault_q2003 : List SV → List Entry → Option Out
  | [(.one ⟨false, [(.ref 0)]⟩), (.one ⟨false, [(.clo 83 [1])]⟩)], [(.row false 82 (CTy.pair (CTy.int IntKind.i64) (CTy.pair (CTy.int IntKind.i64) (CTy.int IntKind.i64))) x0), (.box 82 [(.val (.int IntKind.i64 x1)), (.val (.int IntKind.i64 x2)), (.val (.int IntKind.i64 x3))])] => some ⟨(.one ⟨false, [(.val (.bool (slices_ContainsFunc_impl_LockFault_q2003_0 x0 x1 x2 x3)))]⟩), [(.row false 82 (CTy.pair (CTy.int IntKind.i64) (CTy.pair (CTy.int IntKind.i64) (CTy.int IntKind.i64))) x0), (.box 82 [(.val (.int IntKind.i64 (slices_ContainsFunc_impl_LockFault_q2003_1 x0 x1 x2 x3))), (.val (.int IntKind.i64 (slices_ContainsFunc_impl_LockFault_q2003_2 x0 x1 x2 x3))), (.val (.int IntKind.i64 (slices_ContainsFunc_impl_LockFault_q2003_3 x0 x1 x2 x3)))])], [], [(slices_ContainsFunc_impl_LockFault_q2003_4 x0 x1 x2 x3)]⟩
  | _, _ => none

def p_slices_ContainsFunc_impl_LockFault_q2003 : PF Tryz.prog := PF.ofG Tryz.prog [p_slices_IndexFunc_impl_LockFault_q2004, PF.lend p_slices_IndexFunc_impl_LockFault_q2004, PF.fz p_slices_IndexFunc_impl_LockFault_q2004] [] hmix 82 Tryz.f82 Tryz.func82 (fun c _ => LOk.nil c) F_slices_ContainsFunc_impl_LockFault_q2003 (by
  intro vs es r h; unfold F_slices_ContainsFunc_impl_LockFault_q2003 at h; split at h
  · cases h; kernel_rfl
  · cases h)

abbrev X_impl_AreLockFaults_l0 := Int × Int × Int × List (Int × (Int × Int))

def impl_AreLockFaults_l0_a0 (y0 : Int) (y3 : List (Int × (Int × Int))) : Int × Int × Int :=
  Option.getD y3[Int.toNat y0]? ((0 : Int), (0 : Int), (0 : Int))

def impl_AreLockFaults_l0_a1 (y0 : Int) (y3 : List (Int × (Int × Int))) : List (Int × Int × Int) :=
  List.drop (Int.toNat (0 : Int)) (List.take (Int.toNat y0) y3)

def impl_AreLockFaults_l0_0 (y0 : Int) (y1 : Int) : Bool :=
  ltI y0 y1

def impl_AreLockFaults_l0_1 (y0 : Int) : Bool :=
  leI (0 : Int) y0

def impl_AreLockFaults_l0_2 (y0 : Int) (y3 : List (Int × (Int × Int))) : Bool :=
  ltI y0 (↑(List.length y3) : Int)

def impl_AreLockFaults_l0_3 (y0 : Int) (y3 : List (Int × (Int × Int))) : Bool :=
  ltN (Int.toNat y0) (List.length y3)

def impl_AreLockFaults_l0_4 (y0 : Int) (y2 : Int) (y3 : List (Int × (Int × Int))) : Bool :=
  bif
    bif !impl_within_0 (Prod.fst (impl_AreLockFaults_l0_a0 y0 y3)) (0 : Int) (IntKind.wrap IntKind.i64 (y2 - (1 : Int))) then true
    else !impl_within_0 (Prod.fst (Prod.snd (impl_AreLockFaults_l0_a0 y0 y3))) (0 : Int) (1 : Int) then
  true
  else !impl_within_0 (Prod.snd (Prod.snd (impl_AreLockFaults_l0_a0 y0 y3))) (0 : Int) (1 : Int)

def impl_AreLockFaults_l0_5  : Bool :=
  leI (0 : Int) (0 : Int)

def impl_AreLockFaults_l0_6 (y0 : Int) (y3 : List (Int × (Int × Int))) : Bool :=
  leI y0 (↑(List.length y3) : Int)

def impl_AreLockFaults_l0_7 (y0 : Int) (y3 : List (Int × (Int × Int))) : Bool :=
  slices_ContainsFunc_impl_LockFault_q2003_4 (impl_AreLockFaults_l0_a1 y0 y3) (Prod.fst (impl_AreLockFaults_l0_a0 y0 y3))
  (Prod.fst (Prod.snd (impl_AreLockFaults_l0_a0 y0 y3))) (Prod.snd (Prod.snd (impl_AreLockFaults_l0_a0 y0 y3)))

def impl_AreLockFaults_l0_8 (y0 : Int) (y3 : List (Int × (Int × Int))) : Bool :=
  slices_ContainsFunc_impl_LockFault_q2003_0 (impl_AreLockFaults_l0_a1 y0 y3) (Prod.fst (impl_AreLockFaults_l0_a0 y0 y3))
  (Prod.fst (Prod.snd (impl_AreLockFaults_l0_a0 y0 y3))) (Prod.snd (Prod.snd (impl_AreLockFaults_l0_a0 y0 y3)))

def impl_AreLockFaults_l0_9 (y0 : Int) : Int :=
  IntKind.wrap IntKind.i64 (y0 + (1 : Int))

def JL_impl_AreLockFaults_l0 : X_impl_AreLockFaults_l0 → List (Nat × SV)
  | (y0, y1, y2, _) => [(9, (.one ⟨false, [(.val (.int IntKind.i64 y0))]⟩)), (8, (.one ⟨false, [(.val (.int IntKind.i64 y1))]⟩)), (7, (.one ⟨false, [(.ref 0)]⟩)), (0, (.one ⟨false, [(.val (.int IntKind.i64 y2))]⟩)), (1, (.one ⟨false, [(.ref 0)]⟩))]

def JE_impl_AreLockFaults_l0 : X_impl_AreLockFaults_l0 → List (Nat × Entry)
  | (_, _, _, y3) => [(0, (.row false 82 (CTy.pair (CTy.int IntKind.i64) (CTy.pair (CTy.int IntKind.i64) (CTy.int IntKind.i64))) y3))]

def XL_impl_AreLockFaults_l0 : Nat → X_impl_AreLockFaults_l0 → List (Nat × SV)
  | 0, (_, _, _, _) => [(4, (.one ⟨false, [(.val (.bool false))]⟩))]
  | 1, (_, _, _, _) => [(4, (.one ⟨false, [(.val (.bool false))]⟩))]
  | _, (_, _, _, _) => []

def XE_impl_AreLockFaults_l0 : Nat → X_impl_AreLockFaults_l0 → List (Nat × Entry)
  | 0, (_, _, _, y3) => [(0, (.row false 82 (CTy.pair (CTy.int IntKind.i64) (CTy.pair (CTy.int IntKind.i64) (CTy.int IntKind.i64))) y3))]
  | 1, (_, _, _, y3) => [(0, (.row false 82 (CTy.pair (CTy.int IntKind.i64) (CTy.pair (CTy.int IntKind.i64) (CTy.int IntKind.i64))) y3))]
  | _, (_, _, _, y3) => [(0, (.row false 82 (CTy.pair (CTy.int IntKind.i64) (CTy.pair (CTy.int IntKind.i64) (CTy.int IntKind.i64))) y3))]

def lt_impl_AreLockFaults_l0 : X_impl_AreLockFaults_l0 → LT X_impl_AreLockFaults_l0
  | (y0, y1, y2, y3) => .ite (impl_AreLockFaults_l0_0 y0 y1) (.need [(impl_AreLockFaults_l0_1 y0), (impl_AreLockFaults_l0_2 y0 y3), (impl_AreLockFaults_l0_3 y0 y3)] (.ite (impl_AreLockFaults_l0_4 y0 y2 y3) (.ext 0 [(0, 0)]) (.need [(impl_AreLockFaults_l0_5), (impl_AreLockFaults_l0_1 y0), (impl_AreLockFaults_l0_6 y0 y3), (impl_AreLockFaults_l0_7 y0 y3)] (.ite (impl_AreLockFaults_l0_8 y0 y3) (.ext 1 [(0, 0)]) (.nrm ((impl_AreLockFaults_l0_9 y0), y1, y2, y3) [(0, 0)]))))) (.ext 2 [(0, 0)])

def rd_impl_AreLockFaults_l0 (s : St) : Option X_impl_AreLockFaults_l0 :=
  (match s.look 9 with
  | some ⟨none, (.one ⟨false, [(.val (.int IntKind.i64 y0))]⟩)⟩ =>
  (match s.look 8 with
  | some ⟨none, (.one ⟨false, [(.val (.int IntKind.i64 y1))]⟩)⟩ =>
  (match s.look 7 with
  | some ⟨none, (.one ⟨false, [(.ref 0)]⟩)⟩ =>
  (match s.look 0 with
  | some ⟨none, (.one ⟨false, [(.val (.int IntKind.i64 y2))]⟩)⟩ =>
  (match s.look 1 with
  | some ⟨none, (.one ⟨false, [(.ref 0)]⟩)⟩ =>
  (match s.ent 0 with
  | some (.row false 82 (CTy.pair (CTy.int IntKind.i64) (CTy.pair (CTy.int IntKind.i64) (CTy.int IntKind.i64))) y3) =>
  some (y0, y1, y2, y3)
  | _ => none)
  | _ => none)
  | _ => none)
  | _ => none)
  | _ => none)
  | _ => none)

def lp_impl_AreLockFaults_l0 : Lp X_impl_AreLockFaults_l0 where
  h := ⟨[10, 11, 12, 13, 6, 5, 14, 15, 16, 17, 18, 19, 20, 21, 22, 23, 24, 25, 26, 27, 28, 29, 30, 31, 4, 32, 33, 34, 35, 36, 37, 9], [0], [], []⟩
  JL := JL_impl_AreLockFaults_l0
  JE := JE_impl_AreLockFaults_l0
  XL := XL_impl_AreLockFaults_l0
  XE := XE_impl_AreLockFaults_l0
  q := fun j => match j with | 0 => .ret | 1 => .ret | _ => .exit 0
  tags := [0, 1, 2]
  lt := lt_impl_AreLockFaults_l0
  fuel := fun (y0, y1, y2, y3) => y0.natAbs + y1.natAbs + y2.natAbs + y3.length
  fix := fun (_, y1, y2, y3) (y0, _, _, _) => (y0, y1, y2, y3)
  σ := [(0, 0)]
  rd := rd_impl_AreLockFaults_l0

theorem lpok_impl_AreLockFaults_l0 : LoopOk Tryz.prog (fun k => Nat.blt k Tryz.f55.ntmps) lp_impl_AreLockFaults_l0.F (loopAt Tryz.f55 0) := by
  refine Lp.ok (tbl := [p_impl_within, p_impl_isRowCount, p_slices_ContainsFunc_impl_LockFault_q2003, PF.lend p_slices_ContainsFunc_impl_LockFault_q2003, PF.fz p_slices_ContainsFunc_impl_LockFault_q2003]) (lf := []) hmix lp_impl_AreLockFaults_l0 (by kernel_rfl) (LOk.nil _) (fun _ => rfl) (fun j _ => by unfold lp_impl_AreLockFaults_l0; match j with | 0 => rfl | 1 => rfl | _ + 2 => rfl) ?_ ?_ ?_ ?_ (fun _ => rfl) ?_
  · intro x; obtain ⟨y0, y1, y2, y3⟩ := x; kernel_rfl
  · intro x; obtain ⟨y0, y1, y2, y3⟩ := x; kernel_rfl
  · intro s x h
    have h : rd_impl_AreLockFaults_l0 s = some x := h
    unfold rd_impl_AreLockFaults_l0 at h
    repeat' split at h
    all_goals cases h
    exact ⟨absS_cons (by assumption) rfl (absS_cons (by assumption) rfl (absS_cons (by assumption) rfl (absS_cons (by assumption) rfl (absS_cons (by assumption) rfl (rfl))))), absE_cons rfl (by assumption) rfl (rfl)⟩
  · intro x; obtain ⟨y0, y1, y2, y3⟩ := x; kernel_rfl
  · intro x z; obtain ⟨y0, y1, y2, y3⟩ := x; exact (And.intro (And.intro trivial (And.intro trivial rfl)) trivial)

def impl_AreLockFaults_a0 (x0 : Int) (x1 : List (Int × Int × Int)) : Int × Int × Int × List (Int × Int × Int) :=
  ((0 : Int), (↑(List.length x1) : Int), x0, x1)

def impl_AreLockFaults_0 (x0 : Int) (x1 : List (Int × Int × Int)) : Bool :=
  bif Nat.beq (Prod.fst (Lp.res lp_impl_AreLockFaults_l0 (impl_AreLockFaults_a0 x0 x1))) (0 : Nat) then false
  else
  bif Nat.beq (Prod.fst (Lp.res lp_impl_AreLockFaults_l0 (impl_AreLockFaults_a0 x0 x1))) (1 : Nat) then false
  else bif impl_isRowCount_0 x0 then leI (↑(List.length x1) : Int) (8 : Int) else false

def impl_AreLockFaults_1 (x0 : Int) (x1 : List (Int × Int × Int)) : Bool :=
  allT [Lp.fin lp_impl_AreLockFaults_l0 (impl_AreLockFaults_a0 x0 x1)]

def F_impl_AreLockFaults : List SV → List Entry → Option Out
  | [.one ⟨false, [.val (.int .i64 x0)]⟩, .one ⟨false, [.ref 0]⟩], [.row false 82 (.pair (.int .i64) (.pair (.int .i64) (.int .i64))) x1] => some ⟨(.one ⟨false, [(.val (.bool (impl_AreLockFaults_0 x0 x1)))]⟩), [(.row false 82 (CTy.pair (CTy.int IntKind.i64) (CTy.pair (CTy.int IntKind.i64) (CTy.int IntKind.i64))) x1)], [], [(impl_AreLockFaults_1 x0 x1)]⟩
  | _, _ => none

def p_impl_AreLockFaults : PF Tryz.prog := PF.ofG Tryz.prog [p_impl_within, p_impl_isRowCount, p_slices_ContainsFunc_impl_LockFault_q2003, PF.lend p_slices_ContainsFunc_impl_LockFault_q2003, PF.fz p_slices_ContainsFunc_impl_LockFault_q2003] [lp_impl_AreLockFaults_l0.F] hmix 55 Tryz.f55 Tryz.func55 (LOk.fnT (l := [loopAt Tryz.f55 0]) (by kernel_rfl) (.cons lpok_impl_AreLockFaults_l0 (.nil _))) F_impl_AreLockFaults (by
  intro vs es r h; unfold F_impl_AreLockFaults at h; split at h
  · cases h; kernel_rfl
  · cases h)

def impl_isMode_0 (x0 : Int) : Bool :=
  impl_within_0 x0 (0 : Int) (5 : Int)

def F_impl_isMode : List SV → List Entry → Option Out
  | [.one ⟨false, [.val (.int .i64 x0)]⟩], [] => some ⟨(.one ⟨false, [(.val (.bool (impl_isMode_0 x0)))]⟩), [], [], []⟩
  | _, _ => none

def p_impl_isMode : PF Tryz.prog := PF.ofG Tryz.prog [p_impl_within] [] hmix 57 Tryz.f57 Tryz.func57 (fun c _ => LOk.nil c) F_impl_isMode (by
  intro vs es r h; unfold F_impl_isMode at h; split at h
  · cases h; kernel_rfl
  · cases h)

def impl_isDay_0 (x0 : Int) : Bool :=
  impl_within_0 x0 (0 : Int) (100000 : Int)

def F_impl_isDay : List SV → List Entry → Option Out
  | [.one ⟨false, [.val (.int .i64 x0)]⟩], [] => some ⟨(.one ⟨false, [(.val (.bool (impl_isDay_0 x0)))]⟩), [], [], []⟩
  | _, _ => none

def p_impl_isDay : PF Tryz.prog := PF.ofG Tryz.prog [p_impl_within] [] hmix 60 Tryz.f60 Tryz.func60 (fun c _ => LOk.nil c) F_impl_isDay (by
  intro vs es r h; unfold F_impl_isDay at h; split at h
  · cases h; kernel_rfl
  · cases h)

def impl_IsPlan_1_0 (x0 : Int) (x1 : Int) : Bool :=
  bif !impl_within_0 x0 (1 : Int) (366 : Int) then true else !impl_isDay_0 x1

def F_impl_IsPlan_1 : List SV → List Entry → Option Out
  | [.one ⟨true, [.val (.int .i64 x0), .val (.int .i64 x1)]⟩], [] => some ⟨(.one ⟨false, [(.val (.bool (impl_IsPlan_1_0 x0 x1)))]⟩), [], [], []⟩
  | _, _ => none

def p_impl_IsPlan_1 : PF Tryz.prog := PF.ofG Tryz.prog [p_impl_isDay, p_impl_within] [] hmix 85 Tryz.f85 Tryz.func85 (fun c _ => LOk.nil c) F_impl_IsPlan_1 (by
  intro vs es r h; unfold F_impl_IsPlan_1 at h; split at h
  · cases h; kernel_rfl
  · cases h)

def impl_IsPlan_1_q2008_0 (x0 : Int) (x1 : Int) : Bool :=
  bif !impl_within_0 x0 (1 : Int) (366 : Int) then true else !impl_isDay_0 x1

def F_impl_IsPlan_1_q2008 : List SV → List Entry → Option Out
  | [(.one ⟨true, [(.val (.int IntKind.i64 x0)), (.val (.int IntKind.i64 x1))]⟩)], [] => some ⟨(.one ⟨false, [(.val (.bool (impl_IsPlan_1_q2008_0 x0 x1)))]⟩), [], [], []⟩
  | _, _ => none

def p_impl_IsPlan_1_q2008 : PF Tryz.prog := PF.ofG Tryz.prog [p_impl_isDay, p_impl_within] [] hmix 85 Tryz.f85 Tryz.func85 (fun c _ => LOk.nil c) F_impl_IsPlan_1_q2008 (by
  intro vs es r h; unfold F_impl_IsPlan_1_q2008 at h; split at h
  · cases h; kernel_rfl
  · cases h)

abbrev X_slices_IndexFunc_impl_Task_q2007_l0 := Int × Int × List (Int × Int)

def slices_IndexFunc_impl_Task_q2007_l0_a0 (y0 : Int) (y2 : List (Int × Int)) : Int × Int :=
  Option.getD y2[Int.toNat y0]? ((0 : Int), (0 : Int))

def slices_IndexFunc_impl_Task_q2007_l0_0 (y0 : Int) (y1 : Int) : Bool :=
  ltI y0 y1

def slices_IndexFunc_impl_Task_q2007_l0_1 (y0 : Int) : Bool :=
  leI (0 : Int) y0

def slices_IndexFunc_impl_Task_q2007_l0_2 (y0 : Int) (y2 : List (Int × Int)) : Bool :=
  ltI y0 (↑(List.length y2) : Int)

def slices_IndexFunc_impl_Task_q2007_l0_3 (y0 : Int) (y2 : List (Int × Int)) : Bool :=
  ltN (Int.toNat y0) (List.length y2)

def slices_IndexFunc_impl_Task_q2007_l0_4 (y0 : Int) (y2 : List (Int × Int)) : Bool :=
  impl_IsPlan_1_q2008_0 (Prod.fst (slices_IndexFunc_impl_Task_q2007_l0_a0 y0 y2)) (Prod.snd (slices_IndexFunc_impl_Task_q2007_l0_a0 y0 y2))

def slices_IndexFunc_impl_Task_q2007_l0_5 (y0 : Int) : Int :=
  IntKind.wrap IntKind.i64 (y0 + (1 : Int))

def JL_slices_IndexFunc_impl_Task_q2007_l0 : X_slices_IndexFunc_impl_Task_q2007_l0 → List (Nat × SV)
  | (y0, y1, _) => [(8, (.one ⟨false, [(.val (.int IntKind.i64 y0))]⟩)), (7, (.one ⟨false, [(.val (.int IntKind.i64 y1))]⟩)), (1, (.one ⟨false, [(.val (.func (.func 85) ⟨[]⟩ ⟨[]⟩))]⟩)), (0, (.one ⟨false, [(.ref 0)]⟩))]

def JE_slices_IndexFunc_impl_Task_q2007_l0 : X_slices_IndexFunc_impl_Task_q2007_l0 → List (Nat × Entry)
  | (_, _, y2) => [(0, (.row false 86 (CTy.pair (CTy.int IntKind.i64) (CTy.int IntKind.i64)) y2))]

def XL_slices_IndexFunc_impl_Task_q2007_l0 : Nat → X_slices_IndexFunc_impl_Task_q2007_l0 → List (Nat × SV)
  | 0, (y0, _, _) => [(4, (.one ⟨false, [(.val (.int IntKind.i64 y0))]⟩))]
  | _, (_, _, _) => []

def XE_slices_IndexFunc_impl_Task_q2007_l0 : Nat → X_slices_IndexFunc_impl_Task_q2007_l0 → List (Nat × Entry)
  | 0, (_, _, y2) => [(0, (.row false 86 (CTy.pair (CTy.int IntKind.i64) (CTy.int IntKind.i64)) y2))]
  | _, (_, _, y2) => [(0, (.row false 86 (CTy.pair (CTy.int IntKind.i64) (CTy.int IntKind.i64)) y2))]

def lt_slices_IndexFunc_impl_Task_q2007_l0 : X_slices_IndexFunc_impl_Task_q2007_l0 → LT X_slices_IndexFunc_impl_Task_q2007_l0
  | (y0, y1, y2) => .ite (slices_IndexFunc_impl_Task_q2007_l0_0 y0 y1) (.need [(slices_IndexFunc_impl_Task_q2007_l0_1 y0), (slices_IndexFunc_impl_Task_q2007_l0_2 y0 y2), (slices_IndexFunc_impl_Task_q2007_l0_3 y0 y2)] (.ite (slices_IndexFunc_impl_Task_q2007_l0_4 y0 y2) (.ext 0 [(0, 0)]) (.nrm ((slices_IndexFunc_impl_Task_q2007_l0_5 y0), y1, y2) [(0, 0)]))) (.ext 1 [(0, 0)])

def rd_slices_IndexFunc_impl_Task_q2007_l0 (s : St) : Option X_slices_IndexFunc_impl_Task_q2007_l0 :=
  (match s.look 8 with
  | some ⟨none, (.one ⟨false, [(.val (.int IntKind.i64 y0))]⟩)⟩ =>
  (match s.look 7 with
  | some ⟨none, (.one ⟨false, [(.val (.int IntKind.i64 y1))]⟩)⟩ =>
  (match s.look 1 with
  | some ⟨none, (.one ⟨false, [(.val (.func (.func 85) ⟨[]⟩ ⟨[]⟩))]⟩)⟩ =>
  (match s.look 0 with
  | some ⟨none, (.one ⟨false, [(.ref 0)]⟩)⟩ =>
  (match s.ent 0 with
  | some (.row false 86 (CTy.pair (CTy.int IntKind.i64) (CTy.int IntKind.i64)) y2) =>
  some (y0, y1, y2)
  | _ => none)
  | _ => none)
  | _ => none)
  | _ => none)
  | _ => none)

def lp_slices_IndexFunc_impl_Task_q2007_l0 : Lp X_slices_IndexFunc_impl_Task_q2007_l0 where
  h := ⟨[9, 10, 5, 11, 12, 13, 14, 15, 16, 17, 4, 18, 8], [0], [], []⟩
  JL := JL_slices_IndexFunc_impl_Task_q2007_l0
  JE := JE_slices_IndexFunc_impl_Task_q2007_l0
  XL := XL_slices_IndexFunc_impl_Task_q2007_l0
  XE := XE_slices_IndexFunc_impl_Task_q2007_l0
  q := fun j => match j with | 0 => .ret | _ => .exit 0
  tags := [0, 1]
  lt := lt_slices_IndexFunc_impl_Task_q2007_l0
  fuel := fun (y0, y1, y2) => y0.natAbs + y1.natAbs + y2.length
  fix := fun (_, y1, y2) (y0, _, _) => (y0, y1, y2)
  σ := [(0, 0)]
  rd := rd_slices_IndexFunc_impl_Task_q2007_l0

theorem lpok_slices_IndexFunc_impl_Task_q2007_l0 : LoopOk Tryz.prog (fun k => Nat.blt k Tryz.f92.ntmps) lp_slices_IndexFunc_impl_Task_q2007_l0.F (loopAt Tryz.f92 0) := by
  refine Lp.ok (tbl := [p_impl_IsPlan_1_q2008]) (lf := []) hmix lp_slices_IndexFunc_impl_Task_q2007_l0 (by kernel_rfl) (LOk.nil _) (fun _ => rfl) (fun j _ => by unfold lp_slices_IndexFunc_impl_Task_q2007_l0; match j with | 0 => rfl | _ + 1 => rfl) ?_ ?_ ?_ ?_ (fun _ => rfl) ?_
  · intro x; obtain ⟨y0, y1, y2⟩ := x; kernel_rfl
  · intro x; obtain ⟨y0, y1, y2⟩ := x; kernel_rfl
  · intro s x h
    have h : rd_slices_IndexFunc_impl_Task_q2007_l0 s = some x := h
    unfold rd_slices_IndexFunc_impl_Task_q2007_l0 at h
    repeat' split at h
    all_goals cases h
    exact ⟨absS_cons (by assumption) rfl (absS_cons (by assumption) rfl (absS_cons (by assumption) rfl (absS_cons (by assumption) rfl (rfl)))), absE_cons rfl (by assumption) rfl (rfl)⟩
  · intro x; obtain ⟨y0, y1, y2⟩ := x; kernel_rfl
  · intro x z; obtain ⟨y0, y1, y2⟩ := x; exact (And.intro (And.intro trivial rfl) trivial)

def slices_IndexFunc_impl_Task_q2007_a0 (x0 : List (Int × Int)) : Int × Int × List (Int × Int) :=
  ((0 : Int), (↑(List.length x0) : Int), x0)

def slices_IndexFunc_impl_Task_q2007_0 (x0 : List (Int × Int)) : Int :=
  bif Nat.beq (Prod.fst (Lp.res lp_slices_IndexFunc_impl_Task_q2007_l0 (slices_IndexFunc_impl_Task_q2007_a0 x0))) (0 : Nat) then
  Prod.fst (Prod.snd (Lp.res lp_slices_IndexFunc_impl_Task_q2007_l0 (slices_IndexFunc_impl_Task_q2007_a0 x0)))
  else (-1 : Int)

def slices_IndexFunc_impl_Task_q2007_1 (x0 : List (Int × Int)) : Bool :=
  allT [Lp.fin lp_slices_IndexFunc_impl_Task_q2007_l0 (slices_IndexFunc_impl_Task_q2007_a0 x0)]

def F_slices_IndexFunc_impl_Task_q2007 : List SV → List Entry → Option Out
  | [(.one ⟨false, [(.ref 0)]⟩), (.one ⟨false, [(.val (.func (.func 85) ⟨[]⟩ ⟨[]⟩))]⟩)], [(.row false 86 (CTy.pair (CTy.int IntKind.i64) (CTy.int IntKind.i64)) x0)] => some ⟨(.one ⟨false, [(.val (.int IntKind.i64 (slices_IndexFunc_impl_Task_q2007_0 x0)))]⟩), [(.row false 86 (CTy.pair (CTy.int IntKind.i64) (CTy.int IntKind.i64)) x0)], [], [(slices_IndexFunc_impl_Task_q2007_1 x0)]⟩
  | _, _ => none

def p_slices_IndexFunc_impl_Task_q2007 : PF Tryz.prog := PF.ofG Tryz.prog [p_impl_IsPlan_1_q2008] [lp_slices_IndexFunc_impl_Task_q2007_l0.F] hmix 92 Tryz.f92 Tryz.func92 (LOk.fnT (l := [loopAt Tryz.f92 0]) (by kernel_rfl) (.cons lpok_slices_IndexFunc_impl_Task_q2007_l0 (.nil _))) F_slices_IndexFunc_impl_Task_q2007 (by
  intro vs es r h; unfold F_slices_IndexFunc_impl_Task_q2007 at h; split at h
  · cases h; kernel_rfl
  · cases h)

def slices_ContainsFunc_impl_Task_q2006_0 (x0 : List (Int × Int)) : Bool :=
  leI (0 : Int) (slices_IndexFunc_impl_Task_q2007_0 x0)

def slices_ContainsFunc_impl_Task_q2006_1 (x0 : List (Int × Int)) : Bool :=
  allT [slices_IndexFunc_impl_Task_q2007_1 x0]

def F_slices_ContainsFunc_impl_Task_q2006 : List SV → List Entry → Option Out
  | [(.one ⟨false, [(.ref 0)]⟩), (.one ⟨false, [(.val (.func (.func 85) ⟨[]⟩ ⟨[]⟩))]⟩)], [(.row false 86 (CTy.pair (CTy.int IntKind.i64) (CTy.int IntKind.i64)) x0)] => some ⟨(.one ⟨false, [(.val (.bool (slices_ContainsFunc_impl_Task_q2006_0 x0)))]⟩), [(.row false 86 (CTy.pair (CTy.int IntKind.i64) (CTy.int IntKind.i64)) x0)], [], [(slices_ContainsFunc_impl_Task_q2006_1 x0)]⟩
  | _, _ => none

def p_slices_ContainsFunc_impl_Task_q2006 : PF Tryz.prog := PF.ofG Tryz.prog [p_slices_IndexFunc_impl_Task_q2007, PF.lend p_slices_IndexFunc_impl_Task_q2007, PF.fz p_slices_IndexFunc_impl_Task_q2007] [] hmix 84 Tryz.f84 Tryz.func84 (fun c _ => LOk.nil c) F_slices_ContainsFunc_impl_Task_q2006 (by
  intro vs es r h; unfold F_slices_ContainsFunc_impl_Task_q2006 at h; split at h
  · cases h; kernel_rfl
  · cases h)

def impl_IsPlan_a0 (x0 : List (Int × Int)) : Bool :=
  leI (↑(List.length x0) : Int) (12 : Int)

def impl_IsPlan_0 (x0 : List (Int × Int)) : Bool :=
  bif impl_IsPlan_a0 x0 then !slices_ContainsFunc_impl_Task_q2006_0 x0 else false

def impl_IsPlan_1 (x0 : List (Int × Int)) : Bool :=
  allT [!(impl_IsPlan_a0 x0 && true) || slices_ContainsFunc_impl_Task_q2006_1 x0]

def F_impl_IsPlan : List SV → List Entry → Option Out
  | [.one ⟨false, [.ref 0]⟩], [.row false 86 (.pair (.int .i64) (.int .i64)) x0] => some ⟨(.one ⟨false, [(.val (.bool (impl_IsPlan_0 x0)))]⟩), [(.row false 86 (CTy.pair (CTy.int IntKind.i64) (CTy.int IntKind.i64)) x0)], [], [(impl_IsPlan_1 x0)]⟩
  | _, _ => none

def p_impl_IsPlan : PF Tryz.prog := PF.ofG Tryz.prog [p_impl_IsPlan_1, p_slices_ContainsFunc_impl_Task_q2006, PF.lend p_slices_ContainsFunc_impl_Task_q2006, PF.fz p_slices_ContainsFunc_impl_Task_q2006] [] hmix 58 Tryz.f58 Tryz.func58 (fun c _ => LOk.nil c) F_impl_IsPlan (by
  intro vs es r h; unfold F_impl_IsPlan at h; split at h
  · cases h; kernel_rfl
  · cases h)

def impl_isLock_0 (x0 : Int) (x1 : Int) : Bool :=
  bif impl_within_0 x0 (0 : Int) (23 : Int) then impl_within_0 x1 (1 : Int) (999 : Int) else false

def F_impl_isLock : List SV → List Entry → Option Out
  | [.one ⟨true, [.val (.int .i64 x0), .val (.int .i64 x1)]⟩], [] => some ⟨(.one ⟨false, [(.val (.bool (impl_isLock_0 x0 x1)))]⟩), [], [], []⟩
  | _, _ => none

def p_impl_isLock : PF Tryz.prog := PF.ofG Tryz.prog [p_impl_within] [] hmix 86 Tryz.f86 Tryz.func86 (fun c _ => LOk.nil c) F_impl_isLock (by
  intro vs es r h; unfold F_impl_isLock at h; split at h
  · cases h; kernel_rfl
  · cases h)

abbrev X_slices_Index_impl_Lock_l0 := Int × Int × Int × Int × List (Int × Int)

def slices_Index_impl_Lock_l0_a0 (y0 : Int) (y4 : List (Int × Int)) : Int × Int :=
  Option.getD y4[Int.toNat y0]? ((0 : Int), (0 : Int))

def slices_Index_impl_Lock_l0_0 (y0 : Int) (y1 : Int) : Bool :=
  ltI y0 y1

def slices_Index_impl_Lock_l0_1 (y0 : Int) : Bool :=
  leI (0 : Int) y0

def slices_Index_impl_Lock_l0_2 (y0 : Int) (y4 : List (Int × Int)) : Bool :=
  ltI y0 (↑(List.length y4) : Int)

def slices_Index_impl_Lock_l0_3 (y0 : Int) (y4 : List (Int × Int)) : Bool :=
  ltN (Int.toNat y0) (List.length y4)

def slices_Index_impl_Lock_l0_4 (y0 : Int) (y2 : Int) (y3 : Int) (y4 : List (Int × Int)) : Bool :=
  bif y2 == Prod.fst (slices_Index_impl_Lock_l0_a0 y0 y4) then bif y3 == Prod.snd (slices_Index_impl_Lock_l0_a0 y0 y4) then true else false else false

def slices_Index_impl_Lock_l0_5 (y0 : Int) : Int :=
  IntKind.wrap IntKind.i64 (y0 + (1 : Int))

def JL_slices_Index_impl_Lock_l0 : X_slices_Index_impl_Lock_l0 → List (Nat × SV)
  | (y0, y1, _, _, _) => [(8, (.one ⟨false, [(.val (.int IntKind.i64 y0))]⟩)), (7, (.one ⟨false, [(.val (.int IntKind.i64 y1))]⟩)), (3, (.one ⟨false, [(.ptr 0 0)]⟩)), (0, (.one ⟨false, [(.ref 1)]⟩))]

def JE_slices_Index_impl_Lock_l0 : X_slices_Index_impl_Lock_l0 → List (Nat × Entry)
  | (_, _, y2, y3, y4) => [(0, (.box 90 [(.val (.int IntKind.i64 y2)), (.val (.int IntKind.i64 y3))])), (1, (.row false 90 (CTy.pair (CTy.int IntKind.i64) (CTy.int IntKind.i64)) y4))]

def XL_slices_Index_impl_Lock_l0 : Nat → X_slices_Index_impl_Lock_l0 → List (Nat × SV)
  | 0, (y0, _, _, _, _) => [(4, (.one ⟨false, [(.val (.int IntKind.i64 y0))]⟩))]
  | _, (_, _, _, _, _) => []

def XE_slices_Index_impl_Lock_l0 : Nat → X_slices_Index_impl_Lock_l0 → List (Nat × Entry)
  | 0, (_, _, y2, y3, y4) => [(0, (.box 90 [(.val (.int IntKind.i64 y2)), (.val (.int IntKind.i64 y3))])), (1, (.row false 90 (CTy.pair (CTy.int IntKind.i64) (CTy.int IntKind.i64)) y4))]
  | _, (_, _, y2, y3, y4) => [(0, (.box 90 [(.val (.int IntKind.i64 y2)), (.val (.int IntKind.i64 y3))])), (1, (.row false 90 (CTy.pair (CTy.int IntKind.i64) (CTy.int IntKind.i64)) y4))]

def lt_slices_Index_impl_Lock_l0 : X_slices_Index_impl_Lock_l0 → LT X_slices_Index_impl_Lock_l0
  | (y0, y1, y2, y3, y4) => .ite (slices_Index_impl_Lock_l0_0 y0 y1) (.need [(slices_Index_impl_Lock_l0_1 y0), (slices_Index_impl_Lock_l0_2 y0 y4), (slices_Index_impl_Lock_l0_3 y0 y4)] (.ite (slices_Index_impl_Lock_l0_4 y0 y2 y3 y4) (.ext 0 [(0, 0), (1, 1)]) (.nrm ((slices_Index_impl_Lock_l0_5 y0), y1, y2, y3, y4) [(0, 0), (1, 1)]))) (.ext 1 [(0, 0), (1, 1)])

def rd_slices_Index_impl_Lock_l0 (s : St) : Option X_slices_Index_impl_Lock_l0 :=
  (match s.look 8 with
  | some ⟨none, (.one ⟨false, [(.val (.int IntKind.i64 y0))]⟩)⟩ =>
  (match s.look 7 with
  | some ⟨none, (.one ⟨false, [(.val (.int IntKind.i64 y1))]⟩)⟩ =>
  (match s.look 3 with
  | some ⟨none, (.one ⟨false, [(.ptr 128 0)]⟩)⟩ =>
  (match s.look 0 with
  | some ⟨none, (.one ⟨false, [(.ref 0)]⟩)⟩ =>
  (match s.ent 128 with
  | some (.box 90 [(.val (.int IntKind.i64 y2)), (.val (.int IntKind.i64 y3))]) =>
  (match s.ent 0 with
  | some (.row false 90 (CTy.pair (CTy.int IntKind.i64) (CTy.int IntKind.i64)) y4) =>
  some (y0, y1, y2, y3, y4)
  | _ => none)
  | _ => none)
  | _ => none)
  | _ => none)
  | _ => none)
  | _ => none)

def lp_slices_Index_impl_Lock_l0 : Lp X_slices_Index_impl_Lock_l0 where
  h := ⟨[9, 10, 5, 11, 12, 13, 14, 15, 16, 17, 4, 18, 8], [0, 1], [], []⟩
  JL := JL_slices_Index_impl_Lock_l0
  JE := JE_slices_Index_impl_Lock_l0
  XL := XL_slices_Index_impl_Lock_l0
  XE := XE_slices_Index_impl_Lock_l0
  q := fun j => match j with | 0 => .ret | _ => .exit 0
  tags := [0, 1]
  lt := lt_slices_Index_impl_Lock_l0
  fuel := fun (y0, y1, y2, y3, y4) => y0.natAbs + y1.natAbs + y2.natAbs + y3.natAbs + y4.length
  fix := fun (_, y1, y2, y3, y4) (y0, _, _, _, _) => (y0, y1, y2, y3, y4)
  σ := [(0, 128), (1, 0)]
  rd := rd_slices_Index_impl_Lock_l0

theorem lpok_slices_Index_impl_Lock_l0 : LoopOk Tryz.prog (fun k => Nat.blt k Tryz.f93.ntmps) lp_slices_Index_impl_Lock_l0.F (loopAt Tryz.f93 0) := by
  refine Lp.ok (tbl := []) (lf := []) hmix lp_slices_Index_impl_Lock_l0 (by kernel_rfl) (LOk.nil _) (fun _ => rfl) (fun j _ => by unfold lp_slices_Index_impl_Lock_l0; match j with | 0 => rfl | _ + 1 => rfl) ?_ ?_ ?_ ?_ (fun _ => rfl) ?_
  · intro x; obtain ⟨y0, y1, y2, y3, y4⟩ := x; kernel_rfl
  · intro x; obtain ⟨y0, y1, y2, y3, y4⟩ := x; kernel_rfl
  · intro s x h
    have h : rd_slices_Index_impl_Lock_l0 s = some x := h
    unfold rd_slices_Index_impl_Lock_l0 at h
    repeat' split at h
    all_goals cases h
    exact ⟨absS_cons (by assumption) rfl (absS_cons (by assumption) rfl (absS_cons (by assumption) rfl (absS_cons (by assumption) rfl (rfl)))), absE_cons rfl (by assumption) rfl (absE_cons rfl (by assumption) rfl (rfl))⟩
  · intro x; obtain ⟨y0, y1, y2, y3, y4⟩ := x; kernel_rfl
  · intro x z; obtain ⟨y0, y1, y2, y3, y4⟩ := x; exact (And.intro (And.intro trivial rfl) trivial)

def slices_Index_impl_Lock_a0 (x0 : Int) (x1 : Int) (x2 : List (Int × Int)) : Int × Int × Int × Int × List (Int × Int) :=
  ((0 : Int), (↑(List.length x2) : Int), x0, x1, x2)

def slices_Index_impl_Lock_0 (x0 : Int) (x1 : Int) (x2 : List (Int × Int)) : Int :=
  bif Nat.beq (Prod.fst (Lp.res lp_slices_Index_impl_Lock_l0 (slices_Index_impl_Lock_a0 x0 x1 x2))) (0 : Nat) then
  Prod.fst (Prod.snd (Lp.res lp_slices_Index_impl_Lock_l0 (slices_Index_impl_Lock_a0 x0 x1 x2)))
  else (-1 : Int)

def slices_Index_impl_Lock_1 (x0 : Int) (x1 : Int) (x2 : List (Int × Int)) : Bool :=
  allT [Lp.fin lp_slices_Index_impl_Lock_l0 (slices_Index_impl_Lock_a0 x0 x1 x2)]

def F_slices_Index_impl_Lock : List SV → List Entry → Option Out
  | [.one ⟨false, [.ref 0]⟩, .one ⟨true, [.val (.int .i64 x0), .val (.int .i64 x1)]⟩], [.row false 90 (.pair (.int .i64) (.int .i64)) x2] => some ⟨(.one ⟨false, [(.val (.int IntKind.i64 (slices_Index_impl_Lock_0 x0 x1 x2)))]⟩), [(.row false 90 (CTy.pair (CTy.int IntKind.i64) (CTy.int IntKind.i64)) x2)], [], [(slices_Index_impl_Lock_1 x0 x1 x2)]⟩
  | _, _ => none

def p_slices_Index_impl_Lock : PF Tryz.prog := PF.ofG Tryz.prog [] [lp_slices_Index_impl_Lock_l0.F] hmix 93 Tryz.f93 Tryz.func93 (LOk.fnT (l := [loopAt Tryz.f93 0]) (by kernel_rfl) (.cons lpok_slices_Index_impl_Lock_l0 (.nil _))) F_slices_Index_impl_Lock (by
  intro vs es r h; unfold F_slices_Index_impl_Lock at h; split at h
  · cases h; kernel_rfl
  · cases h)

def slices_Contains_impl_Lock_0 (x0 : Int) (x1 : Int) (x2 : List (Int × Int)) : Bool :=
  leI (0 : Int) (slices_Index_impl_Lock_0 x0 x1 x2)

def slices_Contains_impl_Lock_1 (x0 : Int) (x1 : Int) (x2 : List (Int × Int)) : Bool :=
  allT [slices_Index_impl_Lock_1 x0 x1 x2]

def F_slices_Contains_impl_Lock : List SV → List Entry → Option Out
  | [.one ⟨false, [.ref 0]⟩, .one ⟨true, [.val (.int .i64 x0), .val (.int .i64 x1)]⟩], [.row false 90 (.pair (.int .i64) (.int .i64)) x2] => some ⟨(.one ⟨false, [(.val (.bool (slices_Contains_impl_Lock_0 x0 x1 x2)))]⟩), [(.row false 90 (CTy.pair (CTy.int IntKind.i64) (CTy.int IntKind.i64)) x2)], [], [(slices_Contains_impl_Lock_1 x0 x1 x2)]⟩
  | _, _ => none

def p_slices_Contains_impl_Lock : PF Tryz.prog := PF.ofG Tryz.prog [p_slices_Index_impl_Lock, PF.lend p_slices_Index_impl_Lock, PF.fz p_slices_Index_impl_Lock] [] hmix 87 Tryz.f87 Tryz.func87 (fun c _ => LOk.nil c) F_slices_Contains_impl_Lock (by
  intro vs es r h; unfold F_slices_Contains_impl_Lock at h; split at h
  · cases h; kernel_rfl
  · cases h)

abbrev X_impl_AreLocks_l0 := Int × Int × List (Int × Int)

def impl_AreLocks_l0_a0 (y0 : Int) (y2 : List (Int × Int)) : Int × Int :=
  Option.getD y2[Int.toNat y0]? ((0 : Int), (0 : Int))

def impl_AreLocks_l0_a1 (y0 : Int) (y2 : List (Int × Int)) : Bool :=
  !impl_isLock_0 (Prod.fst (impl_AreLocks_l0_a0 y0 y2)) (Prod.snd (impl_AreLocks_l0_a0 y0 y2))

def impl_AreLocks_l0_a2 (y0 : Int) (y2 : List (Int × Int)) : List (Int × Int) :=
  bif !impl_AreLocks_l0_a1 y0 y2 && true then List.drop (Int.toNat (0 : Int)) (List.take (Int.toNat y0) y2) else []

def impl_AreLocks_l0_0 (y0 : Int) (y1 : Int) : Bool :=
  ltI y0 y1

def impl_AreLocks_l0_1 (y0 : Int) : Bool :=
  leI (0 : Int) y0

def impl_AreLocks_l0_2 (y0 : Int) (y2 : List (Int × Int)) : Bool :=
  ltI y0 (↑(List.length y2) : Int)

def impl_AreLocks_l0_3 (y0 : Int) (y2 : List (Int × Int)) : Bool :=
  ltN (Int.toNat y0) (List.length y2)

def impl_AreLocks_l0_4 (y0 : Int) (y2 : List (Int × Int)) : Bool :=
  !(!impl_AreLocks_l0_a1 y0 y2 && true) || leI (0 : Int) (0 : Int)

def impl_AreLocks_l0_5 (y0 : Int) (y2 : List (Int × Int)) : Bool :=
  !(!impl_AreLocks_l0_a1 y0 y2 && true) || leI (0 : Int) y0

def impl_AreLocks_l0_6 (y0 : Int) (y2 : List (Int × Int)) : Bool :=
  !(!impl_AreLocks_l0_a1 y0 y2 && true) || leI y0 (↑(List.length y2) : Int)

def impl_AreLocks_l0_7 (y0 : Int) (y2 : List (Int × Int)) : Bool :=
  !(!impl_AreLocks_l0_a1 y0 y2 && true) ||
  slices_Contains_impl_Lock_1 (Prod.fst (impl_AreLocks_l0_a0 y0 y2)) (Prod.snd (impl_AreLocks_l0_a0 y0 y2)) (impl_AreLocks_l0_a2 y0 y2)

def impl_AreLocks_l0_8 (y0 : Int) (y2 : List (Int × Int)) : Bool :=
  bif impl_AreLocks_l0_a1 y0 y2 then true
  else slices_Contains_impl_Lock_0 (Prod.fst (impl_AreLocks_l0_a0 y0 y2)) (Prod.snd (impl_AreLocks_l0_a0 y0 y2)) (impl_AreLocks_l0_a2 y0 y2)

def impl_AreLocks_l0_9 (y0 : Int) : Int :=
  IntKind.wrap IntKind.i64 (y0 + (1 : Int))

def JL_impl_AreLocks_l0 : X_impl_AreLocks_l0 → List (Nat × SV)
  | (y0, y1, _) => [(7, (.one ⟨false, [(.val (.int IntKind.i64 y0))]⟩)), (6, (.one ⟨false, [(.val (.int IntKind.i64 y1))]⟩)), (5, (.one ⟨false, [(.ref 0)]⟩)), (0, (.one ⟨false, [(.ref 0)]⟩))]

def JE_impl_AreLocks_l0 : X_impl_AreLocks_l0 → List (Nat × Entry)
  | (_, _, y2) => [(0, (.row false 90 (CTy.pair (CTy.int IntKind.i64) (CTy.int IntKind.i64)) y2))]

def XL_impl_AreLocks_l0 : Nat → X_impl_AreLocks_l0 → List (Nat × SV)
  | 0, (_, _, _) => [(2, (.one ⟨false, [(.val (.bool false))]⟩))]
  | _, (_, _, _) => []

def XE_impl_AreLocks_l0 : Nat → X_impl_AreLocks_l0 → List (Nat × Entry)
  | 0, (_, _, y2) => [(0, (.row false 90 (CTy.pair (CTy.int IntKind.i64) (CTy.int IntKind.i64)) y2))]
  | _, (_, _, y2) => [(0, (.row false 90 (CTy.pair (CTy.int IntKind.i64) (CTy.int IntKind.i64)) y2))]

def lt_impl_AreLocks_l0 : X_impl_AreLocks_l0 → LT X_impl_AreLocks_l0
  | (y0, y1, y2) => .ite (impl_AreLocks_l0_0 y0 y1) (.need [(impl_AreLocks_l0_1 y0), (impl_AreLocks_l0_2 y0 y2), (impl_AreLocks_l0_3 y0 y2)] (.need [(impl_AreLocks_l0_4 y0 y2), (impl_AreLocks_l0_5 y0 y2), (impl_AreLocks_l0_6 y0 y2), (impl_AreLocks_l0_7 y0 y2)] (.ite (impl_AreLocks_l0_8 y0 y2) (.ext 0 [(0, 0)]) (.nrm ((impl_AreLocks_l0_9 y0), y1, y2) [(0, 0)])))) (.ext 1 [(0, 0)])

def rd_impl_AreLocks_l0 (s : St) : Option X_impl_AreLocks_l0 :=
  (match s.look 7 with
  | some ⟨none, (.one ⟨false, [(.val (.int IntKind.i64 y0))]⟩)⟩ =>
  (match s.look 6 with
  | some ⟨none, (.one ⟨false, [(.val (.int IntKind.i64 y1))]⟩)⟩ =>
  (match s.look 5 with
  | some ⟨none, (.one ⟨false, [(.ref 0)]⟩)⟩ =>
  (match s.look 0 with
  | some ⟨none, (.one ⟨false, [(.ref 0)]⟩)⟩ =>
  (match s.ent 0 with
  | some (.row false 90 (CTy.pair (CTy.int IntKind.i64) (CTy.int IntKind.i64)) y2) =>
  some (y0, y1, y2)
  | _ => none)
  | _ => none)
  | _ => none)
  | _ => none)
  | _ => none)

def lp_impl_AreLocks_l0 : Lp X_impl_AreLocks_l0 where
  h := ⟨[8, 9, 10, 11, 4, 3, 12, 13, 14, 15, 16, 17, 18, 19, 20, 21, 2, 22, 7], [0], [], []⟩
  JL := JL_impl_AreLocks_l0
  JE := JE_impl_AreLocks_l0
  XL := XL_impl_AreLocks_l0
  XE := XE_impl_AreLocks_l0
  q := fun j => match j with | 0 => .ret | _ => .exit 0
  tags := [0, 1]
  lt := lt_impl_AreLocks_l0
  fuel := fun (y0, y1, y2) => y0.natAbs + y1.natAbs + y2.length
  fix := fun (_, y1, y2) (y0, _, _) => (y0, y1, y2)
  σ := [(0, 0)]
  rd := rd_impl_AreLocks_l0

theorem lpok_impl_AreLocks_l0 : LoopOk Tryz.prog (fun k => Nat.blt k Tryz.f59.ntmps) lp_impl_AreLocks_l0.F (loopAt Tryz.f59 0) := by
  refine Lp.ok (tbl := [p_impl_isLock, p_slices_Contains_impl_Lock, PF.lend p_slices_Contains_impl_Lock, PF.fz p_slices_Contains_impl_Lock]) (lf := []) hmix lp_impl_AreLocks_l0 (by kernel_rfl) (LOk.nil _) (fun _ => rfl) (fun j _ => by unfold lp_impl_AreLocks_l0; match j with | 0 => rfl | _ + 1 => rfl) ?_ ?_ ?_ ?_ (fun _ => rfl) ?_
  · intro x; obtain ⟨y0, y1, y2⟩ := x; kernel_rfl
  · intro x; obtain ⟨y0, y1, y2⟩ := x; kernel_rfl
  · intro s x h
    have h : rd_impl_AreLocks_l0 s = some x := h
    unfold rd_impl_AreLocks_l0 at h
    repeat' split at h
    all_goals cases h
    exact ⟨absS_cons (by assumption) rfl (absS_cons (by assumption) rfl (absS_cons (by assumption) rfl (absS_cons (by assumption) rfl (rfl)))), absE_cons rfl (by assumption) rfl (rfl)⟩
  · intro x; obtain ⟨y0, y1, y2⟩ := x; kernel_rfl
  · intro x z; obtain ⟨y0, y1, y2⟩ := x; exact (And.intro (And.intro trivial rfl) trivial)

def impl_AreLocks_a0 (x0 : List (Int × Int)) : Int × Int × List (Int × Int) :=
  ((0 : Int), (↑(List.length x0) : Int), x0)

def impl_AreLocks_0 (x0 : List (Int × Int)) : Bool :=
  bif Nat.beq (Prod.fst (Lp.res lp_impl_AreLocks_l0 (impl_AreLocks_a0 x0))) (0 : Nat) then false else leI (↑(List.length x0) : Int) (8 : Int)

def impl_AreLocks_1 (x0 : List (Int × Int)) : Bool :=
  allT [Lp.fin lp_impl_AreLocks_l0 (impl_AreLocks_a0 x0)]

def F_impl_AreLocks : List SV → List Entry → Option Out
  | [.one ⟨false, [.ref 0]⟩], [.row false 90 (.pair (.int .i64) (.int .i64)) x0] => some ⟨(.one ⟨false, [(.val (.bool (impl_AreLocks_0 x0)))]⟩), [(.row false 90 (CTy.pair (CTy.int IntKind.i64) (CTy.int IntKind.i64)) x0)], [], [(impl_AreLocks_1 x0)]⟩
  | _, _ => none

def p_impl_AreLocks : PF Tryz.prog := PF.ofG Tryz.prog [p_impl_isLock, p_slices_Contains_impl_Lock, PF.lend p_slices_Contains_impl_Lock, PF.fz p_slices_Contains_impl_Lock] [lp_impl_AreLocks_l0.F] hmix 59 Tryz.f59 Tryz.func59 (LOk.fnT (l := [loopAt Tryz.f59 0]) (by kernel_rfl) (.cons lpok_impl_AreLocks_l0 (.nil _))) F_impl_AreLocks (by
  intro vs es r h; unfold F_impl_AreLocks at h; split at h
  · cases h; kernel_rfl
  · cases h)

abbrev X_laws_eqInt64SS_l0 := Int × List (List Int) × List (List Int)

def laws_eqInt64SS_l0_a0 (y0 : Int) (y1 : List (List Int)) : List Int :=
  Option.getD y1[Int.toNat y0]? (dflt (CTy.sl (2 : TypeId) (CTy.int IntKind.i64)))

def laws_eqInt64SS_l0_0 (y0 : Int) (y1 : List (List Int)) : Bool :=
  ltI y0 (↑(List.length y1) : Int)

def laws_eqInt64SS_l0_1 (y0 : Int) : Bool :=
  leI (0 : Int) y0

def laws_eqInt64SS_l0_2 (y0 : Int) (y1 : List (List Int)) : Bool :=
  ltN (Int.toNat y0) (List.length y1)

def laws_eqInt64SS_l0_3 (y0 : Int) (y2 : List (List Int)) : Bool :=
  ltI y0 (↑(List.length y2) : Int)

def laws_eqInt64SS_l0_4 (y0 : Int) (y2 : List (List Int)) : Bool :=
  ltN (Int.toNat y0) (List.length y2)

def laws_eqInt64SS_l0_5 (y0 : Int) (y1 : List (List Int)) : Bool :=
  leN (List.length (laws_eqInt64SS_l0_a0 y0 y1)) (9223372036854775807 : Nat)

def laws_eqInt64SS_l0_6 (y0 : Int) (y1 : List (List Int)) (y2 : List (List Int)) : Bool :=
  !eqL (laws_eqInt64SS_l0_a0 y0 y1) (Option.getD y2[Int.toNat y0]? (dflt (CTy.sl (2 : TypeId) (CTy.int IntKind.i64))))

def laws_eqInt64SS_l0_7 (y0 : Int) : Int :=
  IntKind.wrap IntKind.i64 (y0 + (1 : Int))

def JL_laws_eqInt64SS_l0 : X_laws_eqInt64SS_l0 → List (Nat × SV)
  | (y0, _, _) => [(5, (.one ⟨false, [(.val (.int IntKind.i64 y0))]⟩)), (0, (.one ⟨false, [(.ref 0)]⟩)), (1, (.one ⟨false, [(.ref 1)]⟩))]

def JE_laws_eqInt64SS_l0 : X_laws_eqInt64SS_l0 → List (Nat × Entry)
  | (_, y1, y2) => [(0, (.row false 22 (CTy.sl (2 : TypeId) (CTy.int IntKind.i64)) y1)), (1, (.row false 22 (CTy.sl (2 : TypeId) (CTy.int IntKind.i64)) y2))]

def XL_laws_eqInt64SS_l0 : Nat → X_laws_eqInt64SS_l0 → List (Nat × SV)
  | 0, (_, _, _) => [(4, (.one ⟨false, [(.val (.bool false))]⟩))]
  | _, (_, _, _) => []

def XE_laws_eqInt64SS_l0 : Nat → X_laws_eqInt64SS_l0 → List (Nat × Entry)
  | 0, (_, y1, y2) => [(0, (.row false 22 (CTy.sl (2 : TypeId) (CTy.int IntKind.i64)) y1)), (1, (.row false 22 (CTy.sl (2 : TypeId) (CTy.int IntKind.i64)) y2))]
  | _, (_, y1, y2) => [(0, (.row false 22 (CTy.sl (2 : TypeId) (CTy.int IntKind.i64)) y1)), (1, (.row false 22 (CTy.sl (2 : TypeId) (CTy.int IntKind.i64)) y2))]

def lt_laws_eqInt64SS_l0 : X_laws_eqInt64SS_l0 → LT X_laws_eqInt64SS_l0
  | (y0, y1, y2) => .ite (laws_eqInt64SS_l0_0 y0 y1) (.need [(laws_eqInt64SS_l0_1 y0), (laws_eqInt64SS_l0_0 y0 y1), (laws_eqInt64SS_l0_2 y0 y1), (laws_eqInt64SS_l0_1 y0), (laws_eqInt64SS_l0_3 y0 y2), (laws_eqInt64SS_l0_4 y0 y2), (laws_eqInt64SS_l0_5 y0 y1)] (.ite (laws_eqInt64SS_l0_6 y0 y1 y2) (.ext 0 [(0, 0), (1, 1)]) (.nrm ((laws_eqInt64SS_l0_7 y0), y1, y2) [(0, 0), (1, 1)]))) (.ext 1 [(0, 0), (1, 1)])

def rd_laws_eqInt64SS_l0 (s : St) : Option X_laws_eqInt64SS_l0 :=
  (match s.look 5 with
  | some ⟨none, (.one ⟨false, [(.val (.int IntKind.i64 y0))]⟩)⟩ =>
  (match s.look 0 with
  | some ⟨none, (.one ⟨false, [(.ref 0)]⟩)⟩ =>
  (match s.look 1 with
  | some ⟨none, (.one ⟨false, [(.ref 1)]⟩)⟩ =>
  (match s.ent 0 with
  | some (.row false 22 (CTy.sl (2 : TypeId) (CTy.int IntKind.i64)) y1) =>
  (match s.ent 1 with
  | some (.row false 22 (CTy.sl (2 : TypeId) (CTy.int IntKind.i64)) y2) =>
  some (y0, y1, y2)
  | _ => none)
  | _ => none)
  | _ => none)
  | _ => none)
  | _ => none)

def lp_laws_eqInt64SS_l0 : Lp X_laws_eqInt64SS_l0 where
  h := ⟨[11, 12, 13, 14, 17, 18, 19, 20, 21, 22, 23, 24, 25, 26, 4, 15, 16, 5], [0, 1], [], []⟩
  JL := JL_laws_eqInt64SS_l0
  JE := JE_laws_eqInt64SS_l0
  XL := XL_laws_eqInt64SS_l0
  XE := XE_laws_eqInt64SS_l0
  q := fun j => match j with | 0 => .ret | _ => .exit 0
  tags := [0, 1]
  lt := lt_laws_eqInt64SS_l0
  fuel := fun (y0, y1, y2) => y0.natAbs + y1.length + y2.length
  fix := fun (_, y1, y2) (y0, _, _) => (y0, y1, y2)
  σ := [(0, 0), (1, 1)]
  rd := rd_laws_eqInt64SS_l0

theorem lpok_laws_eqInt64SS_l0 : LoopOk Tryz.prog (fun k => Nat.blt k Tryz.f31.ntmps) lp_laws_eqInt64SS_l0.F (loopAt Tryz.f31 0) := by
  refine Lp.ok (tbl := [n_laws_eqInt64S, PF.lend n_laws_eqInt64S, PF.fz n_laws_eqInt64S]) (lf := []) hmix lp_laws_eqInt64SS_l0 (by kernel_rfl) (LOk.nil _) (fun _ => rfl) (fun j _ => by unfold lp_laws_eqInt64SS_l0; match j with | 0 => rfl | _ + 1 => rfl) ?_ ?_ ?_ ?_ (fun _ => rfl) ?_
  · intro x; obtain ⟨y0, y1, y2⟩ := x; kernel_rfl
  · intro x; obtain ⟨y0, y1, y2⟩ := x; kernel_rfl
  · intro s x h
    have h : rd_laws_eqInt64SS_l0 s = some x := h
    unfold rd_laws_eqInt64SS_l0 at h
    repeat' split at h
    all_goals cases h
    exact ⟨absS_cons (by assumption) rfl (absS_cons (by assumption) rfl (absS_cons (by assumption) rfl (rfl))), absE_cons rfl (by assumption) rfl (absE_cons rfl (by assumption) rfl (rfl))⟩
  · intro x; obtain ⟨y0, y1, y2⟩ := x; kernel_rfl
  · intro x z; obtain ⟨y0, y1, y2⟩ := x; exact (And.intro (And.intro trivial rfl) trivial)

def laws_eqInt64SS_a0 (x0 : List (List Int)) (x1 : List (List Int)) : Bool :=
  (↑(List.length x0) : Int) != (↑(List.length x1) : Int)

def laws_eqInt64SS_a1 (x0 : List (List Int)) (x1 : List (List Int)) : Int × List (List Int) × List (List Int) :=
  ((0 : Int), x0, x1)

def laws_eqInt64SS_0 (x0 : List (List Int)) (x1 : List (List Int)) : Bool :=
  bif laws_eqInt64SS_a0 x0 x1 then false
  else bif Nat.beq (Prod.fst (Lp.res lp_laws_eqInt64SS_l0 (laws_eqInt64SS_a1 x0 x1))) (0 : Nat) then false else true

def laws_eqInt64SS_1 (x0 : List (List Int)) (x1 : List (List Int)) : Bool :=
  allT [laws_eqInt64SS_a0 x0 x1 || Lp.fin lp_laws_eqInt64SS_l0 (laws_eqInt64SS_a1 x0 x1)]

def F_laws_eqInt64SS : List SV → List Entry → Option Out
  | [.one ⟨false, [.ref 0]⟩, .one ⟨false, [.ref 1]⟩], [.row false 22 (.sl 2 (.int .i64)) x0, .row false 22 (.sl 2 (.int .i64)) x1] => some ⟨(.one ⟨false, [(.val (.bool (laws_eqInt64SS_0 x0 x1)))]⟩), [(.row false 22 (CTy.sl (2 : TypeId) (CTy.int IntKind.i64)) x0), (.row false 22 (CTy.sl (2 : TypeId) (CTy.int IntKind.i64)) x1)], [], [(laws_eqInt64SS_1 x0 x1)]⟩
  | _, _ => none

def p_laws_eqInt64SS : PF Tryz.prog := PF.ofG Tryz.prog [n_laws_eqInt64S, PF.lend n_laws_eqInt64S, PF.fz n_laws_eqInt64S] [lp_laws_eqInt64SS_l0.F] hmix 31 Tryz.f31 Tryz.func31 (LOk.fnT (l := [loopAt Tryz.f31 0]) (by kernel_rfl) (.cons lpok_laws_eqInt64SS_l0 (.nil _))) F_laws_eqInt64SS (by
  intro vs es r h; unfold F_laws_eqInt64SS at h; split at h
  · cases h; kernel_rfl
  · cases h)

def laws_eqLockFault_0 (x0 : Int) (x1 : Int) (x2 : Int) (x3 : Int) (x4 : Int) (x5 : Int) : Bool :=
  bif x0 != x3 then false else bif x1 != x4 then false else bif x2 != x5 then false else true

def F_laws_eqLockFault : List SV → List Entry → Option Out
  | [.one ⟨true, [.val (.int .i64 x0), .val (.int .i64 x1), .val (.int .i64 x2)]⟩, .one ⟨true, [.val (.int .i64 x3), .val (.int .i64 x4), .val (.int .i64 x5)]⟩], [] => some ⟨(.one ⟨false, [(.val (.bool (laws_eqLockFault_0 x0 x1 x2 x3 x4 x5)))]⟩), [], [], []⟩
  | _, _ => none

def p_laws_eqLockFault : PF Tryz.prog := PF.ofG Tryz.prog [] [] hmix 67 Tryz.f67 Tryz.func67 (fun c _ => LOk.nil c) F_laws_eqLockFault (by
  intro vs es r h; unfold F_laws_eqLockFault at h; split at h
  · cases h; kernel_rfl
  · cases h)

abbrev X_laws_eqLockFaultS_l0 := Int × List (Int × (Int × Int)) × List (Int × (Int × Int))

def laws_eqLockFaultS_l0_a0 (y0 : Int) (y1 : List (Int × (Int × Int))) : Int × Int × Int :=
  Option.getD y1[Int.toNat y0]? ((0 : Int), (0 : Int), (0 : Int))

def laws_eqLockFaultS_l0_a1 (y0 : Int) (y2 : List (Int × (Int × Int))) : Int × Int × Int :=
  Option.getD y2[Int.toNat y0]? ((0 : Int), (0 : Int), (0 : Int))

def laws_eqLockFaultS_l0_0 (y0 : Int) (y1 : List (Int × (Int × Int))) : Bool :=
  ltI y0 (↑(List.length y1) : Int)

def laws_eqLockFaultS_l0_1 (y0 : Int) : Bool :=
  leI (0 : Int) y0

def laws_eqLockFaultS_l0_2 (y0 : Int) (y1 : List (Int × (Int × Int))) : Bool :=
  ltN (Int.toNat y0) (List.length y1)

def laws_eqLockFaultS_l0_3 (y0 : Int) (y2 : List (Int × (Int × Int))) : Bool :=
  ltI y0 (↑(List.length y2) : Int)

def laws_eqLockFaultS_l0_4 (y0 : Int) (y2 : List (Int × (Int × Int))) : Bool :=
  ltN (Int.toNat y0) (List.length y2)

def laws_eqLockFaultS_l0_5 (y0 : Int) (y1 : List (Int × (Int × Int))) (y2 : List (Int × (Int × Int))) : Bool :=
  !laws_eqLockFault_0 (Prod.fst (laws_eqLockFaultS_l0_a0 y0 y1)) (Prod.fst (Prod.snd (laws_eqLockFaultS_l0_a0 y0 y1)))
    (Prod.snd (Prod.snd (laws_eqLockFaultS_l0_a0 y0 y1))) (Prod.fst (laws_eqLockFaultS_l0_a1 y0 y2))
    (Prod.fst (Prod.snd (laws_eqLockFaultS_l0_a1 y0 y2))) (Prod.snd (Prod.snd (laws_eqLockFaultS_l0_a1 y0 y2)))

def laws_eqLockFaultS_l0_6 (y0 : Int) : Int :=
  IntKind.wrap IntKind.i64 (y0 + (1 : Int))

def JL_laws_eqLockFaultS_l0 : X_laws_eqLockFaultS_l0 → List (Nat × SV)
  | (y0, _, _) => [(5, (.one ⟨false, [(.val (.int IntKind.i64 y0))]⟩)), (0, (.one ⟨false, [(.ref 0)]⟩)), (1, (.one ⟨false, [(.ref 1)]⟩))]

def JE_laws_eqLockFaultS_l0 : X_laws_eqLockFaultS_l0 → List (Nat × Entry)
  | (_, y1, y2) => [(0, (.row false 82 (CTy.pair (CTy.int IntKind.i64) (CTy.pair (CTy.int IntKind.i64) (CTy.int IntKind.i64))) y1)), (1, (.row false 82 (CTy.pair (CTy.int IntKind.i64) (CTy.pair (CTy.int IntKind.i64) (CTy.int IntKind.i64))) y2))]

def XL_laws_eqLockFaultS_l0 : Nat → X_laws_eqLockFaultS_l0 → List (Nat × SV)
  | 0, (_, _, _) => [(4, (.one ⟨false, [(.val (.bool false))]⟩))]
  | _, (_, _, _) => []

def XE_laws_eqLockFaultS_l0 : Nat → X_laws_eqLockFaultS_l0 → List (Nat × Entry)
  | 0, (_, y1, y2) => [(0, (.row false 82 (CTy.pair (CTy.int IntKind.i64) (CTy.pair (CTy.int IntKind.i64) (CTy.int IntKind.i64))) y1)), (1, (.row false 82 (CTy.pair (CTy.int IntKind.i64) (CTy.pair (CTy.int IntKind.i64) (CTy.int IntKind.i64))) y2))]
  | _, (_, y1, y2) => [(0, (.row false 82 (CTy.pair (CTy.int IntKind.i64) (CTy.pair (CTy.int IntKind.i64) (CTy.int IntKind.i64))) y1)), (1, (.row false 82 (CTy.pair (CTy.int IntKind.i64) (CTy.pair (CTy.int IntKind.i64) (CTy.int IntKind.i64))) y2))]

def lt_laws_eqLockFaultS_l0 : X_laws_eqLockFaultS_l0 → LT X_laws_eqLockFaultS_l0
  | (y0, y1, y2) => .ite (laws_eqLockFaultS_l0_0 y0 y1) (.need [(laws_eqLockFaultS_l0_1 y0), (laws_eqLockFaultS_l0_0 y0 y1), (laws_eqLockFaultS_l0_2 y0 y1), (laws_eqLockFaultS_l0_1 y0), (laws_eqLockFaultS_l0_3 y0 y2), (laws_eqLockFaultS_l0_4 y0 y2)] (.ite (laws_eqLockFaultS_l0_5 y0 y1 y2) (.ext 0 [(0, 0), (1, 1)]) (.nrm ((laws_eqLockFaultS_l0_6 y0), y1, y2) [(0, 0), (1, 1)]))) (.ext 1 [(0, 0), (1, 1)])

def rd_laws_eqLockFaultS_l0 (s : St) : Option X_laws_eqLockFaultS_l0 :=
  (match s.look 5 with
  | some ⟨none, (.one ⟨false, [(.val (.int IntKind.i64 y0))]⟩)⟩ =>
  (match s.look 0 with
  | some ⟨none, (.one ⟨false, [(.ref 0)]⟩)⟩ =>
  (match s.look 1 with
  | some ⟨none, (.one ⟨false, [(.ref 1)]⟩)⟩ =>
  (match s.ent 0 with
  | some (.row false 82 (CTy.pair (CTy.int IntKind.i64) (CTy.pair (CTy.int IntKind.i64) (CTy.int IntKind.i64))) y1) =>
  (match s.ent 1 with
  | some (.row false 82 (CTy.pair (CTy.int IntKind.i64) (CTy.pair (CTy.int IntKind.i64) (CTy.int IntKind.i64))) y2) =>
  some (y0, y1, y2)
  | _ => none)
  | _ => none)
  | _ => none)
  | _ => none)
  | _ => none)

def lp_laws_eqLockFaultS_l0 : Lp X_laws_eqLockFaultS_l0 where
  h := ⟨[11, 12, 13, 14, 17, 18, 19, 20, 21, 22, 23, 24, 25, 26, 4, 15, 16, 5], [0, 1], [], []⟩
  JL := JL_laws_eqLockFaultS_l0
  JE := JE_laws_eqLockFaultS_l0
  XL := XL_laws_eqLockFaultS_l0
  XE := XE_laws_eqLockFaultS_l0
  q := fun j => match j with | 0 => .ret | _ => .exit 0
  tags := [0, 1]
  lt := lt_laws_eqLockFaultS_l0
  fuel := fun (y0, y1, y2) => y0.natAbs + y1.length + y2.length
  fix := fun (_, y1, y2) (y0, _, _) => (y0, y1, y2)
  σ := [(0, 0), (1, 1)]
  rd := rd_laws_eqLockFaultS_l0

theorem lpok_laws_eqLockFaultS_l0 : LoopOk Tryz.prog (fun k => Nat.blt k Tryz.f32.ntmps) lp_laws_eqLockFaultS_l0.F (loopAt Tryz.f32 0) := by
  refine Lp.ok (tbl := [p_laws_eqLockFault]) (lf := []) hmix lp_laws_eqLockFaultS_l0 (by kernel_rfl) (LOk.nil _) (fun _ => rfl) (fun j _ => by unfold lp_laws_eqLockFaultS_l0; match j with | 0 => rfl | _ + 1 => rfl) ?_ ?_ ?_ ?_ (fun _ => rfl) ?_
  · intro x; obtain ⟨y0, y1, y2⟩ := x; kernel_rfl
  · intro x; obtain ⟨y0, y1, y2⟩ := x; kernel_rfl
  · intro s x h
    have h : rd_laws_eqLockFaultS_l0 s = some x := h
    unfold rd_laws_eqLockFaultS_l0 at h
    repeat' split at h
    all_goals cases h
    exact ⟨absS_cons (by assumption) rfl (absS_cons (by assumption) rfl (absS_cons (by assumption) rfl (rfl))), absE_cons rfl (by assumption) rfl (absE_cons rfl (by assumption) rfl (rfl))⟩
  · intro x; obtain ⟨y0, y1, y2⟩ := x; kernel_rfl
  · intro x z; obtain ⟨y0, y1, y2⟩ := x; exact (And.intro (And.intro trivial rfl) trivial)

def laws_eqLockFaultS_a0 (x0 : List (Int × Int × Int)) (x1 : List (Int × Int × Int)) : Bool :=
  (↑(List.length x0) : Int) != (↑(List.length x1) : Int)

def laws_eqLockFaultS_a1 (x0 : List (Int × Int × Int)) (x1 : List (Int × Int × Int)) : Int × List (Int × Int × Int) × List (Int × Int × Int) :=
  ((0 : Int), x0, x1)

def laws_eqLockFaultS_0 (x0 : List (Int × Int × Int)) (x1 : List (Int × Int × Int)) : Bool :=
  bif laws_eqLockFaultS_a0 x0 x1 then false
  else bif Nat.beq (Prod.fst (Lp.res lp_laws_eqLockFaultS_l0 (laws_eqLockFaultS_a1 x0 x1))) (0 : Nat) then false else true

def laws_eqLockFaultS_1 (x0 : List (Int × Int × Int)) (x1 : List (Int × Int × Int)) : Bool :=
  allT [laws_eqLockFaultS_a0 x0 x1 || Lp.fin lp_laws_eqLockFaultS_l0 (laws_eqLockFaultS_a1 x0 x1)]

def F_laws_eqLockFaultS : List SV → List Entry → Option Out
  | [.one ⟨false, [.ref 0]⟩, .one ⟨false, [.ref 1]⟩], [.row false 82 (.pair (.int .i64) (.pair (.int .i64) (.int .i64))) x0, .row false 82 (.pair (.int .i64) (.pair (.int .i64) (.int .i64))) x1] => some ⟨(.one ⟨false, [(.val (.bool (laws_eqLockFaultS_0 x0 x1)))]⟩), [(.row false 82 (CTy.pair (CTy.int IntKind.i64) (CTy.pair (CTy.int IntKind.i64) (CTy.int IntKind.i64))) x0), (.row false 82 (CTy.pair (CTy.int IntKind.i64) (CTy.pair (CTy.int IntKind.i64) (CTy.int IntKind.i64))) x1)], [], [(laws_eqLockFaultS_1 x0 x1)]⟩
  | _, _ => none

def p_laws_eqLockFaultS : PF Tryz.prog := PF.ofG Tryz.prog [p_laws_eqLockFault] [lp_laws_eqLockFaultS_l0.F] hmix 32 Tryz.f32 Tryz.func32 (LOk.fnT (l := [loopAt Tryz.f32 0]) (by kernel_rfl) (.cons lpok_laws_eqLockFaultS_l0 (.nil _))) F_laws_eqLockFaultS (by
  intro vs es r h; unfold F_laws_eqLockFaultS at h; split at h
  · cases h; kernel_rfl
  · cases h)

def laws_eqTask_0 (x0 : Int) (x1 : Int) (x2 : Int) (x3 : Int) : Bool :=
  bif x0 != x2 then false else bif x1 != x3 then false else true

def F_laws_eqTask : List SV → List Entry → Option Out
  | [.one ⟨true, [.val (.int .i64 x0), .val (.int .i64 x1)]⟩, .one ⟨true, [.val (.int .i64 x2), .val (.int .i64 x3)]⟩], [] => some ⟨(.one ⟨false, [(.val (.bool (laws_eqTask_0 x0 x1 x2 x3)))]⟩), [], [], []⟩
  | _, _ => none

def p_laws_eqTask : PF Tryz.prog := PF.ofG Tryz.prog [] [] hmix 68 Tryz.f68 Tryz.func68 (fun c _ => LOk.nil c) F_laws_eqTask (by
  intro vs es r h; unfold F_laws_eqTask at h; split at h
  · cases h; kernel_rfl
  · cases h)

abbrev X_laws_eqTaskS_l0 := Int × List (Int × Int) × List (Int × Int)

def laws_eqTaskS_l0_a0 (y0 : Int) (y1 : List (Int × Int)) : Int × Int :=
  Option.getD y1[Int.toNat y0]? ((0 : Int), (0 : Int))

def laws_eqTaskS_l0_a1 (y0 : Int) (y2 : List (Int × Int)) : Int × Int :=
  Option.getD y2[Int.toNat y0]? ((0 : Int), (0 : Int))

def laws_eqTaskS_l0_0 (y0 : Int) (y1 : List (Int × Int)) : Bool :=
  ltI y0 (↑(List.length y1) : Int)

def laws_eqTaskS_l0_1 (y0 : Int) : Bool :=
  leI (0 : Int) y0

def laws_eqTaskS_l0_2 (y0 : Int) (y1 : List (Int × Int)) : Bool :=
  ltN (Int.toNat y0) (List.length y1)

def laws_eqTaskS_l0_3 (y0 : Int) (y2 : List (Int × Int)) : Bool :=
  ltI y0 (↑(List.length y2) : Int)

def laws_eqTaskS_l0_4 (y0 : Int) (y2 : List (Int × Int)) : Bool :=
  ltN (Int.toNat y0) (List.length y2)

def laws_eqTaskS_l0_5 (y0 : Int) (y1 : List (Int × Int)) (y2 : List (Int × Int)) : Bool :=
  !laws_eqTask_0 (Prod.fst (laws_eqTaskS_l0_a0 y0 y1)) (Prod.snd (laws_eqTaskS_l0_a0 y0 y1)) (Prod.fst (laws_eqTaskS_l0_a1 y0 y2))
    (Prod.snd (laws_eqTaskS_l0_a1 y0 y2))

def laws_eqTaskS_l0_6 (y0 : Int) : Int :=
  IntKind.wrap IntKind.i64 (y0 + (1 : Int))

def JL_laws_eqTaskS_l0 : X_laws_eqTaskS_l0 → List (Nat × SV)
  | (y0, _, _) => [(5, (.one ⟨false, [(.val (.int IntKind.i64 y0))]⟩)), (0, (.one ⟨false, [(.ref 0)]⟩)), (1, (.one ⟨false, [(.ref 1)]⟩))]

def JE_laws_eqTaskS_l0 : X_laws_eqTaskS_l0 → List (Nat × Entry)
  | (_, y1, y2) => [(0, (.row false 86 (CTy.pair (CTy.int IntKind.i64) (CTy.int IntKind.i64)) y1)), (1, (.row false 86 (CTy.pair (CTy.int IntKind.i64) (CTy.int IntKind.i64)) y2))]

def XL_laws_eqTaskS_l0 : Nat → X_laws_eqTaskS_l0 → List (Nat × SV)
  | 0, (_, _, _) => [(4, (.one ⟨false, [(.val (.bool false))]⟩))]
  | _, (_, _, _) => []

def XE_laws_eqTaskS_l0 : Nat → X_laws_eqTaskS_l0 → List (Nat × Entry)
  | 0, (_, y1, y2) => [(0, (.row false 86 (CTy.pair (CTy.int IntKind.i64) (CTy.int IntKind.i64)) y1)), (1, (.row false 86 (CTy.pair (CTy.int IntKind.i64) (CTy.int IntKind.i64)) y2))]
  | _, (_, y1, y2) => [(0, (.row false 86 (CTy.pair (CTy.int IntKind.i64) (CTy.int IntKind.i64)) y1)), (1, (.row false 86 (CTy.pair (CTy.int IntKind.i64) (CTy.int IntKind.i64)) y2))]

def lt_laws_eqTaskS_l0 : X_laws_eqTaskS_l0 → LT X_laws_eqTaskS_l0
  | (y0, y1, y2) => .ite (laws_eqTaskS_l0_0 y0 y1) (.need [(laws_eqTaskS_l0_1 y0), (laws_eqTaskS_l0_0 y0 y1), (laws_eqTaskS_l0_2 y0 y1), (laws_eqTaskS_l0_1 y0), (laws_eqTaskS_l0_3 y0 y2), (laws_eqTaskS_l0_4 y0 y2)] (.ite (laws_eqTaskS_l0_5 y0 y1 y2) (.ext 0 [(0, 0), (1, 1)]) (.nrm ((laws_eqTaskS_l0_6 y0), y1, y2) [(0, 0), (1, 1)]))) (.ext 1 [(0, 0), (1, 1)])

def rd_laws_eqTaskS_l0 (s : St) : Option X_laws_eqTaskS_l0 :=
  (match s.look 5 with
  | some ⟨none, (.one ⟨false, [(.val (.int IntKind.i64 y0))]⟩)⟩ =>
  (match s.look 0 with
  | some ⟨none, (.one ⟨false, [(.ref 0)]⟩)⟩ =>
  (match s.look 1 with
  | some ⟨none, (.one ⟨false, [(.ref 1)]⟩)⟩ =>
  (match s.ent 0 with
  | some (.row false 86 (CTy.pair (CTy.int IntKind.i64) (CTy.int IntKind.i64)) y1) =>
  (match s.ent 1 with
  | some (.row false 86 (CTy.pair (CTy.int IntKind.i64) (CTy.int IntKind.i64)) y2) =>
  some (y0, y1, y2)
  | _ => none)
  | _ => none)
  | _ => none)
  | _ => none)
  | _ => none)

def lp_laws_eqTaskS_l0 : Lp X_laws_eqTaskS_l0 where
  h := ⟨[11, 12, 13, 14, 17, 18, 19, 20, 21, 22, 23, 24, 25, 26, 4, 15, 16, 5], [0, 1], [], []⟩
  JL := JL_laws_eqTaskS_l0
  JE := JE_laws_eqTaskS_l0
  XL := XL_laws_eqTaskS_l0
  XE := XE_laws_eqTaskS_l0
  q := fun j => match j with | 0 => .ret | _ => .exit 0
  tags := [0, 1]
  lt := lt_laws_eqTaskS_l0
  fuel := fun (y0, y1, y2) => y0.natAbs + y1.length + y2.length
  fix := fun (_, y1, y2) (y0, _, _) => (y0, y1, y2)
  σ := [(0, 0), (1, 1)]
  rd := rd_laws_eqTaskS_l0

theorem lpok_laws_eqTaskS_l0 : LoopOk Tryz.prog (fun k => Nat.blt k Tryz.f33.ntmps) lp_laws_eqTaskS_l0.F (loopAt Tryz.f33 0) := by
  refine Lp.ok (tbl := [p_laws_eqTask]) (lf := []) hmix lp_laws_eqTaskS_l0 (by kernel_rfl) (LOk.nil _) (fun _ => rfl) (fun j _ => by unfold lp_laws_eqTaskS_l0; match j with | 0 => rfl | _ + 1 => rfl) ?_ ?_ ?_ ?_ (fun _ => rfl) ?_
  · intro x; obtain ⟨y0, y1, y2⟩ := x; kernel_rfl
  · intro x; obtain ⟨y0, y1, y2⟩ := x; kernel_rfl
  · intro s x h
    have h : rd_laws_eqTaskS_l0 s = some x := h
    unfold rd_laws_eqTaskS_l0 at h
    repeat' split at h
    all_goals cases h
    exact ⟨absS_cons (by assumption) rfl (absS_cons (by assumption) rfl (absS_cons (by assumption) rfl (rfl))), absE_cons rfl (by assumption) rfl (absE_cons rfl (by assumption) rfl (rfl))⟩
  · intro x; obtain ⟨y0, y1, y2⟩ := x; kernel_rfl
  · intro x z; obtain ⟨y0, y1, y2⟩ := x; exact (And.intro (And.intro trivial rfl) trivial)

def laws_eqTaskS_a0 (x0 : List (Int × Int)) (x1 : List (Int × Int)) : Bool :=
  (↑(List.length x0) : Int) != (↑(List.length x1) : Int)

def laws_eqTaskS_a1 (x0 : List (Int × Int)) (x1 : List (Int × Int)) : Int × List (Int × Int) × List (Int × Int) :=
  ((0 : Int), x0, x1)

def laws_eqTaskS_0 (x0 : List (Int × Int)) (x1 : List (Int × Int)) : Bool :=
  bif laws_eqTaskS_a0 x0 x1 then false else bif Nat.beq (Prod.fst (Lp.res lp_laws_eqTaskS_l0 (laws_eqTaskS_a1 x0 x1))) (0 : Nat) then false else true

def laws_eqTaskS_1 (x0 : List (Int × Int)) (x1 : List (Int × Int)) : Bool :=
  allT [laws_eqTaskS_a0 x0 x1 || Lp.fin lp_laws_eqTaskS_l0 (laws_eqTaskS_a1 x0 x1)]

def F_laws_eqTaskS : List SV → List Entry → Option Out
  | [.one ⟨false, [.ref 0]⟩, .one ⟨false, [.ref 1]⟩], [.row false 86 (.pair (.int .i64) (.int .i64)) x0, .row false 86 (.pair (.int .i64) (.int .i64)) x1] => some ⟨(.one ⟨false, [(.val (.bool (laws_eqTaskS_0 x0 x1)))]⟩), [(.row false 86 (CTy.pair (CTy.int IntKind.i64) (CTy.int IntKind.i64)) x0), (.row false 86 (CTy.pair (CTy.int IntKind.i64) (CTy.int IntKind.i64)) x1)], [], [(laws_eqTaskS_1 x0 x1)]⟩
  | _, _ => none

def p_laws_eqTaskS : PF Tryz.prog := PF.ofG Tryz.prog [p_laws_eqTask] [lp_laws_eqTaskS_l0.F] hmix 33 Tryz.f33 Tryz.func33 (LOk.fnT (l := [loopAt Tryz.f33 0]) (by kernel_rfl) (.cons lpok_laws_eqTaskS_l0 (.nil _))) F_laws_eqTaskS (by
  intro vs es r h; unfold F_laws_eqTaskS at h; split at h
  · cases h; kernel_rfl
  · cases h)

def laws_eqLock_0 (x0 : Int) (x1 : Int) (x2 : Int) (x3 : Int) : Bool :=
  bif x0 != x2 then false else bif x1 != x3 then false else true

def F_laws_eqLock : List SV → List Entry → Option Out
  | [.one ⟨true, [.val (.int .i64 x0), .val (.int .i64 x1)]⟩, .one ⟨true, [.val (.int .i64 x2), .val (.int .i64 x3)]⟩], [] => some ⟨(.one ⟨false, [(.val (.bool (laws_eqLock_0 x0 x1 x2 x3)))]⟩), [], [], []⟩
  | _, _ => none

def p_laws_eqLock : PF Tryz.prog := PF.ofG Tryz.prog [] [] hmix 69 Tryz.f69 Tryz.func69 (fun c _ => LOk.nil c) F_laws_eqLock (by
  intro vs es r h; unfold F_laws_eqLock at h; split at h
  · cases h; kernel_rfl
  · cases h)

abbrev X_laws_eqLockS_l0 := Int × List (Int × Int) × List (Int × Int)

def laws_eqLockS_l0_a0 (y0 : Int) (y1 : List (Int × Int)) : Int × Int :=
  Option.getD y1[Int.toNat y0]? ((0 : Int), (0 : Int))

def laws_eqLockS_l0_a1 (y0 : Int) (y2 : List (Int × Int)) : Int × Int :=
  Option.getD y2[Int.toNat y0]? ((0 : Int), (0 : Int))

def laws_eqLockS_l0_0 (y0 : Int) (y1 : List (Int × Int)) : Bool :=
  ltI y0 (↑(List.length y1) : Int)

def laws_eqLockS_l0_1 (y0 : Int) : Bool :=
  leI (0 : Int) y0

def laws_eqLockS_l0_2 (y0 : Int) (y1 : List (Int × Int)) : Bool :=
  ltN (Int.toNat y0) (List.length y1)

def laws_eqLockS_l0_3 (y0 : Int) (y2 : List (Int × Int)) : Bool :=
  ltI y0 (↑(List.length y2) : Int)

def laws_eqLockS_l0_4 (y0 : Int) (y2 : List (Int × Int)) : Bool :=
  ltN (Int.toNat y0) (List.length y2)

def laws_eqLockS_l0_5 (y0 : Int) (y1 : List (Int × Int)) (y2 : List (Int × Int)) : Bool :=
  !laws_eqLock_0 (Prod.fst (laws_eqLockS_l0_a0 y0 y1)) (Prod.snd (laws_eqLockS_l0_a0 y0 y1)) (Prod.fst (laws_eqLockS_l0_a1 y0 y2))
    (Prod.snd (laws_eqLockS_l0_a1 y0 y2))

def laws_eqLockS_l0_6 (y0 : Int) : Int :=
  IntKind.wrap IntKind.i64 (y0 + (1 : Int))

def JL_laws_eqLockS_l0 : X_laws_eqLockS_l0 → List (Nat × SV)
  | (y0, _, _) => [(5, (.one ⟨false, [(.val (.int IntKind.i64 y0))]⟩)), (0, (.one ⟨false, [(.ref 0)]⟩)), (1, (.one ⟨false, [(.ref 1)]⟩))]

def JE_laws_eqLockS_l0 : X_laws_eqLockS_l0 → List (Nat × Entry)
  | (_, y1, y2) => [(0, (.row false 90 (CTy.pair (CTy.int IntKind.i64) (CTy.int IntKind.i64)) y1)), (1, (.row false 90 (CTy.pair (CTy.int IntKind.i64) (CTy.int IntKind.i64)) y2))]

def XL_laws_eqLockS_l0 : Nat → X_laws_eqLockS_l0 → List (Nat × SV)
  | 0, (_, _, _) => [(4, (.one ⟨false, [(.val (.bool false))]⟩))]
  | _, (_, _, _) => []

def XE_laws_eqLockS_l0 : Nat → X_laws_eqLockS_l0 → List (Nat × Entry)
  | 0, (_, y1, y2) => [(0, (.row false 90 (CTy.pair (CTy.int IntKind.i64) (CTy.int IntKind.i64)) y1)), (1, (.row false 90 (CTy.pair (CTy.int IntKind.i64) (CTy.int IntKind.i64)) y2))]
  | _, (_, y1, y2) => [(0, (.row false 90 (CTy.pair (CTy.int IntKind.i64) (CTy.int IntKind.i64)) y1)), (1, (.row false 90 (CTy.pair (CTy.int IntKind.i64) (CTy.int IntKind.i64)) y2))]

def lt_laws_eqLockS_l0 : X_laws_eqLockS_l0 → LT X_laws_eqLockS_l0
  | (y0, y1, y2) => .ite (laws_eqLockS_l0_0 y0 y1) (.need [(laws_eqLockS_l0_1 y0), (laws_eqLockS_l0_0 y0 y1), (laws_eqLockS_l0_2 y0 y1), (laws_eqLockS_l0_1 y0), (laws_eqLockS_l0_3 y0 y2), (laws_eqLockS_l0_4 y0 y2)] (.ite (laws_eqLockS_l0_5 y0 y1 y2) (.ext 0 [(0, 0), (1, 1)]) (.nrm ((laws_eqLockS_l0_6 y0), y1, y2) [(0, 0), (1, 1)]))) (.ext 1 [(0, 0), (1, 1)])

def rd_laws_eqLockS_l0 (s : St) : Option X_laws_eqLockS_l0 :=
  (match s.look 5 with
  | some ⟨none, (.one ⟨false, [(.val (.int IntKind.i64 y0))]⟩)⟩ =>
  (match s.look 0 with
  | some ⟨none, (.one ⟨false, [(.ref 0)]⟩)⟩ =>
  (match s.look 1 with
  | some ⟨none, (.one ⟨false, [(.ref 1)]⟩)⟩ =>
  (match s.ent 0 with
  | some (.row false 90 (CTy.pair (CTy.int IntKind.i64) (CTy.int IntKind.i64)) y1) =>
  (match s.ent 1 with
  | some (.row false 90 (CTy.pair (CTy.int IntKind.i64) (CTy.int IntKind.i64)) y2) =>
  some (y0, y1, y2)
  | _ => none)
  | _ => none)
  | _ => none)
  | _ => none)
  | _ => none)

def lp_laws_eqLockS_l0 : Lp X_laws_eqLockS_l0 where
  h := ⟨[11, 12, 13, 14, 17, 18, 19, 20, 21, 22, 23, 24, 25, 26, 4, 15, 16, 5], [0, 1], [], []⟩
  JL := JL_laws_eqLockS_l0
  JE := JE_laws_eqLockS_l0
  XL := XL_laws_eqLockS_l0
  XE := XE_laws_eqLockS_l0
  q := fun j => match j with | 0 => .ret | _ => .exit 0
  tags := [0, 1]
  lt := lt_laws_eqLockS_l0
  fuel := fun (y0, y1, y2) => y0.natAbs + y1.length + y2.length
  fix := fun (_, y1, y2) (y0, _, _) => (y0, y1, y2)
  σ := [(0, 0), (1, 1)]
  rd := rd_laws_eqLockS_l0

theorem lpok_laws_eqLockS_l0 : LoopOk Tryz.prog (fun k => Nat.blt k Tryz.f34.ntmps) lp_laws_eqLockS_l0.F (loopAt Tryz.f34 0) := by
  refine Lp.ok (tbl := [p_laws_eqLock]) (lf := []) hmix lp_laws_eqLockS_l0 (by kernel_rfl) (LOk.nil _) (fun _ => rfl) (fun j _ => by unfold lp_laws_eqLockS_l0; match j with | 0 => rfl | _ + 1 => rfl) ?_ ?_ ?_ ?_ (fun _ => rfl) ?_
  · intro x; obtain ⟨y0, y1, y2⟩ := x; kernel_rfl
  · intro x; obtain ⟨y0, y1, y2⟩ := x; kernel_rfl
  · intro s x h
    have h : rd_laws_eqLockS_l0 s = some x := h
    unfold rd_laws_eqLockS_l0 at h
    repeat' split at h
    all_goals cases h
    exact ⟨absS_cons (by assumption) rfl (absS_cons (by assumption) rfl (absS_cons (by assumption) rfl (rfl))), absE_cons rfl (by assumption) rfl (absE_cons rfl (by assumption) rfl (rfl))⟩
  · intro x; obtain ⟨y0, y1, y2⟩ := x; kernel_rfl
  · intro x z; obtain ⟨y0, y1, y2⟩ := x; exact (And.intro (And.intro trivial rfl) trivial)

def laws_eqLockS_a0 (x0 : List (Int × Int)) (x1 : List (Int × Int)) : Bool :=
  (↑(List.length x0) : Int) != (↑(List.length x1) : Int)

def laws_eqLockS_a1 (x0 : List (Int × Int)) (x1 : List (Int × Int)) : Int × List (Int × Int) × List (Int × Int) :=
  ((0 : Int), x0, x1)

def laws_eqLockS_0 (x0 : List (Int × Int)) (x1 : List (Int × Int)) : Bool :=
  bif laws_eqLockS_a0 x0 x1 then false else bif Nat.beq (Prod.fst (Lp.res lp_laws_eqLockS_l0 (laws_eqLockS_a1 x0 x1))) (0 : Nat) then false else true

def laws_eqLockS_1 (x0 : List (Int × Int)) (x1 : List (Int × Int)) : Bool :=
  allT [laws_eqLockS_a0 x0 x1 || Lp.fin lp_laws_eqLockS_l0 (laws_eqLockS_a1 x0 x1)]

def F_laws_eqLockS : List SV → List Entry → Option Out
  | [.one ⟨false, [.ref 0]⟩, .one ⟨false, [.ref 1]⟩], [.row false 90 (.pair (.int .i64) (.int .i64)) x0, .row false 90 (.pair (.int .i64) (.int .i64)) x1] => some ⟨(.one ⟨false, [(.val (.bool (laws_eqLockS_0 x0 x1)))]⟩), [(.row false 90 (CTy.pair (CTy.int IntKind.i64) (CTy.int IntKind.i64)) x0), (.row false 90 (CTy.pair (CTy.int IntKind.i64) (CTy.int IntKind.i64)) x1)], [], [(laws_eqLockS_1 x0 x1)]⟩
  | _, _ => none

def p_laws_eqLockS : PF Tryz.prog := PF.ofG Tryz.prog [p_laws_eqLock] [lp_laws_eqLockS_l0.F] hmix 34 Tryz.f34 Tryz.func34 (LOk.fnT (l := [loopAt Tryz.f34 0]) (by kernel_rfl) (.cons lpok_laws_eqLockS_l0 (.nil _))) F_laws_eqLockS (by
  intro vs es r h; unfold F_laws_eqLockS at h; split at h
  · cases h; kernel_rfl
  · cases h)

end Go.SX

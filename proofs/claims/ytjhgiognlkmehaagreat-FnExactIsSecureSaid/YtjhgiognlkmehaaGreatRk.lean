/- What functions of the program come to, row by row (made by a program of the workplace). -/
import Derived.Test.YtjhgiognlkmehaaGreatTXh
import Derived.Test.YtjhgiognlkmehaaGreatProg
import Derived.Test.YtjhgiognlkmehaaGreatNb
import Derived.Test.YtjhgiognlkmehaaGreatNh
namespace Go.SX
open Go.Proofs
set_option maxRecDepth 100000

def laws_szSensorFaultS_a0 (x0 : Int) (x1 : List (Int × Int × Int)) : Int :=
  IntKind.wrap IntKind.i64 (x0 - (↑(List.length x1) : Int))

def laws_szSensorFaultS_0 (x0 : Int) (x1 : List (Int × Int × Int)) : Int :=
  bif ltI (laws_szSensorFaultS_a0 x0 x1) (0 : Int) then (-1 : Int) else laws_szSensorFaultS_a0 x0 x1

def F_laws_szSensorFaultS : List SV → List Entry → Option Out
  | [.one ⟨false, [.ref 0]⟩, .one ⟨false, [.val (.int .i64 x0)]⟩], [.row false 80 (.pair (.int .i64) (.pair (.int .i64) (.int .i64))) x1] => some ⟨(.one ⟨false, [(.val (.int IntKind.i64 (laws_szSensorFaultS_0 x0 x1)))]⟩), [(.row false 80 (CTy.pair (CTy.int IntKind.i64) (CTy.pair (CTy.int IntKind.i64) (CTy.int IntKind.i64))) x1)], [], []⟩
  | _, _ => none

def p_laws_szSensorFaultS : PF Tryz.prog := PF.ofG Tryz.prog [] [] hmix 10 Tryz.f10 Tryz.func10 (fun c _ => LOk.nil c) F_laws_szSensorFaultS (by
  intro vs es r h; unfold F_laws_szSensorFaultS at h; split at h
  · cases h; kernel_rfl
  · cases h)

def spec_l11Number_0 (x0 : Int) : Bool :=
  spec_l01In_0 x0 (2 : Int) (8 : Int)

def F_spec_l11Number : List SV → List Entry → Option Out
  | [.one ⟨false, [.val (.int .i64 x0)]⟩], [] => some ⟨(.one ⟨false, [(.val (.bool (spec_l11Number_0 x0)))]⟩), [], [], []⟩
  | _, _ => none

def p_spec_l11Number : PF Tryz.prog := PF.ofG Tryz.prog [p_spec_l01In] [] hmix 70 Tryz.f70 Tryz.func70 (fun c _ => LOk.nil c) F_spec_l11Number (by
  intro vs es r h; unfold F_spec_l11Number at h; split at h
  · cases h; kernel_rfl
  · cases h)

abbrev X_spec_AreFaults_l0_l0 := Int × Int × List (Int × (Int × Int)) × Int × Int × Int

def spec_AreFaults_l0_l0_a0 (y0 : Int) (y2 : List (Int × (Int × Int))) : Int × Int × Int :=
  Option.getD y2[Int.toNat y0]? ((0 : Int), (0 : Int), (0 : Int))

def spec_AreFaults_l0_l0_a1 (y0 : Int) (y2 : List (Int × (Int × Int))) (y3 : Int) : Bool :=
  Prod.fst (spec_AreFaults_l0_l0_a0 y0 y2) == y3

def spec_AreFaults_l0_l0_0 (y0 : Int) (y1 : Int) : Bool :=
  ltI y0 y1

def spec_AreFaults_l0_l0_1 (y0 : Int) : Bool :=
  leI (0 : Int) y0

def spec_AreFaults_l0_l0_2 (y0 : Int) (y2 : List (Int × (Int × Int))) : Bool :=
  ltI y0 (↑(List.length y2) : Int)

def spec_AreFaults_l0_l0_3 (y0 : Int) (y2 : List (Int × (Int × Int))) : Bool :=
  ltN (Int.toNat y0) (List.length y2)

def spec_AreFaults_l0_l0_4 (y0 : Int) (y2 : List (Int × (Int × Int))) (y3 : Int) : Bool :=
  !(spec_AreFaults_l0_l0_a1 y0 y2 y3 && true) || leI (0 : Int) y0

def spec_AreFaults_l0_l0_5 (y0 : Int) (y2 : List (Int × (Int × Int))) (y3 : Int) : Bool :=
  !(spec_AreFaults_l0_l0_a1 y0 y2 y3 && true) || ltI y0 (↑(List.length y2) : Int)

def spec_AreFaults_l0_l0_6 (y0 : Int) (y2 : List (Int × (Int × Int))) (y3 : Int) : Bool :=
  !(spec_AreFaults_l0_l0_a1 y0 y2 y3 && true) || ltN (Int.toNat y0) (List.length y2)

def spec_AreFaults_l0_l0_7 (y0 : Int) (y2 : List (Int × (Int × Int))) (y3 : Int) (y4 : Int) : Bool :=
  bif spec_AreFaults_l0_l0_a1 y0 y2 y3 then Prod.fst (Prod.snd (spec_AreFaults_l0_l0_a0 y0 y2)) == y4 else false

def spec_AreFaults_l0_l0_8 (y0 : Int) : Int :=
  IntKind.wrap IntKind.i64 (y0 + (1 : Int))

def JL_spec_AreFaults_l0_l0 : X_spec_AreFaults_l0_l0 → List (Nat × SV)
  | (y0, y1, _, _, _, _) => [(7, (.one ⟨false, [(.val (.int IntKind.i64 y0))]⟩)), (5, (.one ⟨false, [(.val (.int IntKind.i64 y1))]⟩)), (1, (.one ⟨false, [(.ref 0)]⟩)), (6, (.one ⟨false, [(.ptr 1 0)]⟩))]

def JE_spec_AreFaults_l0_l0 : X_spec_AreFaults_l0_l0 → List (Nat × Entry)
  | (_, _, y2, y3, y4, y5) => [(0, (.row false 78 (CTy.pair (CTy.int IntKind.i64) (CTy.pair (CTy.int IntKind.i64) (CTy.int IntKind.i64))) y2)), (1, (.box 78 [(.val (.int IntKind.i64 y3)), (.val (.int IntKind.i64 y4)), (.val (.int IntKind.i64 y5))]))]

def XL_spec_AreFaults_l0_l0 : Nat → X_spec_AreFaults_l0_l0 → List (Nat × SV)
  | 0, (_, _, _, _, _, _) => [(4, (.one ⟨false, [(.val (.bool false))]⟩))]
  | _, (_, _, _, _, _, _) => []

def XE_spec_AreFaults_l0_l0 : Nat → X_spec_AreFaults_l0_l0 → List (Nat × Entry)
  | 0, (_, _, y2, y3, y4, y5) => [(0, (.row false 78 (CTy.pair (CTy.int IntKind.i64) (CTy.pair (CTy.int IntKind.i64) (CTy.int IntKind.i64))) y2)), (1, (.box 78 [(.val (.int IntKind.i64 y3)), (.val (.int IntKind.i64 y4)), (.val (.int IntKind.i64 y5))]))]
  | _, (_, _, y2, y3, y4, y5) => [(0, (.row false 78 (CTy.pair (CTy.int IntKind.i64) (CTy.pair (CTy.int IntKind.i64) (CTy.int IntKind.i64))) y2)), (1, (.box 78 [(.val (.int IntKind.i64 y3)), (.val (.int IntKind.i64 y4)), (.val (.int IntKind.i64 y5))]))]

def lt_spec_AreFaults_l0_l0 : X_spec_AreFaults_l0_l0 → LT X_spec_AreFaults_l0_l0
  | (y0, y1, y2, y3, y4, y5) => .ite (spec_AreFaults_l0_l0_0 y0 y1) (.need [(spec_AreFaults_l0_l0_1 y0), (spec_AreFaults_l0_l0_2 y0 y2), (spec_AreFaults_l0_l0_3 y0 y2), (spec_AreFaults_l0_l0_4 y0 y2 y3), (spec_AreFaults_l0_l0_5 y0 y2 y3), (spec_AreFaults_l0_l0_6 y0 y2 y3)] (.ite (spec_AreFaults_l0_l0_7 y0 y2 y3 y4) (.ext 0 [(0, 0), (1, 1)]) (.nrm ((spec_AreFaults_l0_l0_8 y0), y1, y2, y3, y4, y5) [(0, 0), (1, 1)]))) (.ext 1 [(0, 0), (1, 1)])

def rd_spec_AreFaults_l0_l0 (s : St) : Option X_spec_AreFaults_l0_l0 :=
  (match s.look 7 with
  | some ⟨none, (.one ⟨false, [(.val (.int IntKind.i64 y0))]⟩)⟩ =>
  (match s.look 5 with
  | some ⟨none, (.one ⟨false, [(.val (.int IntKind.i64 y1))]⟩)⟩ =>
  (match s.look 1 with
  | some ⟨none, (.one ⟨false, [(.ref 0)]⟩)⟩ =>
  (match s.look 6 with
  | some ⟨none, (.one ⟨false, [(.ptr 576 0)]⟩)⟩ =>
  (match s.ent 0 with
  | some (.row false 78 (CTy.pair (CTy.int IntKind.i64) (CTy.pair (CTy.int IntKind.i64) (CTy.int IntKind.i64))) y2) =>
  (match s.ent 576 with
  | some (.box 78 [(.val (.int IntKind.i64 y3)), (.val (.int IntKind.i64 y4)), (.val (.int IntKind.i64 y5))]) =>
  some (y0, y1, y2, y3, y4, y5)
  | _ => none)
  | _ => none)
  | _ => none)
  | _ => none)
  | _ => none)
  | _ => none)

def lp_spec_AreFaults_l0_l0 : Lp X_spec_AreFaults_l0_l0 where
  h := ⟨[36, 37, 38, 41, 42, 43, 44, 45, 46, 47, 48, 49, 50, 51, 52, 53, 54, 55, 56, 57, 58, 4, 39, 40, 7], [0, 1], [], []⟩
  JL := JL_spec_AreFaults_l0_l0
  JE := JE_spec_AreFaults_l0_l0
  XL := XL_spec_AreFaults_l0_l0
  XE := XE_spec_AreFaults_l0_l0
  q := fun j => match j with | 0 => .ret | _ => .exit 2
  tags := [0, 1]
  lt := lt_spec_AreFaults_l0_l0
  fuel := fun (y0, y1, y2, y3, y4, y5) => y0.natAbs + y1.natAbs + y2.length + y3.natAbs + y4.natAbs + y5.natAbs
  fix := fun (_, y1, y2, y3, y4, y5) (y0, _, _, _, _, _) => (y0, y1, y2, y3, y4, y5)
  σ := [(0, 0), (1, 576)]
  rd := rd_spec_AreFaults_l0_l0

theorem lpok_spec_AreFaults_l0_l0 : LoopOk Tryz.prog (memN [8, 9, 10, 11, 14, 15, 16, 17, 6, 18, 19, 20, 21, 22, 23, 24, 25, 26, 27, 28, 29, 30, 31, 32, 33, 34, 35, 4, 7, 36, 37, 38, 41, 42, 43, 44, 45, 46, 47, 48, 49, 50, 51, 52, 53, 54, 55, 56, 57, 58, 39, 40, 12, 13, 5]) lp_spec_AreFaults_l0_l0.F (loopIn (loopAt Tryz.f37 0) 0) := by
  refine Lp.ok (tbl := [p_spec_l01In, p_spec_l11Number]) (lf := []) hmix lp_spec_AreFaults_l0_l0 (by kernel_rfl) (LOk.nil _) (fun _ => rfl) (fun j _ => by unfold lp_spec_AreFaults_l0_l0; match j with | 0 => rfl | _ + 1 => rfl) ?_ ?_ ?_ ?_ (fun _ => rfl) ?_
  · intro x; obtain ⟨y0, y1, y2, y3, y4, y5⟩ := x; kernel_rfl
  · intro x; obtain ⟨y0, y1, y2, y3, y4, y5⟩ := x; kernel_rfl
  · intro s x h
    have h : rd_spec_AreFaults_l0_l0 s = some x := h
    unfold rd_spec_AreFaults_l0_l0 at h
    repeat' split at h
    all_goals cases h
    exact ⟨absS_cons (by assumption) rfl (absS_cons (by assumption) rfl (absS_cons (by assumption) rfl (absS_cons (by assumption) rfl (rfl)))), absE_cons rfl (by assumption) rfl (absE_cons rfl (by assumption) rfl (rfl))⟩
  · intro x; obtain ⟨y0, y1, y2, y3, y4, y5⟩ := x; kernel_rfl
  · intro x z; obtain ⟨y0, y1, y2, y3, y4, y5⟩ := x; exact (And.intro (And.intro trivial rfl) trivial)

abbrev X_spec_AreFaults_l0 := Int × Int × List (Int × (Int × Int))

def spec_AreFaults_l0_a0 (y0 : Int) (y2 : List (Int × (Int × Int))) : Int × Int × Int :=
  Option.getD y2[Int.toNat y0]? ((0 : Int), (0 : Int), (0 : Int))

def spec_AreFaults_l0_a1 (y0 : Int) (y2 : List (Int × (Int × Int))) : Int × Int × List (Int × Int × Int) × Int × Int × Int :=
  ((0 : Int), y0, y2, Prod.fst (spec_AreFaults_l0_a0 y0 y2), Prod.fst (Prod.snd (spec_AreFaults_l0_a0 y0 y2)),
  Prod.snd (Prod.snd (spec_AreFaults_l0_a0 y0 y2)))

def spec_AreFaults_l0_0 (y0 : Int) (y2 : List (Int × (Int × Int))) : Bool :=
  ltI y0 (↑(List.length y2) : Int)

def spec_AreFaults_l0_1 (y0 : Int) : Bool :=
  leI (0 : Int) y0

def spec_AreFaults_l0_2 (y0 : Int) (y2 : List (Int × (Int × Int))) : Bool :=
  ltN (Int.toNat y0) (List.length y2)

def spec_AreFaults_l0_3 (y0 : Int) (y1 : Int) (y2 : List (Int × (Int × Int))) : Bool :=
  bif
    bif !spec_l01In_0 (Prod.fst (spec_AreFaults_l0_a0 y0 y2)) (0 : Int) (IntKind.wrap IntKind.i64 (y1 - (1 : Int))) then true
    else !spec_l01In_0 (Prod.fst (Prod.snd (spec_AreFaults_l0_a0 y0 y2))) (0 : Int) (1 : Int) then
  true
  else !spec_l01In_0 (Prod.snd (Prod.snd (spec_AreFaults_l0_a0 y0 y2))) (0 : Int) (1 : Int)

def spec_AreFaults_l0_4 (y0 : Int) (y2 : List (Int × (Int × Int))) : Bool :=
  Lp.fin lp_spec_AreFaults_l0_l0 (spec_AreFaults_l0_a1 y0 y2)

def spec_AreFaults_l0_5 (y0 : Int) (y2 : List (Int × (Int × Int))) : Bool :=
  Nat.beq (Prod.fst (Lp.res lp_spec_AreFaults_l0_l0 (spec_AreFaults_l0_a1 y0 y2))) (0 : Nat)

def spec_AreFaults_l0_6 (y0 : Int) : Int :=
  IntKind.wrap IntKind.i64 (y0 + (1 : Int))

def JL_spec_AreFaults_l0 : X_spec_AreFaults_l0 → List (Nat × SV)
  | (y0, y1, _) => [(5, (.one ⟨false, [(.val (.int IntKind.i64 y0))]⟩)), (1, (.one ⟨false, [(.ref 0)]⟩)), (0, (.one ⟨false, [(.val (.int IntKind.i64 y1))]⟩))]

def JE_spec_AreFaults_l0 : X_spec_AreFaults_l0 → List (Nat × Entry)
  | (_, _, y2) => [(0, (.row false 78 (CTy.pair (CTy.int IntKind.i64) (CTy.pair (CTy.int IntKind.i64) (CTy.int IntKind.i64))) y2))]

def XL_spec_AreFaults_l0 : Nat → X_spec_AreFaults_l0 → List (Nat × SV)
  | 0, (_, _, _) => [(4, (.one ⟨false, [(.val (.bool false))]⟩))]
  | 1, (_, _, _) => [(4, (.one ⟨false, [(.val (.bool false))]⟩))]
  | _, (_, _, _) => []

def XE_spec_AreFaults_l0 : Nat → X_spec_AreFaults_l0 → List (Nat × Entry)
  | 0, (_, _, y2) => [(0, (.row false 78 (CTy.pair (CTy.int IntKind.i64) (CTy.pair (CTy.int IntKind.i64) (CTy.int IntKind.i64))) y2))]
  | 1, (_, _, y2) => [(0, (.row false 78 (CTy.pair (CTy.int IntKind.i64) (CTy.pair (CTy.int IntKind.i64) (CTy.int IntKind.i64))) y2))]
  | _, (_, _, y2) => [(0, (.row false 78 (CTy.pair (CTy.int IntKind.i64) (CTy.pair (CTy.int IntKind.i64) (CTy.int IntKind.i64))) y2))]

def lt_spec_AreFaults_l0 : X_spec_AreFaults_l0 → LT X_spec_AreFaults_l0
  | (y0, y1, y2) => .ite (spec_AreFaults_l0_0 y0 y2) (.need [(spec_AreFaults_l0_1 y0), (spec_AreFaults_l0_0 y0 y2), (spec_AreFaults_l0_2 y0 y2)] (.ite (spec_AreFaults_l0_3 y0 y1 y2) (.ext 0 [(0, 0)]) (.need [(spec_AreFaults_l0_4 y0 y2)] (.ite (spec_AreFaults_l0_5 y0 y2) (.ext 1 [(0, 0)]) (.nrm ((spec_AreFaults_l0_6 y0), y1, y2) [(0, 0)]))))) (.ext 2 [(0, 0)])

def rd_spec_AreFaults_l0 (s : St) : Option X_spec_AreFaults_l0 :=
  (match s.look 5 with
  | some ⟨none, (.one ⟨false, [(.val (.int IntKind.i64 y0))]⟩)⟩ =>
  (match s.look 1 with
  | some ⟨none, (.one ⟨false, [(.ref 0)]⟩)⟩ =>
  (match s.look 0 with
  | some ⟨none, (.one ⟨false, [(.val (.int IntKind.i64 y1))]⟩)⟩ =>
  (match s.ent 0 with
  | some (.row false 78 (CTy.pair (CTy.int IntKind.i64) (CTy.pair (CTy.int IntKind.i64) (CTy.int IntKind.i64))) y2) =>
  some (y0, y1, y2)
  | _ => none)
  | _ => none)
  | _ => none)
  | _ => none)

def lp_spec_AreFaults_l0 : Lp X_spec_AreFaults_l0 where
  h := ⟨[8, 9, 10, 11, 14, 15, 16, 17, 6, 18, 19, 20, 21, 22, 23, 24, 25, 26, 27, 28, 29, 30, 31, 32, 33, 34, 35, 4, 7, 36, 37, 38, 41, 42, 43, 44, 45, 46, 47, 48, 49, 50, 51, 52, 53, 54, 55, 56, 57, 58, 39, 40, 12, 13, 5], [0], [], []⟩
  JL := JL_spec_AreFaults_l0
  JE := JE_spec_AreFaults_l0
  XL := XL_spec_AreFaults_l0
  XE := XE_spec_AreFaults_l0
  q := fun j => match j with | 0 => .ret | 1 => .ret | _ => .exit 0
  tags := [0, 1, 2]
  lt := lt_spec_AreFaults_l0
  fuel := fun (y0, y1, y2) => y0.natAbs + y1.natAbs + y2.length
  fix := fun (_, y1, y2) (y0, _, _) => (y0, y1, y2)
  σ := [(0, 0)]
  rd := rd_spec_AreFaults_l0

theorem lpok_spec_AreFaults_l0 : LoopOk Tryz.prog (fun k => Nat.blt k Tryz.f37.ntmps) lp_spec_AreFaults_l0.F (loopAt Tryz.f37 0) := by
  refine Lp.ok (tbl := [p_spec_l01In, p_spec_l11Number]) (lf := [lp_spec_AreFaults_l0_l0.F]) hmix lp_spec_AreFaults_l0 (by kernel_rfl) (LOk.allT (l := [loopIn (loopAt Tryz.f37 0) 0]) (by kernel_rfl) (.cons lpok_spec_AreFaults_l0_l0 (.nil _))) (fun _ => rfl) (fun j _ => by unfold lp_spec_AreFaults_l0; match j with | 0 => rfl | 1 => rfl | _ + 2 => rfl) ?_ ?_ ?_ ?_ (fun _ => rfl) ?_
  · intro x; obtain ⟨y0, y1, y2⟩ := x; kernel_rfl
  · intro x; obtain ⟨y0, y1, y2⟩ := x; kernel_rfl
  · intro s x h
    have h : rd_spec_AreFaults_l0 s = some x := h
    unfold rd_spec_AreFaults_l0 at h
    repeat' split at h
    all_goals cases h
    exact ⟨absS_cons (by assumption) rfl (absS_cons (by assumption) rfl (absS_cons (by assumption) rfl (rfl))), absE_cons rfl (by assumption) rfl (rfl)⟩
  · intro x; obtain ⟨y0, y1, y2⟩ := x; kernel_rfl
  · intro x z; obtain ⟨y0, y1, y2⟩ := x; exact (And.intro (And.intro trivial (And.intro trivial rfl)) trivial)

def spec_AreFaults_a0 (x0 : Int) (x1 : List (Int × Int × Int)) : Int × Int × List (Int × Int × Int) :=
  ((0 : Int), x0, x1)

def spec_AreFaults_0 (x0 : Int) (x1 : List (Int × Int × Int)) : Bool :=
  bif Nat.beq (Prod.fst (Lp.res lp_spec_AreFaults_l0 (spec_AreFaults_a0 x0 x1))) (0 : Nat) then false
  else
  bif Nat.beq (Prod.fst (Lp.res lp_spec_AreFaults_l0 (spec_AreFaults_a0 x0 x1))) (1 : Nat) then false
  else bif spec_l11Number_0 x0 then leI (↑(List.length x1) : Int) (8 : Int) else false

def spec_AreFaults_1 (x0 : Int) (x1 : List (Int × Int × Int)) : Bool :=
  allT [Lp.fin lp_spec_AreFaults_l0 (spec_AreFaults_a0 x0 x1)]

def F_spec_AreFaults : List SV → List Entry → Option Out
  | [.one ⟨false, [.val (.int .i64 x0)]⟩, .one ⟨false, [.ref 0]⟩], [.row false 78 (.pair (.int .i64) (.pair (.int .i64) (.int .i64))) x1] => some ⟨(.one ⟨false, [(.val (.bool (spec_AreFaults_0 x0 x1)))]⟩), [(.row false 78 (CTy.pair (CTy.int IntKind.i64) (CTy.pair (CTy.int IntKind.i64) (CTy.int IntKind.i64))) x1)], [], [(spec_AreFaults_1 x0 x1)]⟩
  | _, _ => none

def p_spec_AreFaults : PF Tryz.prog := PF.ofG Tryz.prog [p_spec_l01In, p_spec_l11Number] [lp_spec_AreFaults_l0.F] hmix 37 Tryz.f37 Tryz.func37 (LOk.fnT (l := [loopAt Tryz.f37 0]) (by kernel_rfl) (.cons lpok_spec_AreFaults_l0 (.nil _))) F_spec_AreFaults (by
  intro vs es r h; unfold F_spec_AreFaults at h; split at h
  · cases h; kernel_rfl
  · cases h)

def F_laws_toSensorFault : List SV → List Entry → Option Out
  | [.one ⟨true, [.val (.int .i64 x0), .val (.int .i64 x1), .val (.int .i64 x2)]⟩], [] => some ⟨(.one ⟨true, [(.val (.int IntKind.i64 x0)), (.val (.int IntKind.i64 x1)), (.val (.int IntKind.i64 x2))]⟩), [], [], []⟩
  | _, _ => none

def p_laws_toSensorFault : PF Tryz.prog := PF.ofG Tryz.prog [] [] hmix 48 Tryz.f48 Tryz.func48 (fun c _ => LOk.nil c) F_laws_toSensorFault (by
  intro vs es r h; unfold F_laws_toSensorFault at h; split at h
  · cases h; kernel_rfl
  · cases h)

abbrev X_laws_toSensorFaultS_l0 := Int × List (Int × (Int × Int)) × List (Int × (Int × Int))

def laws_toSensorFaultS_l0_a0 (y0 : Int) (y1 : List (Int × (Int × Int))) : Int × Int × Int :=
  Option.getD y1[Int.toNat y0]? ((0 : Int), (0 : Int), (0 : Int))

def laws_toSensorFaultS_l0_0 (y0 : Int) (y1 : List (Int × (Int × Int))) : Bool :=
  ltI y0 (↑(List.length y1) : Int)

def laws_toSensorFaultS_l0_1 (y0 : Int) : Bool :=
  leI (0 : Int) y0

def laws_toSensorFaultS_l0_2 (y0 : Int) (y1 : List (Int × (Int × Int))) : Bool :=
  ltN (Int.toNat y0) (List.length y1)

def laws_toSensorFaultS_l0_3 (y0 : Int) (y2 : List (Int × (Int × Int))) : Bool :=
  ltI y0 (↑(List.length y2) : Int)

def laws_toSensorFaultS_l0_4 (y0 : Int) (y2 : List (Int × (Int × Int))) : Bool :=
  ltN (Int.toNat y0) (List.length y2)

def laws_toSensorFaultS_l0_5 (y0 : Int) : Int :=
  IntKind.wrap IntKind.i64 (y0 + (1 : Int))

def laws_toSensorFaultS_l0_6 (y0 : Int) (y1 : List (Int × (Int × Int))) (y2 : List (Int × (Int × Int))) : List (Int × (Int × Int)) :=
  List.set y2 (Int.toNat y0)
  (Prod.fst (laws_toSensorFaultS_l0_a0 y0 y1), Prod.fst (Prod.snd (laws_toSensorFaultS_l0_a0 y0 y1)),
    Prod.snd (Prod.snd (laws_toSensorFaultS_l0_a0 y0 y1)))

def JL_laws_toSensorFaultS_l0 : X_laws_toSensorFaultS_l0 → List (Nat × SV)
  | (y0, _, _) => [(4, (.one ⟨false, [(.val (.int IntKind.i64 y0))]⟩)), (0, (.one ⟨false, [(.ref 0)]⟩)), (3, (.one ⟨false, [(.ref 1)]⟩))]

def JE_laws_toSensorFaultS_l0 : X_laws_toSensorFaultS_l0 → List (Nat × Entry)
  | (_, y1, y2) => [(0, (.row false 80 (CTy.pair (CTy.int IntKind.i64) (CTy.pair (CTy.int IntKind.i64) (CTy.int IntKind.i64))) y1)), (1, (.row true 78 (CTy.pair (CTy.int IntKind.i64) (CTy.pair (CTy.int IntKind.i64) (CTy.int IntKind.i64))) y2))]

def XL_laws_toSensorFaultS_l0 : Nat → X_laws_toSensorFaultS_l0 → List (Nat × SV)
  | _, (_, _, _) => []

def XE_laws_toSensorFaultS_l0 : Nat → X_laws_toSensorFaultS_l0 → List (Nat × Entry)
  | _, (_, y1, y2) => [(0, (.row false 80 (CTy.pair (CTy.int IntKind.i64) (CTy.pair (CTy.int IntKind.i64) (CTy.int IntKind.i64))) y1)), (1, (.row true 78 (CTy.pair (CTy.int IntKind.i64) (CTy.pair (CTy.int IntKind.i64) (CTy.int IntKind.i64))) y2))]

def lt_laws_toSensorFaultS_l0 : X_laws_toSensorFaultS_l0 → LT X_laws_toSensorFaultS_l0
  | (y0, y1, y2) => .ite (laws_toSensorFaultS_l0_0 y0 y1) (.need [(laws_toSensorFaultS_l0_1 y0), (laws_toSensorFaultS_l0_0 y0 y1), (laws_toSensorFaultS_l0_2 y0 y1), (laws_toSensorFaultS_l0_1 y0), (laws_toSensorFaultS_l0_3 y0 y2), (laws_toSensorFaultS_l0_4 y0 y2)] (.nrm ((laws_toSensorFaultS_l0_5 y0), y1, (laws_toSensorFaultS_l0_6 y0 y1 y2)) [(0, 0), (1, 1)])) (.ext 0 [(0, 0), (1, 1)])

def rd_laws_toSensorFaultS_l0 (s : St) : Option X_laws_toSensorFaultS_l0 :=
  (match s.look 4 with
  | some ⟨none, (.one ⟨false, [(.val (.int IntKind.i64 y0))]⟩)⟩ =>
  (match s.look 0 with
  | some ⟨none, (.one ⟨false, [(.ref 0)]⟩)⟩ =>
  (match s.look 3 with
  | some ⟨none, (.one ⟨false, [(.ref 320)]⟩)⟩ =>
  (match s.ent 0 with
  | some (.row false 80 (CTy.pair (CTy.int IntKind.i64) (CTy.pair (CTy.int IntKind.i64) (CTy.int IntKind.i64))) y1) =>
  (match s.ent 320 with
  | some (.row true 78 (CTy.pair (CTy.int IntKind.i64) (CTy.pair (CTy.int IntKind.i64) (CTy.int IntKind.i64))) y2) =>
  some (y0, y1, y2)
  | _ => none)
  | _ => none)
  | _ => none)
  | _ => none)
  | _ => none)

def lp_laws_toSensorFaultS_l0 : Lp X_laws_toSensorFaultS_l0 where
  h := ⟨[8, 9, 10, 11, 14, 15, 16, 17, 18, 19, 20, 21, 12, 13, 4], [0, 1], [], []⟩
  JL := JL_laws_toSensorFaultS_l0
  JE := JE_laws_toSensorFaultS_l0
  XL := XL_laws_toSensorFaultS_l0
  XE := XE_laws_toSensorFaultS_l0
  q := fun j => match j with | _ => .exit 0
  tags := [0]
  lt := lt_laws_toSensorFaultS_l0
  fuel := fun (y0, y1, y2) => y0.natAbs + y1.length + y2.length
  fix := fun (_, y1, _) (y0, _, y2) => (y0, y1, y2)
  σ := [(0, 0), (1, 320)]
  rd := rd_laws_toSensorFaultS_l0

theorem lpok_laws_toSensorFaultS_l0 : LoopOk Tryz.prog (fun k => Nat.blt k Tryz.f20.ntmps) lp_laws_toSensorFaultS_l0.F (loopAt Tryz.f20 0) := by
  refine Lp.ok (tbl := [p_laws_toSensorFault]) (lf := []) hmix lp_laws_toSensorFaultS_l0 (by kernel_rfl) (LOk.nil _) (fun _ => rfl) (fun _ _ => rfl) ?_ ?_ ?_ ?_ (fun _ => rfl) ?_
  · intro x; obtain ⟨y0, y1, y2⟩ := x; kernel_rfl
  · intro x; obtain ⟨y0, y1, y2⟩ := x; kernel_rfl
  · intro s x h
    have h : rd_laws_toSensorFaultS_l0 s = some x := h
    unfold rd_laws_toSensorFaultS_l0 at h
    repeat' split at h
    all_goals cases h
    exact ⟨absS_cons (by assumption) rfl (absS_cons (by assumption) rfl (absS_cons (by assumption) rfl (rfl))), absE_cons rfl (by assumption) rfl (absE_cons rfl (by assumption) rfl (rfl))⟩
  · intro x; obtain ⟨y0, y1, y2⟩ := x; kernel_rfl
  · intro x z; obtain ⟨y0, y1, y2⟩ := x; exact (And.intro rfl trivial)

def laws_toSensorFaultS_a0 (x0 : List (Int × Int × Int)) : Int × List (Int × Int × Int) × List (Int × Int × Int) :=
  ((0 : Int), x0, List.replicate (Int.toNat (↑(List.length x0) : Int)) ((0 : Int), (0 : Int), (0 : Int)))

def laws_toSensorFaultS_0 (x0 : List (Int × Int × Int)) : List (Int × (Int × Int)) :=
  Prod.snd (Prod.snd (Prod.snd (Lp.res lp_laws_toSensorFaultS_l0 (laws_toSensorFaultS_a0 x0))))

def laws_toSensorFaultS_1 (x0 : List (Int × Int × Int)) : Bool :=
  allT
  [leI (0 : Int) (↑(List.length x0) : Int), leI (↑(List.length x0) : Int) (↑(List.length x0) : Int),
    leI ((↑(24 : Nat) : Int) * (↑(List.length x0) : Int)) (281474976710656 : Int), leI (↑(List.length x0) : Int) (9223372036854775807 : Int),
    Lp.fin lp_laws_toSensorFaultS_l0 (laws_toSensorFaultS_a0 x0)]

def F_laws_toSensorFaultS : List SV → List Entry → Option Out
  | [.one ⟨false, [.ref 0]⟩], [.row false 80 (.pair (.int .i64) (.pair (.int .i64) (.int .i64))) x0] => some ⟨(.one ⟨false, [(.ref 1)]⟩), [(.row false 80 (CTy.pair (CTy.int IntKind.i64) (CTy.pair (CTy.int IntKind.i64) (CTy.int IntKind.i64))) x0)], [(.row true 78 (CTy.pair (CTy.int IntKind.i64) (CTy.pair (CTy.int IntKind.i64) (CTy.int IntKind.i64))) (laws_toSensorFaultS_0 x0))], [(laws_toSensorFaultS_1 x0)]⟩
  | _, _ => none

def p_laws_toSensorFaultS : PF Tryz.prog := PF.ofG Tryz.prog [p_laws_toSensorFault] [lp_laws_toSensorFaultS_l0.F] hmix 20 Tryz.f20 Tryz.func20 (LOk.fnT (l := [loopAt Tryz.f20 0]) (by kernel_rfl) (.cons lpok_laws_toSensorFaultS_l0 (.nil _))) F_laws_toSensorFaultS (by
  intro vs es r h; unfold F_laws_toSensorFaultS at h; split at h
  · cases h; kernel_rfl
  · cases h)

def impl_isReportValue_0 (x0 : Int) : Bool :=
  bif x0 == (0 : Int) then true else x0 == (1 : Int)

def F_impl_isReportValue : List SV → List Entry → Option Out
  | [.one ⟨false, [.val (.int .i64 x0)]⟩], [] => some ⟨(.one ⟨false, [(.val (.bool (impl_isReportValue_0 x0)))]⟩), [], [], []⟩
  | _, _ => none

def p_impl_isReportValue : PF Tryz.prog := PF.ofG Tryz.prog [] [] hmix 77 Tryz.f77 Tryz.func77 (fun c _ => LOk.nil c) F_impl_isReportValue (by
  intro vs es r h; unfold F_impl_isReportValue at h; split at h
  · cases h; kernel_rfl
  · cases h)

def impl_areFaults_1_q1002_0 (x0 : Int) (x1 : Int) (x3 : Int) (x4 : Int) : Bool :=
  bif x0 == x3 then x1 == x4 else false

def F_impl_areFaults_1_q1002 : List SV → List Entry → Option Out
  | [(.one ⟨true, [(.val (.int IntKind.i64 x0)), (.val (.int IntKind.i64 x1)), (.val (.int IntKind.i64 _x2))]⟩), (.one ⟨false, [(.ptr 0 0)]⟩)], [(.box 78 [(.val (.int IntKind.i64 x3)), (.val (.int IntKind.i64 x4)), (.val (.int IntKind.i64 x5))])] => some ⟨(.one ⟨false, [(.val (.bool (impl_areFaults_1_q1002_0 x0 x1 x3 x4)))]⟩), [(.box 78 [(.val (.int IntKind.i64 x3)), (.val (.int IntKind.i64 x4)), (.val (.int IntKind.i64 x5))])], [], []⟩
  | _, _ => none

def p_impl_areFaults_1_q1002 : PF Tryz.prog := PF.ofG Tryz.prog [] [] hmix 79 Tryz.f79 Tryz.func79 (fun c _ => LOk.nil c) F_impl_areFaults_1_q1002 (by
  intro vs es r h; unfold F_impl_areFaults_1_q1002 at h; split at h
  · cases h; kernel_rfl
  · cases h)

abbrev X_slices_IndexFunc_impl_SensorFault_q1001_l0 := Int × Int × Int × Int × Int × List (Int × (Int × Int))

def slices_IndexFunc_impl_SensorFault_q1001_l0_a0 (y0 : Int) (y5 : List (Int × (Int × Int))) : Int × Int × Int :=
  Option.getD y5[Int.toNat y0]? ((0 : Int), (0 : Int), (0 : Int))

def slices_IndexFunc_impl_SensorFault_q1001_l0_0 (y0 : Int) (y1 : Int) : Bool :=
  ltI y0 y1

def slices_IndexFunc_impl_SensorFault_q1001_l0_1 (y0 : Int) : Bool :=
  leI (0 : Int) y0

def slices_IndexFunc_impl_SensorFault_q1001_l0_2 (y0 : Int) (y5 : List (Int × (Int × Int))) : Bool :=
  ltI y0 (↑(List.length y5) : Int)

def slices_IndexFunc_impl_SensorFault_q1001_l0_3 (y0 : Int) (y5 : List (Int × (Int × Int))) : Bool :=
  ltN (Int.toNat y0) (List.length y5)

def slices_IndexFunc_impl_SensorFault_q1001_l0_4 (y0 : Int) (y2 : Int) (y3 : Int) (y5 : List (Int × (Int × Int))) : Bool :=
  impl_areFaults_1_q1002_0 (Prod.fst (slices_IndexFunc_impl_SensorFault_q1001_l0_a0 y0 y5))
  (Prod.fst (Prod.snd (slices_IndexFunc_impl_SensorFault_q1001_l0_a0 y0 y5))) y2 y3

def slices_IndexFunc_impl_SensorFault_q1001_l0_5 (y0 : Int) : Int :=
  IntKind.wrap IntKind.i64 (y0 + (1 : Int))

def JL_slices_IndexFunc_impl_SensorFault_q1001_l0 : X_slices_IndexFunc_impl_SensorFault_q1001_l0 → List (Nat × SV)
  | (y0, y1, _, _, _, _) => [(8, (.one ⟨false, [(.val (.int IntKind.i64 y0))]⟩)), (7, (.one ⟨false, [(.val (.int IntKind.i64 y1))]⟩)), (1, (.one ⟨false, [(.clo 79 [0])]⟩)), (0, (.one ⟨false, [(.ref 1)]⟩))]

def JE_slices_IndexFunc_impl_SensorFault_q1001_l0 : X_slices_IndexFunc_impl_SensorFault_q1001_l0 → List (Nat × Entry)
  | (_, _, y2, y3, y4, y5) => [(0, (.box 78 [(.val (.int IntKind.i64 y2)), (.val (.int IntKind.i64 y3)), (.val (.int IntKind.i64 y4))])), (1, (.row false 78 (CTy.pair (CTy.int IntKind.i64) (CTy.pair (CTy.int IntKind.i64) (CTy.int IntKind.i64))) y5))]

def XL_slices_IndexFunc_impl_SensorFault_q1001_l0 : Nat → X_slices_IndexFunc_impl_SensorFault_q1001_l0 → List (Nat × SV)
  | 0, (y0, _, _, _, _, _) => [(4, (.one ⟨false, [(.val (.int IntKind.i64 y0))]⟩))]
  | _, (_, _, _, _, _, _) => []

def XE_slices_IndexFunc_impl_SensorFault_q1001_l0 : Nat → X_slices_IndexFunc_impl_SensorFault_q1001_l0 → List (Nat × Entry)
  | 0, (_, _, y2, y3, y4, y5) => [(0, (.box 78 [(.val (.int IntKind.i64 y2)), (.val (.int IntKind.i64 y3)), (.val (.int IntKind.i64 y4))])), (1, (.row false 78 (CTy.pair (CTy.int IntKind.i64) (CTy.pair (CTy.int IntKind.i64) (CTy.int IntKind.i64))) y5))]
  | _, (_, _, y2, y3, y4, y5) => [(0, (.box 78 [(.val (.int IntKind.i64 y2)), (.val (.int IntKind.i64 y3)), (.val (.int IntKind.i64 y4))])), (1, (.row false 78 (CTy.pair (CTy.int IntKind.i64) (CTy.pair (CTy.int IntKind.i64) (CTy.int IntKind.i64))) y5))]

def lt_slices_IndexFunc_impl_SensorFault_q1001_l0 : X_slices_IndexFunc_impl_SensorFault_q1001_l0 → LT X_slices_IndexFunc_impl_SensorFault_q1001_l0
  | (y0, y1, y2, y3, y4, y5) => .ite (slices_IndexFunc_impl_SensorFault_q1001_l0_0 y0 y1) (.need [(slices_IndexFunc_impl_SensorFault_q1001_l0_1 y0), (slices_IndexFunc_impl_SensorFault_q1001_l0_2 y0 y5), (slices_IndexFunc_impl_SensorFault_q1001_l0_3 y0 y5)] (.ite (slices_IndexFunc_impl_SensorFault_q1001_l0_4 y0 y2 y3 y5) (.ext 0 [(0, 0), (1, 1)]) (.nrm ((slices_IndexFunc_impl_SensorFault_q1001_l0_5 y0), y1, y2, y3, y4, y5) [(0, 0), (1, 1)]))) (.ext 1 [(0, 0), (1, 1)])

def rd_slices_IndexFunc_impl_SensorFault_q1001_l0 (s : St) : Option X_slices_IndexFunc_impl_SensorFault_q1001_l0 :=
  (match s.look 8 with
  | some ⟨none, (.one ⟨false, [(.val (.int IntKind.i64 y0))]⟩)⟩ =>
  (match s.look 7 with
  | some ⟨none, (.one ⟨false, [(.val (.int IntKind.i64 y1))]⟩)⟩ =>
  (match s.look 1 with
  | some ⟨none, (.one ⟨false, [(.clo 79 [1])]⟩)⟩ =>
  (match s.look 0 with
  | some ⟨none, (.one ⟨false, [(.ref 0)]⟩)⟩ =>
  (match s.ent 1 with
  | some (.box 78 [(.val (.int IntKind.i64 y2)), (.val (.int IntKind.i64 y3)), (.val (.int IntKind.i64 y4))]) =>
  (match s.ent 0 with
  | some (.row false 78 (CTy.pair (CTy.int IntKind.i64) (CTy.pair (CTy.int IntKind.i64) (CTy.int IntKind.i64))) y5) =>
  some (y0, y1, y2, y3, y4, y5)
  | _ => none)
  | _ => none)
  | _ => none)
  | _ => none)
  | _ => none)
  | _ => none)

def lp_slices_IndexFunc_impl_SensorFault_q1001_l0 : Lp X_slices_IndexFunc_impl_SensorFault_q1001_l0 where
  h := ⟨[9, 10, 5, 11, 12, 13, 14, 15, 16, 17, 4, 18, 8], [0, 1], [], []⟩
  JL := JL_slices_IndexFunc_impl_SensorFault_q1001_l0
  JE := JE_slices_IndexFunc_impl_SensorFault_q1001_l0
  XL := XL_slices_IndexFunc_impl_SensorFault_q1001_l0
  XE := XE_slices_IndexFunc_impl_SensorFault_q1001_l0
  q := fun j => match j with | 0 => .ret | _ => .exit 0
  tags := [0, 1]
  lt := lt_slices_IndexFunc_impl_SensorFault_q1001_l0
  fuel := fun (y0, y1, y2, y3, y4, y5) => y0.natAbs + y1.natAbs + y2.natAbs + y3.natAbs + y4.natAbs + y5.length
  fix := fun (_, y1, y2, y3, y4, y5) (y0, _, _, _, _, _) => (y0, y1, y2, y3, y4, y5)
  σ := [(0, 1), (1, 0)]
  rd := rd_slices_IndexFunc_impl_SensorFault_q1001_l0

theorem lpok_slices_IndexFunc_impl_SensorFault_q1001_l0 : LoopOk Tryz.prog (fun k => Nat.blt k Tryz.f90.ntmps) lp_slices_IndexFunc_impl_SensorFault_q1001_l0.F (loopAt Tryz.f90 0) := by
  refine Lp.ok (tbl := [p_impl_areFaults_1_q1002]) (lf := []) hmix lp_slices_IndexFunc_impl_SensorFault_q1001_l0 (by kernel_rfl) (LOk.nil _) (fun _ => rfl) (fun j _ => by unfold lp_slices_IndexFunc_impl_SensorFault_q1001_l0; match j with | 0 => rfl | _ + 1 => rfl) ?_ ?_ ?_ ?_ (fun _ => rfl) ?_
  · intro x; obtain ⟨y0, y1, y2, y3, y4, y5⟩ := x; kernel_rfl
  · intro x; obtain ⟨y0, y1, y2, y3, y4, y5⟩ := x; kernel_rfl
  · intro s x h
    have h : rd_slices_IndexFunc_impl_SensorFault_q1001_l0 s = some x := h
    unfold rd_slices_IndexFunc_impl_SensorFault_q1001_l0 at h
    repeat' split at h
    all_goals cases h
    exact ⟨absS_cons (by assumption) rfl (absS_cons (by assumption) rfl (absS_cons (by assumption) rfl (absS_cons (by assumption) rfl (rfl)))), absE_cons rfl (by assumption) rfl (absE_cons rfl (by assumption) rfl (rfl))⟩
  · intro x; obtain ⟨y0, y1, y2, y3, y4, y5⟩ := x; kernel_rfl
  · intro x z; obtain ⟨y0, y1, y2, y3, y4, y5⟩ := x; exact (And.intro (And.intro trivial rfl) trivial)

def slices_IndexFunc_impl_SensorFault_q1001_a0 (x0 : List (Int × Int × Int)) (x1 : Int) (x2 : Int) (x3 : Int) : Int × Int × Int × Int × Int × List (Int × Int × Int) :=
  ((0 : Int), (↑(List.length x0) : Int), x1, x2, x3, x0)

def slices_IndexFunc_impl_SensorFault_q1001_a1 (x0 : List (Int × Int × Int)) (x1 : Int) (x2 : Int) (x3 : Int) : Bool :=
  Nat.beq (Prod.fst (Lp.res lp_slices_IndexFunc_impl_SensorFault_q1001_l0 (slices_IndexFunc_impl_SensorFault_q1001_a0 x0 x1 x2 x3))) (0 : Nat)

def slices_IndexFunc_impl_SensorFault_q1001_0 (x0 : List (Int × Int × Int)) (x1 : Int) (x2 : Int) (x3 : Int) : Int :=
  bif slices_IndexFunc_impl_SensorFault_q1001_a1 x0 x1 x2 x3 then
  Prod.fst (Prod.snd (Lp.res lp_slices_IndexFunc_impl_SensorFault_q1001_l0 (slices_IndexFunc_impl_SensorFault_q1001_a0 x0 x1 x2 x3)))
  else (-1 : Int)

def slices_IndexFunc_impl_SensorFault_q1001_1 (x0 : List (Int × Int × Int)) (x1 : Int) (x2 : Int) (x3 : Int) : Int :=
  bif slices_IndexFunc_impl_SensorFault_q1001_a1 x0 x1 x2 x3 then x1 else x1

def slices_IndexFunc_impl_SensorFault_q1001_2 (x0 : List (Int × Int × Int)) (x1 : Int) (x2 : Int) (x3 : Int) : Int :=
  bif slices_IndexFunc_impl_SensorFault_q1001_a1 x0 x1 x2 x3 then x2 else x2

def slices_IndexFunc_impl_SensorFault_q1001_3 (x0 : List (Int × Int × Int)) (x1 : Int) (x2 : Int) (x3 : Int) : Int :=
  bif slices_IndexFunc_impl_SensorFault_q1001_a1 x0 x1 x2 x3 then x3 else x3

def slices_IndexFunc_impl_SensorFault_q1001_4 (x0 : List (Int × Int × Int)) (x1 : Int) (x2 : Int) (x3 : Int) : Bool :=
  allT [Lp.fin lp_slices_IndexFunc_impl_SensorFault_q1001_l0 (slices_IndexFunc_impl_SensorFault_q1001_a0 x0 x1 x2 x3)]

def F_slices_IndexFunc_impl_SensorFault_q1001 : List SV → List Entry → Option Out
  | [(.one ⟨false, [(.ref 0)]⟩), (.one ⟨false, [(.clo 79 [1])]⟩)], [(.row false 78 (CTy.pair (CTy.int IntKind.i64) (CTy.pair (CTy.int IntKind.i64) (CTy.int IntKind.i64))) x0), (.box 78 [(.val (.int IntKind.i64 x1)), (.val (.int IntKind.i64 x2)), (.val (.int IntKind.i64 x3))])] => some ⟨(.one ⟨false, [(.val (.int IntKind.i64 (slices_IndexFunc_impl_SensorFault_q1001_0 x0 x1 x2 x3)))]⟩), [(.row false 78 (CTy.pair (CTy.int IntKind.i64) (CTy.pair (CTy.int IntKind.i64) (CTy.int IntKind.i64))) x0), (.box 78 [(.val (.int IntKind.i64 (slices_IndexFunc_impl_SensorFault_q1001_1 x0 x1 x2 x3))), (.val (.int IntKind.i64 (slices_IndexFunc_impl_SensorFault_q1001_2 x0 x1 x2 x3))), (.val (.int IntKind.i64 (slices_IndexFunc_impl_SensorFault_q1001_3 x0 x1 x2 x3)))])], [], [(slices_IndexFunc_impl_SensorFault_q1001_4 x0 x1 x2 x3)]⟩
  | _, _ => none

def p_slices_IndexFunc_impl_SensorFault_q1001 : PF Tryz.prog := PF.ofG Tryz.prog [p_impl_areFaults_1_q1002] [lp_slices_IndexFunc_impl_SensorFault_q1001_l0.F] hmix 90 Tryz.f90 Tryz.func90 (LOk.fnT (l := [loopAt Tryz.f90 0]) (by kernel_rfl) (.cons lpok_slices_IndexFunc_impl_SensorFault_q1001_l0 (.nil _))) F_slices_IndexFunc_impl_SensorFault_q1001 (by
  intro vs es r h; unfold F_slices_IndexFunc_impl_SensorFault_q1001 at h; split at h
  · cases h; kernel_rfl
  · cases h)

def slices_ContainsFunc_impl_SensorFault_q1000_0 (x0 : List (Int × Int × Int)) (x1 : Int) (x2 : Int) (x3 : Int) : Bool :=
  leI (0 : Int) (slices_IndexFunc_impl_SensorFault_q1001_0 x0 x1 x2 x3)

def slices_ContainsFunc_impl_SensorFault_q1000_1 (x0 : List (Int × Int × Int)) (x1 : Int) (x2 : Int) (x3 : Int) : Int :=
  slices_IndexFunc_impl_SensorFault_q1001_1 x0 x1 x2 x3

def slices_ContainsFunc_impl_SensorFault_q1000_2 (x0 : List (Int × Int × Int)) (x1 : Int) (x2 : Int) (x3 : Int) : Int :=
  slices_IndexFunc_impl_SensorFault_q1001_2 x0 x1 x2 x3

def slices_ContainsFunc_impl_SensorFault_q1000_3 (x0 : List (Int × Int × Int)) (x1 : Int) (x2 : Int) (x3 : Int) : Int :=
  slices_IndexFunc_impl_SensorFault_q1001_3 x0 x1 x2 x3

def slices_ContainsFunc_impl_SensorFault_q1000_4 (x0 : List (Int × Int × Int)) (x1 : Int) (x2 : Int) (x3 : Int) : Bool :=
  allT [slices_IndexFunc_impl_SensorFault_q1001_4 x0 x1 x2 x3]

def F_slices_ContainsFunc_impl_SensorFault_q1000 : List SV → List Entry → Option Out
  | [(.one ⟨false, [(.ref 0)]⟩), (.one ⟨false, [(.clo 79 [1])]⟩)], [(.row false 78 (CTy.pair (CTy.int IntKind.i64) (CTy.pair (CTy.int IntKind.i64) (CTy.int IntKind.i64))) x0), (.box 78 [(.val (.int IntKind.i64 x1)), (.val (.int IntKind.i64 x2)), (.val (.int IntKind.i64 x3))])] => some ⟨(.one ⟨false, [(.val (.bool (slices_ContainsFunc_impl_SensorFault_q1000_0 x0 x1 x2 x3)))]⟩), [(.row false 78 (CTy.pair (CTy.int IntKind.i64) (CTy.pair (CTy.int IntKind.i64) (CTy.int IntKind.i64))) x0), (.box 78 [(.val (.int IntKind.i64 (slices_ContainsFunc_impl_SensorFault_q1000_1 x0 x1 x2 x3))), (.val (.int IntKind.i64 (slices_ContainsFunc_impl_SensorFault_q1000_2 x0 x1 x2 x3))), (.val (.int IntKind.i64 (slices_ContainsFunc_impl_SensorFault_q1000_3 x0 x1 x2 x3)))])], [], [(slices_ContainsFunc_impl_SensorFault_q1000_4 x0 x1 x2 x3)]⟩
  | _, _ => none

def p_slices_ContainsFunc_impl_SensorFault_q1000 : PF Tryz.prog := PF.ofG Tryz.prog [p_slices_IndexFunc_impl_SensorFault_q1001, PF.lend p_slices_IndexFunc_impl_SensorFault_q1001, PF.fz p_slices_IndexFunc_impl_SensorFault_q1001] [] hmix 78 Tryz.f78 Tryz.func78 (fun c _ => LOk.nil c) F_slices_ContainsFunc_impl_SensorFault_q1000 (by
  intro vs es r h; unfold F_slices_ContainsFunc_impl_SensorFault_q1000 at h; split at h
  · cases h; kernel_rfl
  · cases h)

abbrev X_impl_areFaults_l0 := Int × Int × Int × List (Int × (Int × Int))

def impl_areFaults_l0_a0 (y0 : Int) (y3 : List (Int × (Int × Int))) : Int × Int × Int :=
  Option.getD y3[Int.toNat y0]? ((0 : Int), (0 : Int), (0 : Int))

def impl_areFaults_l0_a1 (y0 : Int) (y3 : List (Int × (Int × Int))) : List (Int × Int × Int) :=
  List.drop (Int.toNat (0 : Int)) (List.take (Int.toNat y0) y3)

def impl_areFaults_l0_0 (y0 : Int) (y1 : Int) : Bool :=
  ltI y0 y1

def impl_areFaults_l0_1 (y0 : Int) : Bool :=
  leI (0 : Int) y0

def impl_areFaults_l0_2 (y0 : Int) (y3 : List (Int × (Int × Int))) : Bool :=
  ltI y0 (↑(List.length y3) : Int)

def impl_areFaults_l0_3 (y0 : Int) (y3 : List (Int × (Int × Int))) : Bool :=
  ltN (Int.toNat y0) (List.length y3)

def impl_areFaults_l0_4 (y0 : Int) (y2 : Int) (y3 : List (Int × (Int × Int))) : Bool :=
  bif
    bif !impl_within_0 (Prod.fst (impl_areFaults_l0_a0 y0 y3)) (0 : Int) (IntKind.wrap IntKind.i64 (y2 - (1 : Int))) then true
    else
      bif Prod.fst (Prod.snd (impl_areFaults_l0_a0 y0 y3)) != (0 : Int) then Prod.fst (Prod.snd (impl_areFaults_l0_a0 y0 y3)) != (1 : Int)
      else false then
  true
  else !impl_isReportValue_0 (Prod.snd (Prod.snd (impl_areFaults_l0_a0 y0 y3)))

def impl_areFaults_l0_5  : Bool :=
  leI (0 : Int) (0 : Int)

def impl_areFaults_l0_6 (y0 : Int) (y3 : List (Int × (Int × Int))) : Bool :=
  leI y0 (↑(List.length y3) : Int)

def impl_areFaults_l0_7 (y0 : Int) (y3 : List (Int × (Int × Int))) : Bool :=
  slices_ContainsFunc_impl_SensorFault_q1000_4 (impl_areFaults_l0_a1 y0 y3) (Prod.fst (impl_areFaults_l0_a0 y0 y3))
  (Prod.fst (Prod.snd (impl_areFaults_l0_a0 y0 y3))) (Prod.snd (Prod.snd (impl_areFaults_l0_a0 y0 y3)))

def impl_areFaults_l0_8 (y0 : Int) (y3 : List (Int × (Int × Int))) : Bool :=
  slices_ContainsFunc_impl_SensorFault_q1000_0 (impl_areFaults_l0_a1 y0 y3) (Prod.fst (impl_areFaults_l0_a0 y0 y3))
  (Prod.fst (Prod.snd (impl_areFaults_l0_a0 y0 y3))) (Prod.snd (Prod.snd (impl_areFaults_l0_a0 y0 y3)))

def impl_areFaults_l0_9 (y0 : Int) : Int :=
  IntKind.wrap IntKind.i64 (y0 + (1 : Int))

def JL_impl_areFaults_l0 : X_impl_areFaults_l0 → List (Nat × SV)
  | (y0, y1, y2, _) => [(9, (.one ⟨false, [(.val (.int IntKind.i64 y0))]⟩)), (8, (.one ⟨false, [(.val (.int IntKind.i64 y1))]⟩)), (7, (.one ⟨false, [(.ref 0)]⟩)), (0, (.one ⟨false, [(.val (.int IntKind.i64 y2))]⟩)), (1, (.one ⟨false, [(.ref 0)]⟩))]

def JE_impl_areFaults_l0 : X_impl_areFaults_l0 → List (Nat × Entry)
  | (_, _, _, y3) => [(0, (.row false 78 (CTy.pair (CTy.int IntKind.i64) (CTy.pair (CTy.int IntKind.i64) (CTy.int IntKind.i64))) y3))]

def XL_impl_areFaults_l0 : Nat → X_impl_areFaults_l0 → List (Nat × SV)
  | 0, (_, _, _, _) => [(4, (.one ⟨false, [(.val (.bool false))]⟩))]
  | 1, (_, _, _, _) => [(4, (.one ⟨false, [(.val (.bool false))]⟩))]
  | _, (_, _, _, _) => []

def XE_impl_areFaults_l0 : Nat → X_impl_areFaults_l0 → List (Nat × Entry)
  | 0, (_, _, _, y3) => [(0, (.row false 78 (CTy.pair (CTy.int IntKind.i64) (CTy.pair (CTy.int IntKind.i64) (CTy.int IntKind.i64))) y3))]
  | 1, (_, _, _, y3) => [(0, (.row false 78 (CTy.pair (CTy.int IntKind.i64) (CTy.pair (CTy.int IntKind.i64) (CTy.int IntKind.i64))) y3))]
  | _, (_, _, _, y3) => [(0, (.row false 78 (CTy.pair (CTy.int IntKind.i64) (CTy.pair (CTy.int IntKind.i64) (CTy.int IntKind.i64))) y3))]

def lt_impl_areFaults_l0 : X_impl_areFaults_l0 → LT X_impl_areFaults_l0
  | (y0, y1, y2, y3) => .ite (impl_areFaults_l0_0 y0 y1) (.need [(impl_areFaults_l0_1 y0), (impl_areFaults_l0_2 y0 y3), (impl_areFaults_l0_3 y0 y3)] (.ite (impl_areFaults_l0_4 y0 y2 y3) (.ext 0 [(0, 0)]) (.need [(impl_areFaults_l0_5), (impl_areFaults_l0_1 y0), (impl_areFaults_l0_6 y0 y3), (impl_areFaults_l0_7 y0 y3)] (.ite (impl_areFaults_l0_8 y0 y3) (.ext 1 [(0, 0)]) (.nrm ((impl_areFaults_l0_9 y0), y1, y2, y3) [(0, 0)]))))) (.ext 2 [(0, 0)])

def rd_impl_areFaults_l0 (s : St) : Option X_impl_areFaults_l0 :=
  (match s.look 9 with
  | some ⟨none, (.one ⟨false, [(.val (.int IntKind.i64 y0))]⟩)⟩ =>
  (match s.look 8 with
  | some ⟨none, (.one ⟨false, [(.val (.int IntKind.i64 y1))]⟩)⟩ =>
  (match s.look 7 with
  | some ⟨none, (.one ⟨false, [(.ref 0)]⟩)⟩ =>
  (match s.look 0 with
  | some ⟨none, (.one ⟨false, [(.val (.int IntKind.i64 y2))]⟩)⟩ =>
  (match s.look 1 with
  | some ⟨none, (.one ⟨false, [(.ref 0)]⟩)⟩ =>
  (match s.ent 0 with
  | some (.row false 78 (CTy.pair (CTy.int IntKind.i64) (CTy.pair (CTy.int IntKind.i64) (CTy.int IntKind.i64))) y3) =>
  some (y0, y1, y2, y3)
  | _ => none)
  | _ => none)
  | _ => none)
  | _ => none)
  | _ => none)
  | _ => none)

def lp_impl_areFaults_l0 : Lp X_impl_areFaults_l0 where
  h := ⟨[10, 11, 12, 13, 6, 5, 14, 15, 16, 17, 18, 19, 20, 21, 22, 23, 24, 25, 26, 27, 28, 29, 30, 31, 32, 33, 34, 35, 4, 36, 37, 38, 39, 40, 41, 9], [0], [], []⟩
  JL := JL_impl_areFaults_l0
  JE := JE_impl_areFaults_l0
  XL := XL_impl_areFaults_l0
  XE := XE_impl_areFaults_l0
  q := fun j => match j with | 0 => .ret | 1 => .ret | _ => .exit 0
  tags := [0, 1, 2]
  lt := lt_impl_areFaults_l0
  fuel := fun (y0, y1, y2, y3) => y0.natAbs + y1.natAbs + y2.natAbs + y3.length
  fix := fun (_, y1, y2, y3) (y0, _, _, _) => (y0, y1, y2, y3)
  σ := [(0, 0)]
  rd := rd_impl_areFaults_l0

theorem lpok_impl_areFaults_l0 : LoopOk Tryz.prog (fun k => Nat.blt k Tryz.f53.ntmps) lp_impl_areFaults_l0.F (loopAt Tryz.f53 0) := by
  refine Lp.ok (tbl := [p_impl_within, p_impl_isReportValue, p_slices_ContainsFunc_impl_SensorFault_q1000, PF.lend p_slices_ContainsFunc_impl_SensorFault_q1000, PF.fz p_slices_ContainsFunc_impl_SensorFault_q1000]) (lf := []) hmix lp_impl_areFaults_l0 (by kernel_rfl) (LOk.nil _) (fun _ => rfl) (fun j _ => by unfold lp_impl_areFaults_l0; match j with | 0 => rfl | 1 => rfl | _ + 2 => rfl) ?_ ?_ ?_ ?_ (fun _ => rfl) ?_
  · intro x; obtain ⟨y0, y1, y2, y3⟩ := x; kernel_rfl
  · intro x; obtain ⟨y0, y1, y2, y3⟩ := x; kernel_rfl
  · intro s x h
    have h : rd_impl_areFaults_l0 s = some x := h
    unfold rd_impl_areFaults_l0 at h
    repeat' split at h
    all_goals cases h
    exact ⟨absS_cons (by assumption) rfl (absS_cons (by assumption) rfl (absS_cons (by assumption) rfl (absS_cons (by assumption) rfl (absS_cons (by assumption) rfl (rfl))))), absE_cons rfl (by assumption) rfl (rfl)⟩
  · intro x; obtain ⟨y0, y1, y2, y3⟩ := x; kernel_rfl
  · intro x z; obtain ⟨y0, y1, y2, y3⟩ := x; exact (And.intro (And.intro trivial (And.intro trivial rfl)) trivial)

def impl_areFaults_a0 (x0 : Int) (x1 : List (Int × Int × Int)) : Int × Int × Int × List (Int × Int × Int) :=
  ((0 : Int), (↑(List.length x1) : Int), x0, x1)

def impl_areFaults_0 (x0 : Int) (x1 : List (Int × Int × Int)) : Bool :=
  bif Nat.beq (Prod.fst (Lp.res lp_impl_areFaults_l0 (impl_areFaults_a0 x0 x1))) (0 : Nat) then false
  else bif Nat.beq (Prod.fst (Lp.res lp_impl_areFaults_l0 (impl_areFaults_a0 x0 x1))) (1 : Nat) then false else leI (↑(List.length x1) : Int) (8 : Int)

def impl_areFaults_1 (x0 : Int) (x1 : List (Int × Int × Int)) : Bool :=
  allT [Lp.fin lp_impl_areFaults_l0 (impl_areFaults_a0 x0 x1)]

def F_impl_areFaults : List SV → List Entry → Option Out
  | [.one ⟨false, [.val (.int .i64 x0)]⟩, .one ⟨false, [.ref 0]⟩], [.row false 78 (.pair (.int .i64) (.pair (.int .i64) (.int .i64))) x1] => some ⟨(.one ⟨false, [(.val (.bool (impl_areFaults_0 x0 x1)))]⟩), [(.row false 78 (CTy.pair (CTy.int IntKind.i64) (CTy.pair (CTy.int IntKind.i64) (CTy.int IntKind.i64))) x1)], [], [(impl_areFaults_1 x0 x1)]⟩
  | _, _ => none

def p_impl_areFaults : PF Tryz.prog := PF.ofG Tryz.prog [p_impl_within, p_impl_isReportValue, p_slices_ContainsFunc_impl_SensorFault_q1000, PF.lend p_slices_ContainsFunc_impl_SensorFault_q1000, PF.fz p_slices_ContainsFunc_impl_SensorFault_q1000] [lp_impl_areFaults_l0.F] hmix 53 Tryz.f53 Tryz.func53 (LOk.fnT (l := [loopAt Tryz.f53 0]) (by kernel_rfl) (.cons lpok_impl_areFaults_l0 (.nil _))) F_impl_areFaults (by
  intro vs es r h; unfold F_impl_areFaults at h; split at h
  · cases h; kernel_rfl
  · cases h)

def laws_eqSensorFault_0 (x0 : Int) (x1 : Int) (x2 : Int) (x3 : Int) (x4 : Int) (x5 : Int) : Bool :=
  bif x0 != x3 then false else bif x1 != x4 then false else bif x2 != x5 then false else true

def F_laws_eqSensorFault : List SV → List Entry → Option Out
  | [.one ⟨true, [.val (.int .i64 x0), .val (.int .i64 x1), .val (.int .i64 x2)]⟩, .one ⟨true, [.val (.int .i64 x3), .val (.int .i64 x4), .val (.int .i64 x5)]⟩], [] => some ⟨(.one ⟨false, [(.val (.bool (laws_eqSensorFault_0 x0 x1 x2 x3 x4 x5)))]⟩), [], [], []⟩
  | _, _ => none

def p_laws_eqSensorFault : PF Tryz.prog := PF.ofG Tryz.prog [] [] hmix 66 Tryz.f66 Tryz.func66 (fun c _ => LOk.nil c) F_laws_eqSensorFault (by
  intro vs es r h; unfold F_laws_eqSensorFault at h; split at h
  · cases h; kernel_rfl
  · cases h)

abbrev X_laws_eqSensorFaultS_l0 := Int × List (Int × (Int × Int)) × List (Int × (Int × Int))

def laws_eqSensorFaultS_l0_a0 (y0 : Int) (y1 : List (Int × (Int × Int))) : Int × Int × Int :=
  Option.getD y1[Int.toNat y0]? ((0 : Int), (0 : Int), (0 : Int))

def laws_eqSensorFaultS_l0_a1 (y0 : Int) (y2 : List (Int × (Int × Int))) : Int × Int × Int :=
  Option.getD y2[Int.toNat y0]? ((0 : Int), (0 : Int), (0 : Int))

def laws_eqSensorFaultS_l0_0 (y0 : Int) (y1 : List (Int × (Int × Int))) : Bool :=
  ltI y0 (↑(List.length y1) : Int)

def laws_eqSensorFaultS_l0_1 (y0 : Int) : Bool :=
  leI (0 : Int) y0

def laws_eqSensorFaultS_l0_2 (y0 : Int) (y1 : List (Int × (Int × Int))) : Bool :=
  ltN (Int.toNat y0) (List.length y1)

def laws_eqSensorFaultS_l0_3 (y0 : Int) (y2 : List (Int × (Int × Int))) : Bool :=
  ltI y0 (↑(List.length y2) : Int)

def laws_eqSensorFaultS_l0_4 (y0 : Int) (y2 : List (Int × (Int × Int))) : Bool :=
  ltN (Int.toNat y0) (List.length y2)

def laws_eqSensorFaultS_l0_5 (y0 : Int) (y1 : List (Int × (Int × Int))) (y2 : List (Int × (Int × Int))) : Bool :=
  !laws_eqSensorFault_0 (Prod.fst (laws_eqSensorFaultS_l0_a0 y0 y1)) (Prod.fst (Prod.snd (laws_eqSensorFaultS_l0_a0 y0 y1)))
    (Prod.snd (Prod.snd (laws_eqSensorFaultS_l0_a0 y0 y1))) (Prod.fst (laws_eqSensorFaultS_l0_a1 y0 y2))
    (Prod.fst (Prod.snd (laws_eqSensorFaultS_l0_a1 y0 y2))) (Prod.snd (Prod.snd (laws_eqSensorFaultS_l0_a1 y0 y2)))

def laws_eqSensorFaultS_l0_6 (y0 : Int) : Int :=
  IntKind.wrap IntKind.i64 (y0 + (1 : Int))

def JL_laws_eqSensorFaultS_l0 : X_laws_eqSensorFaultS_l0 → List (Nat × SV)
  | (y0, _, _) => [(5, (.one ⟨false, [(.val (.int IntKind.i64 y0))]⟩)), (0, (.one ⟨false, [(.ref 0)]⟩)), (1, (.one ⟨false, [(.ref 1)]⟩))]

def JE_laws_eqSensorFaultS_l0 : X_laws_eqSensorFaultS_l0 → List (Nat × Entry)
  | (_, y1, y2) => [(0, (.row false 78 (CTy.pair (CTy.int IntKind.i64) (CTy.pair (CTy.int IntKind.i64) (CTy.int IntKind.i64))) y1)), (1, (.row false 78 (CTy.pair (CTy.int IntKind.i64) (CTy.pair (CTy.int IntKind.i64) (CTy.int IntKind.i64))) y2))]

def XL_laws_eqSensorFaultS_l0 : Nat → X_laws_eqSensorFaultS_l0 → List (Nat × SV)
  | 0, (_, _, _) => [(4, (.one ⟨false, [(.val (.bool false))]⟩))]
  | _, (_, _, _) => []

def XE_laws_eqSensorFaultS_l0 : Nat → X_laws_eqSensorFaultS_l0 → List (Nat × Entry)
  | 0, (_, y1, y2) => [(0, (.row false 78 (CTy.pair (CTy.int IntKind.i64) (CTy.pair (CTy.int IntKind.i64) (CTy.int IntKind.i64))) y1)), (1, (.row false 78 (CTy.pair (CTy.int IntKind.i64) (CTy.pair (CTy.int IntKind.i64) (CTy.int IntKind.i64))) y2))]
  | _, (_, y1, y2) => [(0, (.row false 78 (CTy.pair (CTy.int IntKind.i64) (CTy.pair (CTy.int IntKind.i64) (CTy.int IntKind.i64))) y1)), (1, (.row false 78 (CTy.pair (CTy.int IntKind.i64) (CTy.pair (CTy.int IntKind.i64) (CTy.int IntKind.i64))) y2))]

def lt_laws_eqSensorFaultS_l0 : X_laws_eqSensorFaultS_l0 → LT X_laws_eqSensorFaultS_l0
  | (y0, y1, y2) => .ite (laws_eqSensorFaultS_l0_0 y0 y1) (.need [(laws_eqSensorFaultS_l0_1 y0), (laws_eqSensorFaultS_l0_0 y0 y1), (laws_eqSensorFaultS_l0_2 y0 y1), (laws_eqSensorFaultS_l0_1 y0), (laws_eqSensorFaultS_l0_3 y0 y2), (laws_eqSensorFaultS_l0_4 y0 y2)] (.ite (laws_eqSensorFaultS_l0_5 y0 y1 y2) (.ext 0 [(0, 0), (1, 1)]) (.nrm ((laws_eqSensorFaultS_l0_6 y0), y1, y2) [(0, 0), (1, 1)]))) (.ext 1 [(0, 0), (1, 1)])

def rd_laws_eqSensorFaultS_l0 (s : St) : Option X_laws_eqSensorFaultS_l0 :=
  (match s.look 5 with
  | some ⟨none, (.one ⟨false, [(.val (.int IntKind.i64 y0))]⟩)⟩ =>
  (match s.look 0 with
  | some ⟨none, (.one ⟨false, [(.ref 0)]⟩)⟩ =>
  (match s.look 1 with
  | some ⟨none, (.one ⟨false, [(.ref 1)]⟩)⟩ =>
  (match s.ent 0 with
  | some (.row false 78 (CTy.pair (CTy.int IntKind.i64) (CTy.pair (CTy.int IntKind.i64) (CTy.int IntKind.i64))) y1) =>
  (match s.ent 1 with
  | some (.row false 78 (CTy.pair (CTy.int IntKind.i64) (CTy.pair (CTy.int IntKind.i64) (CTy.int IntKind.i64))) y2) =>
  some (y0, y1, y2)
  | _ => none)
  | _ => none)
  | _ => none)
  | _ => none)
  | _ => none)

def lp_laws_eqSensorFaultS_l0 : Lp X_laws_eqSensorFaultS_l0 where
  h := ⟨[11, 12, 13, 14, 17, 18, 19, 20, 21, 22, 23, 24, 25, 26, 4, 15, 16, 5], [0, 1], [], []⟩
  JL := JL_laws_eqSensorFaultS_l0
  JE := JE_laws_eqSensorFaultS_l0
  XL := XL_laws_eqSensorFaultS_l0
  XE := XE_laws_eqSensorFaultS_l0
  q := fun j => match j with | 0 => .ret | _ => .exit 0
  tags := [0, 1]
  lt := lt_laws_eqSensorFaultS_l0
  fuel := fun (y0, y1, y2) => y0.natAbs + y1.length + y2.length
  fix := fun (_, y1, y2) (y0, _, _) => (y0, y1, y2)
  σ := [(0, 0), (1, 1)]
  rd := rd_laws_eqSensorFaultS_l0

theorem lpok_laws_eqSensorFaultS_l0 : LoopOk Tryz.prog (fun k => Nat.blt k Tryz.f30.ntmps) lp_laws_eqSensorFaultS_l0.F (loopAt Tryz.f30 0) := by
  refine Lp.ok (tbl := [p_laws_eqSensorFault]) (lf := []) hmix lp_laws_eqSensorFaultS_l0 (by kernel_rfl) (LOk.nil _) (fun _ => rfl) (fun j _ => by unfold lp_laws_eqSensorFaultS_l0; match j with | 0 => rfl | _ + 1 => rfl) ?_ ?_ ?_ ?_ (fun _ => rfl) ?_
  · intro x; obtain ⟨y0, y1, y2⟩ := x; kernel_rfl
  · intro x; obtain ⟨y0, y1, y2⟩ := x; kernel_rfl
  · intro s x h
    have h : rd_laws_eqSensorFaultS_l0 s = some x := h
    unfold rd_laws_eqSensorFaultS_l0 at h
    repeat' split at h
    all_goals cases h
    exact ⟨absS_cons (by assumption) rfl (absS_cons (by assumption) rfl (absS_cons (by assumption) rfl (rfl))), absE_cons rfl (by assumption) rfl (absE_cons rfl (by assumption) rfl (rfl))⟩
  · intro x; obtain ⟨y0, y1, y2⟩ := x; kernel_rfl
  · intro x z; obtain ⟨y0, y1, y2⟩ := x; exact (And.intro (And.intro trivial rfl) trivial)

def laws_eqSensorFaultS_a0 (x0 : List (Int × Int × Int)) (x1 : List (Int × Int × Int)) : Bool :=
  (↑(List.length x0) : Int) != (↑(List.length x1) : Int)

def laws_eqSensorFaultS_a1 (x0 : List (Int × Int × Int)) (x1 : List (Int × Int × Int)) : Int × List (Int × Int × Int) × List (Int × Int × Int) :=
  ((0 : Int), x0, x1)

def laws_eqSensorFaultS_0 (x0 : List (Int × Int × Int)) (x1 : List (Int × Int × Int)) : Bool :=
  bif laws_eqSensorFaultS_a0 x0 x1 then false
  else bif Nat.beq (Prod.fst (Lp.res lp_laws_eqSensorFaultS_l0 (laws_eqSensorFaultS_a1 x0 x1))) (0 : Nat) then false else true

def laws_eqSensorFaultS_1 (x0 : List (Int × Int × Int)) (x1 : List (Int × Int × Int)) : Bool :=
  allT [laws_eqSensorFaultS_a0 x0 x1 || Lp.fin lp_laws_eqSensorFaultS_l0 (laws_eqSensorFaultS_a1 x0 x1)]

def F_laws_eqSensorFaultS : List SV → List Entry → Option Out
  | [.one ⟨false, [.ref 0]⟩, .one ⟨false, [.ref 1]⟩], [.row false 78 (.pair (.int .i64) (.pair (.int .i64) (.int .i64))) x0, .row false 78 (.pair (.int .i64) (.pair (.int .i64) (.int .i64))) x1] => some ⟨(.one ⟨false, [(.val (.bool (laws_eqSensorFaultS_0 x0 x1)))]⟩), [(.row false 78 (CTy.pair (CTy.int IntKind.i64) (CTy.pair (CTy.int IntKind.i64) (CTy.int IntKind.i64))) x0), (.row false 78 (CTy.pair (CTy.int IntKind.i64) (CTy.pair (CTy.int IntKind.i64) (CTy.int IntKind.i64))) x1)], [], [(laws_eqSensorFaultS_1 x0 x1)]⟩
  | _, _ => none

def p_laws_eqSensorFaultS : PF Tryz.prog := PF.ofG Tryz.prog [p_laws_eqSensorFault] [lp_laws_eqSensorFaultS_l0.F] hmix 30 Tryz.f30 Tryz.func30 (LOk.fnT (l := [loopAt Tryz.f30 0]) (by kernel_rfl) (.cons lpok_laws_eqSensorFaultS_l0 (.nil _))) F_laws_eqSensorFaultS (by
  intro vs es r h; unfold F_laws_eqSensorFaultS at h; split at h
  · cases h; kernel_rfl
  · cases h)

end Go.SX

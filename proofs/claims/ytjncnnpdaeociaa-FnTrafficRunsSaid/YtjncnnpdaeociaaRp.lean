/- What functions of the program come to, row by row (made by a program of the workplace). -/
import Derived.Test.YtjncnnpdaeociaaTXh
import Derived.Test.YtjncnnpdaeociaaProg
import Derived.Test.YtjncnnpdaeociaaNn
namespace Go.SX
open Go.Proofs
set_option maxRecDepth 100000

def spec_IsReplayEvent_0 (x0 : Int) (x1 : Int) (x2 : Int) (x3 : Int) (x4 : List Int) : Bool :=
  bif !isT x0 x4 then false
  else
  bif x1 == (0 : Int) then
    bif spec_l01In_0 x2 (0 : Int) (IntKind.wrap IntKind.i64 ((↑(List.length x4) : Int) - (1 : Int))) then x3 == (0 : Int) else false
  else
    bif x1 == (1 : Int) then
      bif spec_l01In_0 x2 (0 : Int) (IntKind.wrap IntKind.i64 (x0 - (1 : Int))) then spec_l01In_0 x3 (1 : Int) (3 : Int) else false
    else false

def F_spec_IsReplayEvent : List SV → List Entry → Option Out
  | [.one ⟨true, [.val (.int .i64 x0), .ref 0]⟩, .one ⟨true, [.val (.int .i64 x1), .val (.int .i64 x2), .val (.int .i64 x3)]⟩], [.row false 2 (.int .i64) x4] => some ⟨(.one ⟨false, [(.val (.bool (spec_IsReplayEvent_0 x0 x1 x2 x3 x4)))]⟩), [(.row false 2 (CTy.int IntKind.i64) x4)], [], []⟩
  | _, _ => none

def p_spec_IsReplayEvent : PF Try.prog := PF.ofG Try.prog [n_spec_IsTraffic, PF.lend n_spec_IsTraffic, PF.fz n_spec_IsTraffic, p_spec_l01In] [] hmix 166 Try.f166 Try.func166 (fun c _ => LOk.nil c) F_spec_IsReplayEvent (by
  intro vs es r h; unfold F_spec_IsReplayEvent at h; split at h
  · cases h; kernel_rfl
  · cases h)

abbrev X_spec_l25Code_l0 := Int × List (Int × (Int × Int)) × Int × List Int

def spec_l25Code_l0_a0 (y0 : Int) (y1 : List (Int × (Int × Int))) : Int × Int × Int :=
  Option.getD y1[Int.toNat y0]? ((0 : Int), (0 : Int), (0 : Int))

def spec_l25Code_l0_0 (y0 : Int) (y1 : List (Int × (Int × Int))) : Bool :=
  ltI y0 (↑(List.length y1) : Int)

def spec_l25Code_l0_1 (y0 : Int) : Bool :=
  leI (0 : Int) y0

def spec_l25Code_l0_2 (y0 : Int) (y1 : List (Int × (Int × Int))) : Bool :=
  ltN (Int.toNat y0) (List.length y1)

def spec_l25Code_l0_3 (y0 : Int) (y1 : List (Int × (Int × Int))) (y2 : Int) (y3 : List Int) : Bool :=
  !spec_IsReplayEvent_0 y2 (Prod.fst (spec_l25Code_l0_a0 y0 y1)) (Prod.fst (Prod.snd (spec_l25Code_l0_a0 y0 y1)))
    (Prod.snd (Prod.snd (spec_l25Code_l0_a0 y0 y1))) y3

def spec_l25Code_l0_4 (y0 : Int) : Int :=
  IntKind.wrap IntKind.i64 (y0 + (1 : Int))

def JL_spec_l25Code_l0 : X_spec_l25Code_l0 → List (Nat × SV)
  | (y0, _, _, _) => [(5, (.one ⟨false, [(.val (.int IntKind.i64 y0))]⟩)), (1, (.one ⟨false, [(.ref 0)]⟩)), (2, (.one ⟨false, [(.ptr 1 0)]⟩))]

def JE_spec_l25Code_l0 : X_spec_l25Code_l0 → List (Nat × Entry)
  | (_, y1, y2, y3) => [(0, (.row false 129 (CTy.pair (CTy.int IntKind.i64) (CTy.pair (CTy.int IntKind.i64) (CTy.int IntKind.i64))) y1)), (1, (.box 26 [(.val (.int IntKind.i64 y2)), (.ref 2)])), (2, (.row false 2 (CTy.int IntKind.i64) y3))]

def XL_spec_l25Code_l0 : Nat → X_spec_l25Code_l0 → List (Nat × SV)
  | 0, (_, _, _, _) => [(4, (.one ⟨false, [(.val (.int IntKind.i64 (2 : Int)))]⟩))]
  | _, (_, _, _, _) => []

def XE_spec_l25Code_l0 : Nat → X_spec_l25Code_l0 → List (Nat × Entry)
  | 0, (_, y1, y2, y3) => [(0, (.row false 129 (CTy.pair (CTy.int IntKind.i64) (CTy.pair (CTy.int IntKind.i64) (CTy.int IntKind.i64))) y1)), (1, (.box 26 [(.val (.int IntKind.i64 y2)), (.ref 2)])), (2, (.row false 2 (CTy.int IntKind.i64) y3))]
  | _, (_, y1, y2, y3) => [(0, (.row false 129 (CTy.pair (CTy.int IntKind.i64) (CTy.pair (CTy.int IntKind.i64) (CTy.int IntKind.i64))) y1)), (1, (.box 26 [(.val (.int IntKind.i64 y2)), (.ref 2)])), (2, (.row false 2 (CTy.int IntKind.i64) y3))]

def lt_spec_l25Code_l0 : X_spec_l25Code_l0 → LT X_spec_l25Code_l0
  | (y0, y1, y2, y3) => .ite (spec_l25Code_l0_0 y0 y1) (.need [(spec_l25Code_l0_1 y0), (spec_l25Code_l0_0 y0 y1), (spec_l25Code_l0_2 y0 y1)] (.ite (spec_l25Code_l0_3 y0 y1 y2 y3) (.ext 0 [(0, 0), (1, 1), (2, 2)]) (.nrm ((spec_l25Code_l0_4 y0), y1, y2, y3) [(0, 0), (1, 1), (2, 2)]))) (.ext 1 [(0, 0), (1, 1), (2, 2)])

def rd_spec_l25Code_l0 (s : St) : Option X_spec_l25Code_l0 :=
  (match s.look 5 with
  | some ⟨none, (.one ⟨false, [(.val (.int IntKind.i64 y0))]⟩)⟩ =>
  (match s.look 1 with
  | some ⟨none, (.one ⟨false, [(.ref 1)]⟩)⟩ =>
  (match s.look 2 with
  | some ⟨none, (.one ⟨false, [(.ptr 192 0)]⟩)⟩ =>
  (match s.ent 1 with
  | some (.row false 129 (CTy.pair (CTy.int IntKind.i64) (CTy.pair (CTy.int IntKind.i64) (CTy.int IntKind.i64))) y1) =>
  (match s.ent 192 with
  | some (.box 26 [(.val (.int IntKind.i64 y2)), (.ref 0)]) =>
  (match s.ent 0 with
  | some (.row false 2 (CTy.int IntKind.i64) y3) =>
  some (y0, y1, y2, y3)
  | _ => none)
  | _ => none)
  | _ => none)
  | _ => none)
  | _ => none)
  | _ => none)

def lp_spec_l25Code_l0 : Lp X_spec_l25Code_l0 where
  h := ⟨[12, 13, 14, 15, 18, 19, 20, 21, 22, 23, 24, 4, 16, 17, 5], [0, 1, 2], [], []⟩
  JL := JL_spec_l25Code_l0
  JE := JE_spec_l25Code_l0
  XL := XL_spec_l25Code_l0
  XE := XE_spec_l25Code_l0
  q := fun j => match j with | 0 => .ret | _ => .exit 0
  tags := [0, 1]
  lt := lt_spec_l25Code_l0
  fuel := fun (y0, y1, y2, y3) => y0.natAbs + y1.length + y2.natAbs + y3.length
  fix := fun (_, y1, y2, y3) (y0, _, _, _) => (y0, y1, y2, y3)
  σ := [(0, 1), (1, 192), (2, 0)]
  rd := rd_spec_l25Code_l0

theorem lpok_spec_l25Code_l0 : LoopOk Try.prog (fun k => Nat.blt k Try.f143.ntmps) lp_spec_l25Code_l0.F (loopAt Try.f143 0) := by
  refine Lp.ok (tbl := [p_spec_IsReplayEvent, PF.lend p_spec_IsReplayEvent, PF.fz p_spec_IsReplayEvent, n_spec_IsTraffic, PF.lend n_spec_IsTraffic, PF.fz n_spec_IsTraffic]) (lf := []) hmix lp_spec_l25Code_l0 (by kernel_rfl) (LOk.nil _) (fun _ => rfl) (fun j _ => by unfold lp_spec_l25Code_l0; match j with | 0 => rfl | _ + 1 => rfl) ?_ ?_ ?_ ?_ (fun _ => rfl) ?_
  · intro x; obtain ⟨y0, y1, y2, y3⟩ := x; kernel_rfl
  · intro x; obtain ⟨y0, y1, y2, y3⟩ := x; kernel_rfl
  · intro s x h
    have h : rd_spec_l25Code_l0 s = some x := h
    unfold rd_spec_l25Code_l0 at h
    repeat' split at h
    all_goals cases h
    exact ⟨absS_cons (by assumption) rfl (absS_cons (by assumption) rfl (absS_cons (by assumption) rfl (rfl))), absE_cons rfl (by assumption) rfl (absE_cons rfl (by assumption) rfl (absE_cons rfl (by assumption) rfl (rfl)))⟩
  · intro x; obtain ⟨y0, y1, y2, y3⟩ := x; kernel_rfl
  · intro x z; obtain ⟨y0, y1, y2, y3⟩ := x; exact (And.intro (And.intro trivial rfl) trivial)

def spec_l25Code_a0 (x2 : List (Int × Int × Int)) : Bool :=
  ltI (200 : Int) (↑(List.length x2) : Int)

def spec_l25Code_a1 (x0 : Int) (x1 : List Int) (x2 : List (Int × Int × Int)) : Int × List (Int × Int × Int) × Int × List Int :=
  ((0 : Int), x2, x0, x1)

def spec_l25Code_0 (x0 : Int) (x1 : List Int) (x2 : List (Int × Int × Int)) : Int :=
  bif !isT x0 x1 then (1 : Int)
  else
  bif spec_l25Code_a0 x2 then (3 : Int)
  else bif Nat.beq (Prod.fst (Lp.res lp_spec_l25Code_l0 (spec_l25Code_a1 x0 x1 x2))) (0 : Nat) then (2 : Int) else (0 : Int)

def spec_l25Code_1 (x0 : Int) (x1 : List Int) (x2 : List (Int × Int × Int)) : Bool :=
  allT [!isT x0 x1 || (spec_l25Code_a0 x2 || Lp.fin lp_spec_l25Code_l0 (spec_l25Code_a1 x0 x1 x2))]

def F_spec_l25Code : List SV → List Entry → Option Out
  | [.one ⟨true, [.val (.int .i64 x0), .ref 0]⟩, .one ⟨false, [.ref 1]⟩], [.row false 2 (.int .i64) x1, .row false 129 (.pair (.int .i64) (.pair (.int .i64) (.int .i64))) x2] => some ⟨(.one ⟨false, [(.val (.int IntKind.i64 (spec_l25Code_0 x0 x1 x2)))]⟩), [(.row false 2 (CTy.int IntKind.i64) x1), (.row false 129 (CTy.pair (CTy.int IntKind.i64) (CTy.pair (CTy.int IntKind.i64) (CTy.int IntKind.i64))) x2)], [], [(spec_l25Code_1 x0 x1 x2)]⟩
  | _, _ => none

def p_spec_l25Code : PF Try.prog := PF.ofG Try.prog [p_spec_IsReplayEvent, PF.lend p_spec_IsReplayEvent, PF.fz p_spec_IsReplayEvent, n_spec_IsTraffic, PF.lend n_spec_IsTraffic, PF.fz n_spec_IsTraffic] [lp_spec_l25Code_l0.F] hmix 143 Try.f143 Try.func143 (LOk.fnT (l := [loopAt Try.f143 0]) (by kernel_rfl) (.cons lpok_spec_l25Code_l0 (.nil _))) F_spec_l25Code (by
  intro vs es r h; unfold F_spec_l25Code at h; split at h
  · cases h; kernel_rfl
  · cases h)

def spec_l24Faults_a0 (x0 : Int) : Int × Int × Int :=
  (x0, (0 : Int), (0 : Int))

def spec_l24Faults_0 (x0 : Int) (x1 : Int) : List (Int × (Int × Int)) :=
  bif x1 == (1 : Int) then [spec_l24Faults_a0 x0]
  else bif x1 == (2 : Int) then [(x0, (1 : Int), (1 : Int))] else bif x1 == (3 : Int) then [spec_l24Faults_a0 x0, (x0, (1 : Int), (0 : Int))] else []

def F_spec_l24Faults : List SV → List Entry → Option Out
  | [.one ⟨false, [.val (.int .i64 x0)]⟩, .one ⟨false, [.val (.int .i64 x1)]⟩], [] => some ⟨(.one ⟨false, [(.ref 0)]⟩), [], [(.row true 118 (CTy.pair (CTy.int IntKind.i64) (CTy.pair (CTy.int IntKind.i64) (CTy.int IntKind.i64))) (spec_l24Faults_0 x0 x1))], []⟩
  | _, _ => none

def p_spec_l24Faults : PF Try.prog := PF.ofG Try.prog [] [] hmix 167 Try.f167 Try.func167 (fun c _ => LOk.nil c) F_spec_l24Faults (by
  intro vs es r h; unfold F_spec_l24Faults at h; split at h
  · cases h; kernel_rfl
  · cases h)

abbrev X_spec_l25Faults_l0 := Int × List Int × List (Int × (Int × Int))

def spec_l25Faults_l0_a0 (y0 : Int) (y1 : List Int) : List (Int × Int × Int) :=
  spec_l24Faults_0 y0 (Option.getD y1[Int.toNat y0]? (0 : Int))

def spec_l25Faults_l0_0 (y0 : Int) (y1 : List Int) : Bool :=
  ltI y0 (↑(List.length y1) : Int)

def spec_l25Faults_l0_1 (y0 : Int) : Bool :=
  leI (0 : Int) y0

def spec_l25Faults_l0_2 (y0 : Int) (y1 : List Int) : Bool :=
  ltN (Int.toNat y0) (List.length y1)

def spec_l25Faults_l0_3 (y0 : Int) (y1 : List Int) (y2 : List (Int × (Int × Int))) : Bool :=
  leN (List.length y2 + List.length (spec_l25Faults_l0_a0 y0 y1)) (9223372036854775807 : Nat)

def spec_l25Faults_l0_4 (y0 : Int) (y1 : List Int) (y2 : List (Int × (Int × Int))) : Bool :=
  leN ((List.length y2 + List.length (spec_l25Faults_l0_a0 y0 y1)) * (24 : Nat)) (140737488355328 : Nat)

def spec_l25Faults_l0_5 (y0 : Int) : Int :=
  IntKind.wrap IntKind.i64 (y0 + (1 : Int))

def spec_l25Faults_l0_6 (y0 : Int) (y1 : List Int) (y2 : List (Int × (Int × Int))) : List (Int × (Int × Int)) :=
  y2 ++ spec_l25Faults_l0_a0 y0 y1

def JL_spec_l25Faults_l0 : X_spec_l25Faults_l0 → List (Nat × SV)
  | (y0, _, _) => [(4, (.one ⟨false, [(.val (.int IntKind.i64 y0))]⟩)), (0, (.one ⟨false, [(.ref 0)]⟩)), (3, (.one ⟨false, [(.ref 1)]⟩))]

def JE_spec_l25Faults_l0 : X_spec_l25Faults_l0 → List (Nat × Entry)
  | (_, y1, y2) => [(0, (.row false 2 (CTy.int IntKind.i64) y1)), (1, (.row true 118 (CTy.pair (CTy.int IntKind.i64) (CTy.pair (CTy.int IntKind.i64) (CTy.int IntKind.i64))) y2))]

def XL_spec_l25Faults_l0 : Nat → X_spec_l25Faults_l0 → List (Nat × SV)
  | _, (_, _, _) => [(3, (.one ⟨false, [(.ref 1)]⟩))]

def XE_spec_l25Faults_l0 : Nat → X_spec_l25Faults_l0 → List (Nat × Entry)
  | _, (_, y1, y2) => [(0, (.row false 2 (CTy.int IntKind.i64) y1)), (1, (.row true 118 (CTy.pair (CTy.int IntKind.i64) (CTy.pair (CTy.int IntKind.i64) (CTy.int IntKind.i64))) y2))]

def lt_spec_l25Faults_l0 : X_spec_l25Faults_l0 → LT X_spec_l25Faults_l0
  | (y0, y1, y2) => .ite (spec_l25Faults_l0_0 y0 y1) (.need [(spec_l25Faults_l0_1 y0), (spec_l25Faults_l0_0 y0 y1), (spec_l25Faults_l0_2 y0 y1), (spec_l25Faults_l0_3 y0 y1 y2), (spec_l25Faults_l0_4 y0 y1 y2)] (.nrm ((spec_l25Faults_l0_5 y0), y1, (spec_l25Faults_l0_6 y0 y1 y2)) [(0, 0), (1, 768)])) (.ext 0 [(0, 0), (1, 1)])

def rd_spec_l25Faults_l0 (s : St) : Option X_spec_l25Faults_l0 :=
  (match s.look 4 with
  | some ⟨none, (.one ⟨false, [(.val (.int IntKind.i64 y0))]⟩)⟩ =>
  (match s.look 0 with
  | some ⟨none, (.one ⟨false, [(.ref 0)]⟩)⟩ =>
  (match s.look 3 with
  | some ⟨none, (.one ⟨false, [(.ref 192)]⟩)⟩ =>
  (match s.ent 0 with
  | some (.row false 2 (CTy.int IntKind.i64) y1) =>
  (match s.ent 192 with
  | some (.row true 118 (CTy.pair (CTy.int IntKind.i64) (CTy.pair (CTy.int IntKind.i64) (CTy.int IntKind.i64))) y2) =>
  some (y0, y1, y2)
  | _ => none)
  | _ => none)
  | _ => none)
  | _ => none)
  | _ => none)

def lp_spec_l25Faults_l0 : Lp X_spec_l25Faults_l0 where
  h := ⟨[6, 7, 8, 9, 12, 13, 14, 15, 16, 17, 18, 19, 3, 10, 11, 4], [0], [1], []⟩
  JL := JL_spec_l25Faults_l0
  JE := JE_spec_l25Faults_l0
  XL := XL_spec_l25Faults_l0
  XE := XE_spec_l25Faults_l0
  q := fun j => match j with | _ => .exit 0
  tags := [0]
  lt := lt_spec_l25Faults_l0
  fuel := fun (y0, y1, y2) => y0.natAbs + y1.length + y2.length
  fix := fun (_, y1, _) (y0, _, y2) => (y0, y1, y2)
  σ := [(0, 0), (1, 192)]
  rd := rd_spec_l25Faults_l0

theorem lpok_spec_l25Faults_l0 : LoopOk Try.prog (fun k => Nat.blt k Try.f144.ntmps) lp_spec_l25Faults_l0.F (loopAt Try.f144 0) := by
  refine Lp.ok (tbl := [p_spec_l24Faults]) (lf := []) hmix lp_spec_l25Faults_l0 (by kernel_rfl) (LOk.nil _) (fun _ => rfl) (fun _ _ => rfl) ?_ ?_ ?_ ?_ (fun _ => rfl) ?_
  · intro x; obtain ⟨y0, y1, y2⟩ := x; kernel_rfl
  · intro x; obtain ⟨y0, y1, y2⟩ := x; kernel_rfl
  · intro s x h
    have h : rd_spec_l25Faults_l0 s = some x := h
    unfold rd_spec_l25Faults_l0 at h
    repeat' split at h
    all_goals cases h
    exact ⟨absS_cons (by assumption) rfl (absS_cons (by assumption) rfl (absS_cons (by assumption) rfl (rfl))), absE_cons rfl (by assumption) rfl (absE_cons rfl (by assumption) rfl (rfl))⟩
  · intro x; obtain ⟨y0, y1, y2⟩ := x; kernel_rfl
  · intro x z; obtain ⟨y0, y1, y2⟩ := x; exact (And.intro rfl trivial)

def spec_l25Faults_a0 (x0 : List Int) : Int × List Int × List (Int × Int × Int) :=
  ((0 : Int), x0, [])

def spec_l25Faults_0 (x0 : List Int) : List (Int × (Int × Int)) :=
  Prod.snd (Prod.snd (Prod.snd (Lp.res lp_spec_l25Faults_l0 (spec_l25Faults_a0 x0))))

def spec_l25Faults_1 (x0 : List Int) : Bool :=
  allT [Lp.fin lp_spec_l25Faults_l0 (spec_l25Faults_a0 x0)]

def F_spec_l25Faults : List SV → List Entry → Option Out
  | [.one ⟨false, [.ref 0]⟩], [.row false 2 (.int .i64) x0] => some ⟨(.one ⟨false, [(.ref 1)]⟩), [(.row false 2 (CTy.int IntKind.i64) x0)], [(.row true 118 (CTy.pair (CTy.int IntKind.i64) (CTy.pair (CTy.int IntKind.i64) (CTy.int IntKind.i64))) (spec_l25Faults_0 x0))], [(spec_l25Faults_1 x0)]⟩
  | _, _ => none

def p_spec_l25Faults : PF Try.prog := PF.ofG Try.prog [p_spec_l24Faults] [lp_spec_l25Faults_l0.F] hmix 144 Try.f144 Try.func144 (LOk.fnT (l := [loopAt Try.f144 0]) (by kernel_rfl) (.cons lpok_spec_l25Faults_l0 (.nil _))) F_spec_l25Faults (by
  intro vs es r h; unfold F_spec_l25Faults at h; split at h
  · cases h; kernel_rfl
  · cases h)

def loop_example_g00916_impl_Traffic_isEvent_q1603_0 (x0 : Int) (x1 : Int) (x2 : Int) (x3 : Int) (x4 : List Int) : Bool :=
  bif x1 == (0 : Int) then bif hasT x4 x2 then x3 == (0 : Int) else false
  else
  bif x1 == (1 : Int) then
    bif impl_within_0 x2 (0 : Int) (IntKind.wrap IntKind.i64 (x0 - (1 : Int))) then impl_within_0 x3 (1 : Int) (3 : Int) else false
  else false

def loop_example_g00916_impl_Traffic_isEvent_q1603_1 (x1 : Int) (x4 : List Int) : Bool :=
  allT [!x1 == (0 : Int) || leN (List.length x4) (9223372036854775807 : Nat)]

def F_loop_example_g00916_impl_Traffic_isEvent_q1603 : List SV → List Entry → Option Out
  | [(.one ⟨true, [(.val (.int IntKind.i64 x0)), (.ref 0)]⟩), (.one ⟨true, [(.val (.int IntKind.i64 x1)), (.val (.int IntKind.i64 x2)), (.val (.int IntKind.i64 x3))]⟩)], [(.row false 2 (CTy.int IntKind.i64) x4)] => some ⟨(.one ⟨false, [(.val (.bool (loop_example_g00916_impl_Traffic_isEvent_q1603_0 x0 x1 x2 x3 x4)))]⟩), [(.row false 2 (CTy.int IntKind.i64) x4)], [], [(loop_example_g00916_impl_Traffic_isEvent_q1603_1 x1 x4)]⟩
  | _, _ => none

def p_loop_example_g00916_impl_Traffic_isEvent_q1603 : PF Try.prog := PF.ofG Try.prog [n_loop_example_g00916_impl_Traffic_hasTrain, PF.lend n_loop_example_g00916_impl_Traffic_hasTrain, PF.fz n_loop_example_g00916_impl_Traffic_hasTrain, p_impl_within] [] hmix 170 Try.f170 Try.func170 (fun c _ => LOk.nil c) F_loop_example_g00916_impl_Traffic_isEvent_q1603 (by
  intro vs es r h; unfold F_loop_example_g00916_impl_Traffic_isEvent_q1603 at h; split at h
  · cases h; kernel_rfl
  · cases h)

def impl_replayCode_1_q1602_0 (x0 : Int) (x1 : Int) (x2 : Int) (x3 : Int) (x4 : List Int) : Bool :=
  !loop_example_g00916_impl_Traffic_isEvent_q1603_0 x3 x0 x1 x2 x4

def impl_replayCode_1_q1602_1 (x0 : Int) (x4 : List Int) : Bool :=
  allT [loop_example_g00916_impl_Traffic_isEvent_q1603_1 x0 x4]

def F_impl_replayCode_1_q1602 : List SV → List Entry → Option Out
  | [(.one ⟨true, [(.val (.int IntKind.i64 x0)), (.val (.int IntKind.i64 x1)), (.val (.int IntKind.i64 x2))]⟩), (.one ⟨false, [(.ptr 0 0)]⟩)], [(.box 26 [(.val (.int IntKind.i64 x3)), (.ref 1)]), (.row false 2 (CTy.int IntKind.i64) x4)] => some ⟨(.one ⟨false, [(.val (.bool (impl_replayCode_1_q1602_0 x0 x1 x2 x3 x4)))]⟩), [(.box 26 [(.val (.int IntKind.i64 x3)), (.ref 1)]), (.row false 2 (CTy.int IntKind.i64) x4)], [], [(impl_replayCode_1_q1602_1 x0 x4)]⟩
  | _, _ => none

def p_impl_replayCode_1_q1602 : PF Try.prog := PF.ofG Try.prog [p_loop_example_g00916_impl_Traffic_isEvent_q1603, PF.lend p_loop_example_g00916_impl_Traffic_isEvent_q1603, PF.fz p_loop_example_g00916_impl_Traffic_isEvent_q1603] [] hmix 169 Try.f169 Try.func169 (fun c _ => LOk.nil c) F_impl_replayCode_1_q1602 (by
  intro vs es r h; unfold F_impl_replayCode_1_q1602 at h; split at h
  · cases h; kernel_rfl
  · cases h)

abbrev X_slices_IndexFunc_impl_ReplayEvent_q1601_l0 := Int × Int × Int × List (Int × (Int × Int)) × List Int

def slices_IndexFunc_impl_ReplayEvent_q1601_l0_a0 (y0 : Int) (y3 : List (Int × (Int × Int))) : Int × Int × Int :=
  Option.getD y3[Int.toNat y0]? ((0 : Int), (0 : Int), (0 : Int))

def slices_IndexFunc_impl_ReplayEvent_q1601_l0_0 (y0 : Int) (y1 : Int) : Bool :=
  ltI y0 y1

def slices_IndexFunc_impl_ReplayEvent_q1601_l0_1 (y0 : Int) : Bool :=
  leI (0 : Int) y0

def slices_IndexFunc_impl_ReplayEvent_q1601_l0_2 (y0 : Int) (y3 : List (Int × (Int × Int))) : Bool :=
  ltI y0 (↑(List.length y3) : Int)

def slices_IndexFunc_impl_ReplayEvent_q1601_l0_3 (y0 : Int) (y3 : List (Int × (Int × Int))) : Bool :=
  ltN (Int.toNat y0) (List.length y3)

def slices_IndexFunc_impl_ReplayEvent_q1601_l0_4 (y0 : Int) (y3 : List (Int × (Int × Int))) (y4 : List Int) : Bool :=
  impl_replayCode_1_q1602_1 (Prod.fst (slices_IndexFunc_impl_ReplayEvent_q1601_l0_a0 y0 y3)) y4

def slices_IndexFunc_impl_ReplayEvent_q1601_l0_5 (y0 : Int) (y2 : Int) (y3 : List (Int × (Int × Int))) (y4 : List Int) : Bool :=
  impl_replayCode_1_q1602_0 (Prod.fst (slices_IndexFunc_impl_ReplayEvent_q1601_l0_a0 y0 y3))
  (Prod.fst (Prod.snd (slices_IndexFunc_impl_ReplayEvent_q1601_l0_a0 y0 y3)))
  (Prod.snd (Prod.snd (slices_IndexFunc_impl_ReplayEvent_q1601_l0_a0 y0 y3))) y2 y4

def slices_IndexFunc_impl_ReplayEvent_q1601_l0_6 (y0 : Int) : Int :=
  IntKind.wrap IntKind.i64 (y0 + (1 : Int))

def JL_slices_IndexFunc_impl_ReplayEvent_q1601_l0 : X_slices_IndexFunc_impl_ReplayEvent_q1601_l0 → List (Nat × SV)
  | (y0, y1, _, _, _) => [(8, (.one ⟨false, [(.val (.int IntKind.i64 y0))]⟩)), (7, (.one ⟨false, [(.val (.int IntKind.i64 y1))]⟩)), (1, (.one ⟨false, [(.clo 169 [0])]⟩)), (0, (.one ⟨false, [(.ref 1)]⟩))]

def JE_slices_IndexFunc_impl_ReplayEvent_q1601_l0 : X_slices_IndexFunc_impl_ReplayEvent_q1601_l0 → List (Nat × Entry)
  | (_, _, y2, y3, y4) => [(0, (.box 26 [(.val (.int IntKind.i64 y2)), (.ref 2)])), (1, (.row false 129 (CTy.pair (CTy.int IntKind.i64) (CTy.pair (CTy.int IntKind.i64) (CTy.int IntKind.i64))) y3)), (2, (.row false 2 (CTy.int IntKind.i64) y4))]

def XL_slices_IndexFunc_impl_ReplayEvent_q1601_l0 : Nat → X_slices_IndexFunc_impl_ReplayEvent_q1601_l0 → List (Nat × SV)
  | 0, (y0, _, _, _, _) => [(4, (.one ⟨false, [(.val (.int IntKind.i64 y0))]⟩))]
  | _, (_, _, _, _, _) => []

def XE_slices_IndexFunc_impl_ReplayEvent_q1601_l0 : Nat → X_slices_IndexFunc_impl_ReplayEvent_q1601_l0 → List (Nat × Entry)
  | 0, (_, _, y2, y3, y4) => [(0, (.box 26 [(.val (.int IntKind.i64 y2)), (.ref 2)])), (1, (.row false 129 (CTy.pair (CTy.int IntKind.i64) (CTy.pair (CTy.int IntKind.i64) (CTy.int IntKind.i64))) y3)), (2, (.row false 2 (CTy.int IntKind.i64) y4))]
  | _, (_, _, y2, y3, y4) => [(0, (.box 26 [(.val (.int IntKind.i64 y2)), (.ref 2)])), (1, (.row false 129 (CTy.pair (CTy.int IntKind.i64) (CTy.pair (CTy.int IntKind.i64) (CTy.int IntKind.i64))) y3)), (2, (.row false 2 (CTy.int IntKind.i64) y4))]

def lt_slices_IndexFunc_impl_ReplayEvent_q1601_l0 : X_slices_IndexFunc_impl_ReplayEvent_q1601_l0 → LT X_slices_IndexFunc_impl_ReplayEvent_q1601_l0
  | (y0, y1, y2, y3, y4) => .ite (slices_IndexFunc_impl_ReplayEvent_q1601_l0_0 y0 y1) (.need [(slices_IndexFunc_impl_ReplayEvent_q1601_l0_1 y0), (slices_IndexFunc_impl_ReplayEvent_q1601_l0_2 y0 y3), (slices_IndexFunc_impl_ReplayEvent_q1601_l0_3 y0 y3), (slices_IndexFunc_impl_ReplayEvent_q1601_l0_4 y0 y3 y4)] (.ite (slices_IndexFunc_impl_ReplayEvent_q1601_l0_5 y0 y2 y3 y4) (.ext 0 [(0, 0), (1, 1), (2, 2)]) (.nrm ((slices_IndexFunc_impl_ReplayEvent_q1601_l0_6 y0), y1, y2, y3, y4) [(0, 0), (1, 1), (2, 2)]))) (.ext 1 [(0, 0), (1, 1), (2, 2)])

def rd_slices_IndexFunc_impl_ReplayEvent_q1601_l0 (s : St) : Option X_slices_IndexFunc_impl_ReplayEvent_q1601_l0 :=
  (match s.look 8 with
  | some ⟨none, (.one ⟨false, [(.val (.int IntKind.i64 y0))]⟩)⟩ =>
  (match s.look 7 with
  | some ⟨none, (.one ⟨false, [(.val (.int IntKind.i64 y1))]⟩)⟩ =>
  (match s.look 1 with
  | some ⟨none, (.one ⟨false, [(.clo 169 [1])]⟩)⟩ =>
  (match s.look 0 with
  | some ⟨none, (.one ⟨false, [(.ref 0)]⟩)⟩ =>
  (match s.ent 1 with
  | some (.box 26 [(.val (.int IntKind.i64 y2)), (.ref 2)]) =>
  (match s.ent 0 with
  | some (.row false 129 (CTy.pair (CTy.int IntKind.i64) (CTy.pair (CTy.int IntKind.i64) (CTy.int IntKind.i64))) y3) =>
  (match s.ent 2 with
  | some (.row false 2 (CTy.int IntKind.i64) y4) =>
  some (y0, y1, y2, y3, y4)
  | _ => none)
  | _ => none)
  | _ => none)
  | _ => none)
  | _ => none)
  | _ => none)
  | _ => none)

def lp_slices_IndexFunc_impl_ReplayEvent_q1601_l0 : Lp X_slices_IndexFunc_impl_ReplayEvent_q1601_l0 where
  h := ⟨[9, 10, 5, 11, 12, 13, 14, 15, 16, 17, 4, 18, 8], [0, 1, 2], [], []⟩
  JL := JL_slices_IndexFunc_impl_ReplayEvent_q1601_l0
  JE := JE_slices_IndexFunc_impl_ReplayEvent_q1601_l0
  XL := XL_slices_IndexFunc_impl_ReplayEvent_q1601_l0
  XE := XE_slices_IndexFunc_impl_ReplayEvent_q1601_l0
  q := fun j => match j with | 0 => .ret | _ => .exit 0
  tags := [0, 1]
  lt := lt_slices_IndexFunc_impl_ReplayEvent_q1601_l0
  fuel := fun (y0, y1, y2, y3, y4) => y0.natAbs + y1.natAbs + y2.natAbs + y3.length + y4.length
  fix := fun (_, y1, y2, y3, y4) (y0, _, _, _, _) => (y0, y1, y2, y3, y4)
  σ := [(0, 1), (1, 0), (2, 2)]
  rd := rd_slices_IndexFunc_impl_ReplayEvent_q1601_l0

theorem lpok_slices_IndexFunc_impl_ReplayEvent_q1601_l0 : LoopOk Try.prog (fun k => Nat.blt k Try.f177.ntmps) lp_slices_IndexFunc_impl_ReplayEvent_q1601_l0.F (loopAt Try.f177 0) := by
  refine Lp.ok (tbl := [p_impl_replayCode_1_q1602, PF.lend p_impl_replayCode_1_q1602, PF.fz p_impl_replayCode_1_q1602]) (lf := []) hmix lp_slices_IndexFunc_impl_ReplayEvent_q1601_l0 (by kernel_rfl) (LOk.nil _) (fun _ => rfl) (fun j _ => by unfold lp_slices_IndexFunc_impl_ReplayEvent_q1601_l0; match j with | 0 => rfl | _ + 1 => rfl) ?_ ?_ ?_ ?_ (fun _ => rfl) ?_
  · intro x; obtain ⟨y0, y1, y2, y3, y4⟩ := x; kernel_rfl
  · intro x; obtain ⟨y0, y1, y2, y3, y4⟩ := x; kernel_rfl
  · intro s x h
    have h : rd_slices_IndexFunc_impl_ReplayEvent_q1601_l0 s = some x := h
    unfold rd_slices_IndexFunc_impl_ReplayEvent_q1601_l0 at h
    repeat' split at h
    all_goals cases h
    exact ⟨absS_cons (by assumption) rfl (absS_cons (by assumption) rfl (absS_cons (by assumption) rfl (absS_cons (by assumption) rfl (rfl)))), absE_cons rfl (by assumption) rfl (absE_cons rfl (by assumption) rfl (absE_cons rfl (by assumption) rfl (rfl)))⟩
  · intro x; obtain ⟨y0, y1, y2, y3, y4⟩ := x; kernel_rfl
  · intro x z; obtain ⟨y0, y1, y2, y3, y4⟩ := x; exact (And.intro (And.intro trivial rfl) trivial)

def slices_IndexFunc_impl_ReplayEvent_q1601_a0 (x0 : List (Int × Int × Int)) (x1 : Int) (x2 : List Int) : Int × Int × Int × List (Int × Int × Int) × List Int :=
  ((0 : Int), (↑(List.length x0) : Int), x1, x0, x2)

def slices_IndexFunc_impl_ReplayEvent_q1601_a1 (x0 : List (Int × Int × Int)) (x1 : Int) (x2 : List Int) : Bool :=
  Nat.beq (Prod.fst (Lp.res lp_slices_IndexFunc_impl_ReplayEvent_q1601_l0 (slices_IndexFunc_impl_ReplayEvent_q1601_a0 x0 x1 x2))) (0 : Nat)

def slices_IndexFunc_impl_ReplayEvent_q1601_0 (x0 : List (Int × Int × Int)) (x1 : Int) (x2 : List Int) : Int :=
  bif slices_IndexFunc_impl_ReplayEvent_q1601_a1 x0 x1 x2 then
  Prod.fst (Prod.snd (Lp.res lp_slices_IndexFunc_impl_ReplayEvent_q1601_l0 (slices_IndexFunc_impl_ReplayEvent_q1601_a0 x0 x1 x2)))
  else (-1 : Int)

def slices_IndexFunc_impl_ReplayEvent_q1601_1 (x0 : List (Int × Int × Int)) (x1 : Int) (x2 : List Int) : Int :=
  bif slices_IndexFunc_impl_ReplayEvent_q1601_a1 x0 x1 x2 then x1 else x1

def slices_IndexFunc_impl_ReplayEvent_q1601_2 (x0 : List (Int × Int × Int)) (x1 : Int) (x2 : List Int) : Bool :=
  allT [Lp.fin lp_slices_IndexFunc_impl_ReplayEvent_q1601_l0 (slices_IndexFunc_impl_ReplayEvent_q1601_a0 x0 x1 x2)]

def F_slices_IndexFunc_impl_ReplayEvent_q1601 : List SV → List Entry → Option Out
  | [(.one ⟨false, [(.ref 0)]⟩), (.one ⟨false, [(.clo 169 [1])]⟩)], [(.row false 129 (CTy.pair (CTy.int IntKind.i64) (CTy.pair (CTy.int IntKind.i64) (CTy.int IntKind.i64))) x0), (.box 26 [(.val (.int IntKind.i64 x1)), (.ref 2)]), (.row false 2 (CTy.int IntKind.i64) x2)] => some ⟨(.one ⟨false, [(.val (.int IntKind.i64 (slices_IndexFunc_impl_ReplayEvent_q1601_0 x0 x1 x2)))]⟩), [(.row false 129 (CTy.pair (CTy.int IntKind.i64) (CTy.pair (CTy.int IntKind.i64) (CTy.int IntKind.i64))) x0), (.box 26 [(.val (.int IntKind.i64 (slices_IndexFunc_impl_ReplayEvent_q1601_1 x0 x1 x2))), (.ref 2)]), (.row false 2 (CTy.int IntKind.i64) x2)], [], [(slices_IndexFunc_impl_ReplayEvent_q1601_2 x0 x1 x2)]⟩
  | _, _ => none

def p_slices_IndexFunc_impl_ReplayEvent_q1601 : PF Try.prog := PF.ofG Try.prog [p_impl_replayCode_1_q1602, PF.lend p_impl_replayCode_1_q1602, PF.fz p_impl_replayCode_1_q1602] [lp_slices_IndexFunc_impl_ReplayEvent_q1601_l0.F] hmix 177 Try.f177 Try.func177 (LOk.fnT (l := [loopAt Try.f177 0]) (by kernel_rfl) (.cons lpok_slices_IndexFunc_impl_ReplayEvent_q1601_l0 (.nil _))) F_slices_IndexFunc_impl_ReplayEvent_q1601 (by
  intro vs es r h; unfold F_slices_IndexFunc_impl_ReplayEvent_q1601 at h; split at h
  · cases h; kernel_rfl
  · cases h)

def slices_ContainsFunc_impl_ReplayEvent_q1600_0 (x0 : List (Int × Int × Int)) (x1 : Int) (x2 : List Int) : Bool :=
  leI (0 : Int) (slices_IndexFunc_impl_ReplayEvent_q1601_0 x0 x1 x2)

def slices_ContainsFunc_impl_ReplayEvent_q1600_1 (x0 : List (Int × Int × Int)) (x1 : Int) (x2 : List Int) : Int :=
  slices_IndexFunc_impl_ReplayEvent_q1601_1 x0 x1 x2

def slices_ContainsFunc_impl_ReplayEvent_q1600_2 (x0 : List (Int × Int × Int)) (x1 : Int) (x2 : List Int) : Bool :=
  allT [slices_IndexFunc_impl_ReplayEvent_q1601_2 x0 x1 x2]

def F_slices_ContainsFunc_impl_ReplayEvent_q1600 : List SV → List Entry → Option Out
  | [(.one ⟨false, [(.ref 0)]⟩), (.one ⟨false, [(.clo 169 [1])]⟩)], [(.row false 129 (CTy.pair (CTy.int IntKind.i64) (CTy.pair (CTy.int IntKind.i64) (CTy.int IntKind.i64))) x0), (.box 26 [(.val (.int IntKind.i64 x1)), (.ref 2)]), (.row false 2 (CTy.int IntKind.i64) x2)] => some ⟨(.one ⟨false, [(.val (.bool (slices_ContainsFunc_impl_ReplayEvent_q1600_0 x0 x1 x2)))]⟩), [(.row false 129 (CTy.pair (CTy.int IntKind.i64) (CTy.pair (CTy.int IntKind.i64) (CTy.int IntKind.i64))) x0), (.box 26 [(.val (.int IntKind.i64 (slices_ContainsFunc_impl_ReplayEvent_q1600_1 x0 x1 x2))), (.ref 2)]), (.row false 2 (CTy.int IntKind.i64) x2)], [], [(slices_ContainsFunc_impl_ReplayEvent_q1600_2 x0 x1 x2)]⟩
  | _, _ => none

def p_slices_ContainsFunc_impl_ReplayEvent_q1600 : PF Try.prog := PF.ofG Try.prog [p_slices_IndexFunc_impl_ReplayEvent_q1601, PF.lend p_slices_IndexFunc_impl_ReplayEvent_q1601, PF.fz p_slices_IndexFunc_impl_ReplayEvent_q1601] [] hmix 168 Try.f168 Try.func168 (fun c _ => LOk.nil c) F_slices_ContainsFunc_impl_ReplayEvent_q1600 (by
  intro vs es r h; unfold F_slices_ContainsFunc_impl_ReplayEvent_q1600 at h; split at h
  · cases h; kernel_rfl
  · cases h)

def impl_replayCode_a0 (x2 : List (Int × Int × Int)) : Bool :=
  ltI (200 : Int) (↑(List.length x2) : Int)

def impl_replayCode_0 (x0 : Int) (x1 : List Int) (x2 : List (Int × Int × Int)) : Int :=
  bif !isT x0 x1 then (1 : Int)
  else bif impl_replayCode_a0 x2 then (3 : Int) else bif slices_ContainsFunc_impl_ReplayEvent_q1600_0 x2 x0 x1 then (2 : Int) else (0 : Int)

def impl_replayCode_1 (x0 : Int) (x1 : List Int) (x2 : List (Int × Int × Int)) : Bool :=
  allT [!isT x0 x1 || (impl_replayCode_a0 x2 || slices_ContainsFunc_impl_ReplayEvent_q1600_2 x2 x0 x1)]

def F_impl_replayCode : List SV → List Entry → Option Out
  | [.one ⟨true, [.val (.int .i64 x0), .ref 0]⟩, .one ⟨false, [.ref 1]⟩], [.row false 2 (.int .i64) x1, .row false 129 (.pair (.int .i64) (.pair (.int .i64) (.int .i64))) x2] => some ⟨(.one ⟨false, [(.val (.int IntKind.i64 (impl_replayCode_0 x0 x1 x2)))]⟩), [(.row false 2 (CTy.int IntKind.i64) x1), (.row false 129 (CTy.pair (CTy.int IntKind.i64) (CTy.pair (CTy.int IntKind.i64) (CTy.int IntKind.i64))) x2)], [], [(impl_replayCode_1 x0 x1 x2)]⟩
  | _, _ => none

def p_impl_replayCode : PF Try.prog := PF.ofG Try.prog [n_impl_IsTraffic, PF.lend n_impl_IsTraffic, PF.fz n_impl_IsTraffic, p_slices_ContainsFunc_impl_ReplayEvent_q1600, PF.lend p_slices_ContainsFunc_impl_ReplayEvent_q1600, PF.fz p_slices_ContainsFunc_impl_ReplayEvent_q1600] [] hmix 145 Try.f145 Try.func145 (fun c _ => LOk.nil c) F_impl_replayCode (by
  intro vs es r h; unfold F_impl_replayCode at h; split at h
  · cases h; kernel_rfl
  · cases h)

abbrev X_impl_faultsOf_l0 := Int × Int × List Int × List (Int × (Int × Int))

def impl_faultsOf_l0_a0 (y0 : Int) (y2 : List Int) : Int :=
  Option.getD y2[Int.toNat y0]? (0 : Int)

def impl_faultsOf_l0_a1 (y0 : Int) (y2 : List Int) : Bool :=
  impl_faultsOf_l0_a0 y0 y2 == (3 : Int)

def impl_faultsOf_l0_a2 (y0 : Int) (y2 : List Int) : Bool :=
  bif impl_faultsOf_l0_a0 y0 y2 == (1 : Int) then true else impl_faultsOf_l0_a1 y0 y2

def impl_faultsOf_l0_a3 (y0 : Int) : List (Int × Int × Int) :=
  [(y0, (0 : Int), (0 : Int))]

def impl_faultsOf_l0_a4 (y0 : Int) (y2 : List Int) : Bool :=
  impl_faultsOf_l0_a0 y0 y2 == (2 : Int)

def impl_faultsOf_l0_a5 (y0 : Int) (y3 : List (Int × (Int × Int))) : List (Int × Int × Int) :=
  y3 ++ impl_faultsOf_l0_a3 y0

def impl_faultsOf_l0_a6 (y0 : Int) : List (Int × Int × Int) :=
  [(y0, (1 : Int), (1 : Int))]

def impl_faultsOf_l0_a7 (y0 : Int) (y3 : List (Int × (Int × Int))) : List (Int × Int × Int) :=
  impl_faultsOf_l0_a5 y0 y3 ++ impl_faultsOf_l0_a6 y0

def impl_faultsOf_l0_a8 (y0 : Int) : List (Int × Int × Int) :=
  [(y0, (1 : Int), (0 : Int))]

def impl_faultsOf_l0_a9 (y0 : Int) (y3 : List (Int × (Int × Int))) : List (Int × Int × Int) :=
  y3 ++ impl_faultsOf_l0_a6 y0

def impl_faultsOf_l0_0 (y0 : Int) (y1 : Int) : Bool :=
  ltI y0 y1

def impl_faultsOf_l0_1 (y0 : Int) : Bool :=
  leI (0 : Int) y0

def impl_faultsOf_l0_2 (y0 : Int) (y2 : List Int) : Bool :=
  ltI y0 (↑(List.length y2) : Int)

def impl_faultsOf_l0_3 (y0 : Int) (y2 : List Int) : Bool :=
  ltN (Int.toNat y0) (List.length y2)

def impl_faultsOf_l0_4 (y0 : Int) (y2 : List Int) (y3 : List (Int × (Int × Int))) : Bool :=
  !impl_faultsOf_l0_a2 y0 y2 || leN (List.length y3 + List.length (impl_faultsOf_l0_a3 y0)) (9223372036854775807 : Nat)

def impl_faultsOf_l0_5 (y0 : Int) (y2 : List Int) (y3 : List (Int × (Int × Int))) : Bool :=
  !impl_faultsOf_l0_a2 y0 y2 || leN ((List.length y3 + List.length (impl_faultsOf_l0_a3 y0)) * (24 : Nat)) (140737488355328 : Nat)

def impl_faultsOf_l0_6 (y0 : Int) (y2 : List Int) : Bool :=
  impl_faultsOf_l0_a2 y0 y2

def impl_faultsOf_l0_7 (y0 : Int) (y2 : List Int) (y3 : List (Int × (Int × Int))) : Bool :=
  !impl_faultsOf_l0_a4 y0 y2 || leN (List.length (impl_faultsOf_l0_a5 y0 y3) + List.length (impl_faultsOf_l0_a6 y0)) (9223372036854775807 : Nat)

def impl_faultsOf_l0_8 (y0 : Int) (y2 : List Int) (y3 : List (Int × (Int × Int))) : Bool :=
  !impl_faultsOf_l0_a4 y0 y2 ||
  leN ((List.length (impl_faultsOf_l0_a5 y0 y3) + List.length (impl_faultsOf_l0_a6 y0)) * (24 : Nat)) (140737488355328 : Nat)

def impl_faultsOf_l0_9 (y0 : Int) (y2 : List Int) : Bool :=
  impl_faultsOf_l0_a4 y0 y2

def impl_faultsOf_l0_10 (y0 : Int) (y2 : List Int) (y3 : List (Int × (Int × Int))) : Bool :=
  !impl_faultsOf_l0_a1 y0 y2 || leN (List.length (impl_faultsOf_l0_a7 y0 y3) + List.length (impl_faultsOf_l0_a8 y0)) (9223372036854775807 : Nat)

def impl_faultsOf_l0_11 (y0 : Int) (y2 : List Int) (y3 : List (Int × (Int × Int))) : Bool :=
  !impl_faultsOf_l0_a1 y0 y2 ||
  leN ((List.length (impl_faultsOf_l0_a7 y0 y3) + List.length (impl_faultsOf_l0_a8 y0)) * (24 : Nat)) (140737488355328 : Nat)

def impl_faultsOf_l0_12 (y0 : Int) (y2 : List Int) : Bool :=
  impl_faultsOf_l0_a1 y0 y2

def impl_faultsOf_l0_13 (y0 : Int) : Int :=
  IntKind.wrap IntKind.i64 (y0 + (1 : Int))

def impl_faultsOf_l0_14 (y0 : Int) (y3 : List (Int × (Int × Int))) : List (Int × (Int × Int)) :=
  impl_faultsOf_l0_a7 y0 y3 ++ impl_faultsOf_l0_a8 y0

def impl_faultsOf_l0_15 (y0 : Int) (y3 : List (Int × (Int × Int))) : List (Int × (Int × Int)) :=
  impl_faultsOf_l0_a7 y0 y3

def impl_faultsOf_l0_16 (y0 : Int) (y2 : List Int) (y3 : List (Int × (Int × Int))) : Bool :=
  !impl_faultsOf_l0_a1 y0 y2 || leN (List.length (impl_faultsOf_l0_a5 y0 y3) + List.length (impl_faultsOf_l0_a8 y0)) (9223372036854775807 : Nat)

def impl_faultsOf_l0_17 (y0 : Int) (y2 : List Int) (y3 : List (Int × (Int × Int))) : Bool :=
  !impl_faultsOf_l0_a1 y0 y2 ||
  leN ((List.length (impl_faultsOf_l0_a5 y0 y3) + List.length (impl_faultsOf_l0_a8 y0)) * (24 : Nat)) (140737488355328 : Nat)

def impl_faultsOf_l0_18 (y0 : Int) (y3 : List (Int × (Int × Int))) : List (Int × (Int × Int)) :=
  impl_faultsOf_l0_a5 y0 y3 ++ impl_faultsOf_l0_a8 y0

def impl_faultsOf_l0_19 (y0 : Int) (y3 : List (Int × (Int × Int))) : List (Int × (Int × Int)) :=
  impl_faultsOf_l0_a5 y0 y3

def impl_faultsOf_l0_20 (y0 : Int) (y2 : List Int) (y3 : List (Int × (Int × Int))) : Bool :=
  !impl_faultsOf_l0_a4 y0 y2 || leN (List.length y3 + List.length (impl_faultsOf_l0_a6 y0)) (9223372036854775807 : Nat)

def impl_faultsOf_l0_21 (y0 : Int) (y2 : List Int) (y3 : List (Int × (Int × Int))) : Bool :=
  !impl_faultsOf_l0_a4 y0 y2 || leN ((List.length y3 + List.length (impl_faultsOf_l0_a6 y0)) * (24 : Nat)) (140737488355328 : Nat)

def impl_faultsOf_l0_22 (y0 : Int) (y2 : List Int) (y3 : List (Int × (Int × Int))) : Bool :=
  !impl_faultsOf_l0_a1 y0 y2 || leN (List.length (impl_faultsOf_l0_a9 y0 y3) + List.length (impl_faultsOf_l0_a8 y0)) (9223372036854775807 : Nat)

def impl_faultsOf_l0_23 (y0 : Int) (y2 : List Int) (y3 : List (Int × (Int × Int))) : Bool :=
  !impl_faultsOf_l0_a1 y0 y2 ||
  leN ((List.length (impl_faultsOf_l0_a9 y0 y3) + List.length (impl_faultsOf_l0_a8 y0)) * (24 : Nat)) (140737488355328 : Nat)

def impl_faultsOf_l0_24 (y0 : Int) (y3 : List (Int × (Int × Int))) : List (Int × (Int × Int)) :=
  impl_faultsOf_l0_a9 y0 y3 ++ impl_faultsOf_l0_a8 y0

def impl_faultsOf_l0_25 (y0 : Int) (y3 : List (Int × (Int × Int))) : List (Int × (Int × Int)) :=
  impl_faultsOf_l0_a9 y0 y3

def impl_faultsOf_l0_26 (y0 : Int) (y2 : List Int) (y3 : List (Int × (Int × Int))) : Bool :=
  !impl_faultsOf_l0_a1 y0 y2 || leN (List.length y3 + List.length (impl_faultsOf_l0_a8 y0)) (9223372036854775807 : Nat)

def impl_faultsOf_l0_27 (y0 : Int) (y2 : List Int) (y3 : List (Int × (Int × Int))) : Bool :=
  !impl_faultsOf_l0_a1 y0 y2 || leN ((List.length y3 + List.length (impl_faultsOf_l0_a8 y0)) * (24 : Nat)) (140737488355328 : Nat)

def impl_faultsOf_l0_28 (y0 : Int) (y3 : List (Int × (Int × Int))) : List (Int × (Int × Int)) :=
  y3 ++ impl_faultsOf_l0_a8 y0

def JL_impl_faultsOf_l0 : X_impl_faultsOf_l0 → List (Nat × SV)
  | (y0, y1, _, _) => [(8, (.one ⟨false, [(.val (.int IntKind.i64 y0))]⟩)), (7, (.one ⟨false, [(.val (.int IntKind.i64 y1))]⟩)), (6, (.one ⟨false, [(.ref 0)]⟩)), (3, (.one ⟨false, [(.ref 1)]⟩))]

def JE_impl_faultsOf_l0 : X_impl_faultsOf_l0 → List (Nat × Entry)
  | (_, _, y2, y3) => [(0, (.row false 2 (CTy.int IntKind.i64) y2)), (1, (.row true 118 (CTy.pair (CTy.int IntKind.i64) (CTy.pair (CTy.int IntKind.i64) (CTy.int IntKind.i64))) y3))]

def XL_impl_faultsOf_l0 : Nat → X_impl_faultsOf_l0 → List (Nat × SV)
  | _, (_, _, _, _) => [(3, (.one ⟨false, [(.ref 1)]⟩))]

def XE_impl_faultsOf_l0 : Nat → X_impl_faultsOf_l0 → List (Nat × Entry)
  | _, (_, _, y2, y3) => [(0, (.row false 2 (CTy.int IntKind.i64) y2)), (1, (.row true 118 (CTy.pair (CTy.int IntKind.i64) (CTy.pair (CTy.int IntKind.i64) (CTy.int IntKind.i64))) y3))]

def lt_impl_faultsOf_l0 : X_impl_faultsOf_l0 → LT X_impl_faultsOf_l0
  | (y0, y1, y2, y3) => .ite (impl_faultsOf_l0_0 y0 y1) (.need [(impl_faultsOf_l0_1 y0), (impl_faultsOf_l0_2 y0 y2), (impl_faultsOf_l0_3 y0 y2)] (.need [(impl_faultsOf_l0_4 y0 y2 y3), (impl_faultsOf_l0_5 y0 y2 y3)] (.ite (impl_faultsOf_l0_6 y0 y2) (.need [(impl_faultsOf_l0_7 y0 y2 y3), (impl_faultsOf_l0_8 y0 y2 y3)] (.ite (impl_faultsOf_l0_9 y0 y2) (.need [(impl_faultsOf_l0_10 y0 y2 y3), (impl_faultsOf_l0_11 y0 y2 y3)] (.ite (impl_faultsOf_l0_12 y0 y2) (.nrm ((impl_faultsOf_l0_13 y0), y1, y2, (impl_faultsOf_l0_14 y0 y3)) [(0, 0), (1, 2112)]) (.nrm ((impl_faultsOf_l0_13 y0), y1, y2, (impl_faultsOf_l0_15 y0 y3)) [(0, 0), (1, 1600)]))) (.need [(impl_faultsOf_l0_16 y0 y2 y3), (impl_faultsOf_l0_17 y0 y2 y3)] (.ite (impl_faultsOf_l0_12 y0 y2) (.nrm ((impl_faultsOf_l0_13 y0), y1, y2, (impl_faultsOf_l0_18 y0 y3)) [(0, 0), (1, 1728)]) (.nrm ((impl_faultsOf_l0_13 y0), y1, y2, (impl_faultsOf_l0_19 y0 y3)) [(0, 0), (1, 1088)]))))) (.need [(impl_faultsOf_l0_20 y0 y2 y3), (impl_faultsOf_l0_21 y0 y2 y3)] (.ite (impl_faultsOf_l0_9 y0 y2) (.need [(impl_faultsOf_l0_22 y0 y2 y3), (impl_faultsOf_l0_23 y0 y2 y3)] (.ite (impl_faultsOf_l0_12 y0 y2) (.nrm ((impl_faultsOf_l0_13 y0), y1, y2, (impl_faultsOf_l0_24 y0 y3)) [(0, 0), (1, 1728)]) (.nrm ((impl_faultsOf_l0_13 y0), y1, y2, (impl_faultsOf_l0_25 y0 y3)) [(0, 0), (1, 1216)]))) (.need [(impl_faultsOf_l0_26 y0 y2 y3), (impl_faultsOf_l0_27 y0 y2 y3)] (.ite (impl_faultsOf_l0_12 y0 y2) (.nrm ((impl_faultsOf_l0_13 y0), y1, y2, (impl_faultsOf_l0_28 y0 y3)) [(0, 0), (1, 1344)]) (.nrm ((impl_faultsOf_l0_13 y0), y1, y2, y3) [(0, 0), (1, 1)])))))))) (.ext 0 [(0, 0), (1, 1)])

def rd_impl_faultsOf_l0 (s : St) : Option X_impl_faultsOf_l0 :=
  (match s.look 8 with
  | some ⟨none, (.one ⟨false, [(.val (.int IntKind.i64 y0))]⟩)⟩ =>
  (match s.look 7 with
  | some ⟨none, (.one ⟨false, [(.val (.int IntKind.i64 y1))]⟩)⟩ =>
  (match s.look 6 with
  | some ⟨none, (.one ⟨false, [(.ref 0)]⟩)⟩ =>
  (match s.look 3 with
  | some ⟨none, (.one ⟨false, [(.ref 192)]⟩)⟩ =>
  (match s.ent 0 with
  | some (.row false 2 (CTy.int IntKind.i64) y2) =>
  (match s.ent 192 with
  | some (.row true 118 (CTy.pair (CTy.int IntKind.i64) (CTy.pair (CTy.int IntKind.i64) (CTy.int IntKind.i64))) y3) =>
  some (y0, y1, y2, y3)
  | _ => none)
  | _ => none)
  | _ => none)
  | _ => none)
  | _ => none)
  | _ => none)

def lp_impl_faultsOf_l0 : Lp X_impl_faultsOf_l0 where
  h := ⟨[9, 10, 11, 12, 4, 5, 13, 14, 15, 16, 17, 18, 19, 20, 21, 22, 23, 3, 24, 25, 26, 27, 28, 29, 30, 31, 32, 33, 34, 35, 36, 37, 38, 8], [0], [1], []⟩
  JL := JL_impl_faultsOf_l0
  JE := JE_impl_faultsOf_l0
  XL := XL_impl_faultsOf_l0
  XE := XE_impl_faultsOf_l0
  q := fun j => match j with | _ => .exit 0
  tags := [0]
  lt := lt_impl_faultsOf_l0
  fuel := fun (y0, y1, y2, y3) => y0.natAbs + y1.natAbs + y2.length + y3.length
  fix := fun (_, y1, y2, _) (y0, _, _, y3) => (y0, y1, y2, y3)
  σ := [(0, 0), (1, 192)]
  rd := rd_impl_faultsOf_l0

theorem lpok_impl_faultsOf_l0 : LoopOk Try.prog (fun k => Nat.blt k Try.f171.ntmps) lp_impl_faultsOf_l0.F (loopAt Try.f171 0) := by
  refine Lp.ok (tbl := []) (lf := []) hmix lp_impl_faultsOf_l0 (by kernel_rfl) (LOk.nil _) (fun _ => rfl) (fun _ _ => rfl) ?_ ?_ ?_ ?_ (fun _ => rfl) ?_
  · intro x; obtain ⟨y0, y1, y2, y3⟩ := x; kernel_rfl
  · intro x; obtain ⟨y0, y1, y2, y3⟩ := x; kernel_rfl
  · intro s x h
    have h : rd_impl_faultsOf_l0 s = some x := h
    unfold rd_impl_faultsOf_l0 at h
    repeat' split at h
    all_goals cases h
    exact ⟨absS_cons (by assumption) rfl (absS_cons (by assumption) rfl (absS_cons (by assumption) rfl (absS_cons (by assumption) rfl (rfl)))), absE_cons rfl (by assumption) rfl (absE_cons rfl (by assumption) rfl (rfl))⟩
  · intro x; obtain ⟨y0, y1, y2, y3⟩ := x; kernel_rfl
  · intro x z; obtain ⟨y0, y1, y2, y3⟩ := x; exact (And.intro (And.intro (And.intro (And.intro rfl rfl) (And.intro rfl rfl)) (And.intro (And.intro rfl rfl) (And.intro rfl rfl))) trivial)

def impl_faultsOf_a0 (x0 : List Int) : Int × Int × List Int × List (Int × Int × Int) :=
  ((0 : Int), (↑(List.length x0) : Int), x0, [])

def impl_faultsOf_0 (x0 : List Int) : List (Int × (Int × Int)) :=
  Prod.snd (Prod.snd (Prod.snd (Prod.snd (Lp.res lp_impl_faultsOf_l0 (impl_faultsOf_a0 x0)))))

def impl_faultsOf_1 (x0 : List Int) : Bool :=
  allT [Lp.fin lp_impl_faultsOf_l0 (impl_faultsOf_a0 x0)]

def F_impl_faultsOf : List SV → List Entry → Option Out
  | [.one ⟨false, [.ref 0]⟩], [.row false 2 (.int .i64) x0] => some ⟨(.one ⟨false, [(.ref 1)]⟩), [(.row false 2 (CTy.int IntKind.i64) x0)], [(.row true 118 (CTy.pair (CTy.int IntKind.i64) (CTy.pair (CTy.int IntKind.i64) (CTy.int IntKind.i64))) (impl_faultsOf_0 x0))], [(impl_faultsOf_1 x0)]⟩
  | _, _ => none

def p_impl_faultsOf : PF Try.prog := PF.ofG Try.prog [] [lp_impl_faultsOf_l0.F] hmix 171 Try.f171 Try.func171 (LOk.fnT (l := [loopAt Try.f171 0]) (by kernel_rfl) (.cons lpok_impl_faultsOf_l0 (.nil _))) F_impl_faultsOf (by
  intro vs es r h; unfold F_impl_faultsOf at h; split at h
  · cases h; kernel_rfl
  · cases h)

end Go.SX

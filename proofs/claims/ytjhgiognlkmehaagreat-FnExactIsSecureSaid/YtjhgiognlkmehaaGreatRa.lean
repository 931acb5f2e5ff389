/- What functions of the program come to, row by row (made by a program of the workplace). -/
import Derived.Test.YtjhgiognlkmehaaGreatTXh
import Derived.Test.YtjhgiognlkmehaaGreatProg
namespace Go.SX
open Go.Proofs
set_option maxRecDepth 100000
theorem hmix : Tryz.prog.follows .mixedOrders = true := by kernel_rfl

def laws_szInt64S_a0 (x0 : Int) (x1 : List Int) : Int :=
  IntKind.wrap IntKind.i64 (x0 - (↑(List.length x1) : Int))

def laws_szInt64S_0 (x0 : Int) (x1 : List Int) : Int :=
  bif ltI (laws_szInt64S_a0 x0 x1) (0 : Int) then (-1 : Int) else laws_szInt64S_a0 x0 x1

def F_laws_szInt64S : List SV → List Entry → Option Out
  | [.one ⟨false, [.ref 0]⟩, .one ⟨false, [.val (.int .i64 x0)]⟩], [.row false 2 (.int .i64) x1] => some ⟨(.one ⟨false, [(.val (.int IntKind.i64 (laws_szInt64S_0 x0 x1)))]⟩), [(.row false 2 (CTy.int IntKind.i64) x1)], [], []⟩
  | _, _ => none

def p_laws_szInt64S : PF Tryz.prog := PF.ofG Tryz.prog [] [] hmix 35 Tryz.f35 Tryz.func35 (fun c _ => LOk.nil c) F_laws_szInt64S (by
  intro vs es r h; unfold F_laws_szInt64S at h; split at h
  · cases h; kernel_rfl
  · cases h)

def spec_l01In_0 (x0 : Int) (x1 : Int) (x2 : Int) : Bool :=
  bif leI x1 x0 then leI x0 x2 else false

def F_spec_l01In : List SV → List Entry → Option Out
  | [.one ⟨false, [.val (.int .i64 x0)]⟩, .one ⟨false, [.val (.int .i64 x1)]⟩, .one ⟨false, [.val (.int .i64 x2)]⟩], [] => some ⟨(.one ⟨false, [(.val (.bool (spec_l01In_0 x0 x1 x2)))]⟩), [], [], []⟩
  | _, _ => none

def p_spec_l01In : PF Tryz.prog := PF.ofG Tryz.prog [] [] hmix 44 Tryz.f44 Tryz.func44 (fun c _ => LOk.nil c) F_spec_l01In (by
  intro vs es r h; unfold F_spec_l01In at h; split at h
  · cases h; kernel_rfl
  · cases h)

abbrev X_spec_IsTraffic_l0 := Int × Int × List Int

def spec_IsTraffic_l0_0 (y0 : Int) (y2 : List Int) : Bool :=
  ltI y0 (↑(List.length y2) : Int)

def spec_IsTraffic_l0_1 (y0 : Int) : Bool :=
  leI (0 : Int) y0

def spec_IsTraffic_l0_2 (y0 : Int) (y2 : List Int) : Bool :=
  ltN (Int.toNat y0) (List.length y2)

def spec_IsTraffic_l0_3 (y0 : Int) (y1 : Int) (y2 : List Int) : Bool :=
  !spec_l01In_0 (Option.getD y2[Int.toNat y0]? (0 : Int)) (0 : Int) (IntKind.wrap IntKind.i64 (IntKind.wrap IntKind.i64 ((3 : Int) * y1) - (1 : Int)))

def spec_IsTraffic_l0_4 (y0 : Int) : Int :=
  IntKind.wrap IntKind.i64 (y0 + (1 : Int))

def JL_spec_IsTraffic_l0 : X_spec_IsTraffic_l0 → List (Nat × SV)
  | (y0, _, _) => [(3, (.one ⟨false, [(.val (.int IntKind.i64 y0))]⟩)), (1, (.one ⟨false, [(.ptr 0 0)]⟩))]

def JE_spec_IsTraffic_l0 : X_spec_IsTraffic_l0 → List (Nat × Entry)
  | (_, y1, y2) => [(0, (.box 34 [(.val (.int IntKind.i64 y1)), (.ref 1)])), (1, (.row false 2 (CTy.int IntKind.i64) y2))]

def XL_spec_IsTraffic_l0 : Nat → X_spec_IsTraffic_l0 → List (Nat × SV)
  | 0, (_, _, _) => [(2, (.one ⟨false, [(.val (.bool false))]⟩))]
  | _, (_, _, _) => []

def XE_spec_IsTraffic_l0 : Nat → X_spec_IsTraffic_l0 → List (Nat × Entry)
  | 0, (_, y1, y2) => [(0, (.box 34 [(.val (.int IntKind.i64 y1)), (.ref 1)])), (1, (.row false 2 (CTy.int IntKind.i64) y2))]
  | _, (_, y1, y2) => [(0, (.box 34 [(.val (.int IntKind.i64 y1)), (.ref 1)])), (1, (.row false 2 (CTy.int IntKind.i64) y2))]

def lt_spec_IsTraffic_l0 : X_spec_IsTraffic_l0 → LT X_spec_IsTraffic_l0
  | (y0, y1, y2) => .ite (spec_IsTraffic_l0_0 y0 y2) (.need [(spec_IsTraffic_l0_1 y0), (spec_IsTraffic_l0_0 y0 y2), (spec_IsTraffic_l0_2 y0 y2)] (.ite (spec_IsTraffic_l0_3 y0 y1 y2) (.ext 0 [(0, 0), (1, 1)]) (.nrm ((spec_IsTraffic_l0_4 y0), y1, y2) [(0, 0), (1, 1)]))) (.ext 1 [(0, 0), (1, 1)])

def rd_spec_IsTraffic_l0 (s : St) : Option X_spec_IsTraffic_l0 :=
  (match s.look 3 with
  | some ⟨none, (.one ⟨false, [(.val (.int IntKind.i64 y0))]⟩)⟩ =>
  (match s.look 1 with
  | some ⟨none, (.one ⟨false, [(.ptr 128 0)]⟩)⟩ =>
  (match s.ent 128 with
  | some (.box 34 [(.val (.int IntKind.i64 y1)), (.ref 0)]) =>
  (match s.ent 0 with
  | some (.row false 2 (CTy.int IntKind.i64) y2) =>
  some (y0, y1, y2)
  | _ => none)
  | _ => none)
  | _ => none)
  | _ => none)

def lp_spec_IsTraffic_l0 : Lp X_spec_IsTraffic_l0 where
  h := ⟨[15, 16, 17, 18, 19, 22, 23, 24, 25, 26, 27, 28, 29, 30, 31, 32, 2, 20, 21, 3], [0, 1], [], []⟩
  JL := JL_spec_IsTraffic_l0
  JE := JE_spec_IsTraffic_l0
  XL := XL_spec_IsTraffic_l0
  XE := XE_spec_IsTraffic_l0
  q := fun j => match j with | 0 => .ret | _ => .exit 0
  tags := [0, 1]
  lt := lt_spec_IsTraffic_l0
  fuel := fun (y0, y1, y2) => y0.natAbs + y1.natAbs + y2.length
  fix := fun (_, y1, y2) (y0, _, _) => (y0, y1, y2)
  σ := [(0, 128), (1, 0)]
  rd := rd_spec_IsTraffic_l0

theorem lpok_spec_IsTraffic_l0 : LoopOk Tryz.prog (fun k => Nat.blt k Tryz.f36.ntmps) lp_spec_IsTraffic_l0.F (loopAt Tryz.f36 0) := by
  refine Lp.ok (tbl := [p_spec_l01In]) (lf := []) hmix lp_spec_IsTraffic_l0 (by kernel_rfl) (LOk.nil _) (fun _ => rfl) (fun j _ => by unfold lp_spec_IsTraffic_l0; match j with | 0 => rfl | _ + 1 => rfl) ?_ ?_ ?_ ?_ (fun _ => rfl) ?_
  · intro x; obtain ⟨y0, y1, y2⟩ := x; kernel_rfl
  · intro x; obtain ⟨y0, y1, y2⟩ := x; kernel_rfl
  · intro s x h
    have h : rd_spec_IsTraffic_l0 s = some x := h
    unfold rd_spec_IsTraffic_l0 at h
    repeat' split at h
    all_goals cases h
    exact ⟨absS_cons (by assumption) rfl (absS_cons (by assumption) rfl (rfl)), absE_cons rfl (by assumption) rfl (absE_cons rfl (by assumption) rfl (rfl))⟩
  · intro x; obtain ⟨y0, y1, y2⟩ := x; kernel_rfl
  · intro x z; obtain ⟨y0, y1, y2⟩ := x; exact (And.intro (And.intro trivial rfl) trivial)

def spec_IsTraffic_a0 (x0 : Int) (x1 : List Int) : Bool :=
  bif !spec_l01In_0 x0 (2 : Int) (8 : Int) then true else !spec_l01In_0 (↑(List.length x1) : Int) (1 : Int) (4 : Int)

def spec_IsTraffic_a1 (x0 : Int) (x1 : List Int) : Int × Int × List Int :=
  ((0 : Int), x0, x1)

def spec_IsTraffic_0 (x0 : Int) (x1 : List Int) : Bool :=
  bif spec_IsTraffic_a0 x0 x1 then false
  else bif Nat.beq (Prod.fst (Lp.res lp_spec_IsTraffic_l0 (spec_IsTraffic_a1 x0 x1))) (0 : Nat) then false else true

def spec_IsTraffic_1 (x0 : Int) (x1 : List Int) : Bool :=
  allT [spec_IsTraffic_a0 x0 x1 || Lp.fin lp_spec_IsTraffic_l0 (spec_IsTraffic_a1 x0 x1)]

def F_spec_IsTraffic : List SV → List Entry → Option Out
  | [.one ⟨true, [.val (.int .i64 x0), .ref 0]⟩], [.row false 2 (.int .i64) x1] => some ⟨(.one ⟨false, [(.val (.bool (spec_IsTraffic_0 x0 x1)))]⟩), [(.row false 2 (CTy.int IntKind.i64) x1)], [], [(spec_IsTraffic_1 x0 x1)]⟩
  | _, _ => none

def p_spec_IsTraffic : PF Tryz.prog := PF.ofG Tryz.prog [p_spec_l01In] [lp_spec_IsTraffic_l0.F] hmix 36 Tryz.f36 Tryz.func36 (LOk.fnT (l := [loopAt Tryz.f36 0]) (by kernel_rfl) (.cons lpok_spec_IsTraffic_l0 (.nil _))) F_spec_IsTraffic (by
  intro vs es r h; unfold F_spec_IsTraffic at h; split at h
  · cases h; kernel_rfl
  · cases h)

def spec_l10Uses_a0 (x1 : Int) (x2 : Int) : Bool :=
  IntKind.wrap IntKind.i64 (Int.tdiv x1 (3 : Int)) == x2

def spec_l10Uses_a1 (x1 : Int) : Bool :=
  Int.tmod x1 (3 : Int) == (2 : Int)

def spec_l10Uses_0 (x0 : Int) (x1 : Int) (x2 : Int) : Bool :=
  bif spec_l10Uses_a0 x1 x2 then true
  else
  bif spec_l10Uses_a1 x1 then Int.tmod (IntKind.wrap IntKind.i64 (IntKind.wrap IntKind.i64 (Int.tdiv x1 (3 : Int)) + (1 : Int))) x0 == x2 else false

def spec_l10Uses_1 (x0 : Int) (x1 : Int) (x2 : Int) : Bool :=
  allT
  [!(!spec_l10Uses_a0 x1 x2 && true) || neI (3 : Int) (0 : Int), !(spec_l10Uses_a1 x1 && (!spec_l10Uses_a0 x1 x2 && true)) || neI (3 : Int) (0 : Int),
    !(spec_l10Uses_a1 x1 && (!spec_l10Uses_a0 x1 x2 && true)) || neI x0 (0 : Int)]

def F_spec_l10Uses : List SV → List Entry → Option Out
  | [.one ⟨false, [.val (.int .i64 x0)]⟩, .one ⟨false, [.val (.int .i64 x1)]⟩, .one ⟨false, [.val (.int .i64 x2)]⟩], [] => some ⟨(.one ⟨false, [(.val (.bool (spec_l10Uses_0 x0 x1 x2)))]⟩), [], [], [(spec_l10Uses_1 x0 x1 x2)]⟩
  | _, _ => none

def p_spec_l10Uses : PF Tryz.prog := PF.ofG Tryz.prog [] [] hmix 73 Tryz.f73 Tryz.func73 (fun c _ => LOk.nil c) F_spec_l10Uses (by
  intro vs es r h; unfold F_spec_l10Uses at h; split at h
  · cases h; kernel_rfl
  · cases h)

abbrev X_laws_toInt64S_l0 := Int × List Int × List Int

def laws_toInt64S_l0_0 (y0 : Int) (y1 : List Int) : Bool :=
  ltI y0 (↑(List.length y1) : Int)

def laws_toInt64S_l0_1 (y0 : Int) : Bool :=
  leI (0 : Int) y0

def laws_toInt64S_l0_2 (y0 : Int) (y1 : List Int) : Bool :=
  ltN (Int.toNat y0) (List.length y1)

def laws_toInt64S_l0_3 (y0 : Int) (y2 : List Int) : Bool :=
  ltI y0 (↑(List.length y2) : Int)

def laws_toInt64S_l0_4 (y0 : Int) (y2 : List Int) : Bool :=
  ltN (Int.toNat y0) (List.length y2)

def laws_toInt64S_l0_5 (y0 : Int) : Int :=
  IntKind.wrap IntKind.i64 (y0 + (1 : Int))

def laws_toInt64S_l0_6 (y0 : Int) (y1 : List Int) (y2 : List Int) : List Int :=
  List.set y2 (Int.toNat y0) (Option.getD y1[Int.toNat y0]? (0 : Int))

def JL_laws_toInt64S_l0 : X_laws_toInt64S_l0 → List (Nat × SV)
  | (y0, _, _) => [(4, (.one ⟨false, [(.val (.int IntKind.i64 y0))]⟩)), (0, (.one ⟨false, [(.ref 0)]⟩)), (3, (.one ⟨false, [(.ref 1)]⟩))]

def JE_laws_toInt64S_l0 : X_laws_toInt64S_l0 → List (Nat × Entry)
  | (_, y1, y2) => [(0, (.row false 2 (CTy.int IntKind.i64) y1)), (1, (.row true 2 (CTy.int IntKind.i64) y2))]

def XL_laws_toInt64S_l0 : Nat → X_laws_toInt64S_l0 → List (Nat × SV)
  | _, (_, _, _) => []

def XE_laws_toInt64S_l0 : Nat → X_laws_toInt64S_l0 → List (Nat × Entry)
  | _, (_, y1, y2) => [(0, (.row false 2 (CTy.int IntKind.i64) y1)), (1, (.row true 2 (CTy.int IntKind.i64) y2))]

def lt_laws_toInt64S_l0 : X_laws_toInt64S_l0 → LT X_laws_toInt64S_l0
  | (y0, y1, y2) => .ite (laws_toInt64S_l0_0 y0 y1) (.need [(laws_toInt64S_l0_1 y0), (laws_toInt64S_l0_0 y0 y1), (laws_toInt64S_l0_2 y0 y1), (laws_toInt64S_l0_1 y0), (laws_toInt64S_l0_3 y0 y2), (laws_toInt64S_l0_4 y0 y2)] (.nrm ((laws_toInt64S_l0_5 y0), y1, (laws_toInt64S_l0_6 y0 y1 y2)) [(0, 0), (1, 1)])) (.ext 0 [(0, 0), (1, 1)])

def rd_laws_toInt64S_l0 (s : St) : Option X_laws_toInt64S_l0 :=
  (match s.look 4 with
  | some ⟨none, (.one ⟨false, [(.val (.int IntKind.i64 y0))]⟩)⟩ =>
  (match s.look 0 with
  | some ⟨none, (.one ⟨false, [(.ref 0)]⟩)⟩ =>
  (match s.look 3 with
  | some ⟨none, (.one ⟨false, [(.ref 320)]⟩)⟩ =>
  (match s.ent 0 with
  | some (.row false 2 (CTy.int IntKind.i64) y1) =>
  (match s.ent 320 with
  | some (.row true 2 (CTy.int IntKind.i64) y2) =>
  some (y0, y1, y2)
  | _ => none)
  | _ => none)
  | _ => none)
  | _ => none)
  | _ => none)

def lp_laws_toInt64S_l0 : Lp X_laws_toInt64S_l0 where
  h := ⟨[8, 9, 10, 11, 14, 15, 16, 17, 18, 19, 20, 12, 13, 4], [0, 1], [], []⟩
  JL := JL_laws_toInt64S_l0
  JE := JE_laws_toInt64S_l0
  XL := XL_laws_toInt64S_l0
  XE := XE_laws_toInt64S_l0
  q := fun j => match j with | _ => .exit 0
  tags := [0]
  lt := lt_laws_toInt64S_l0
  fuel := fun (y0, y1, y2) => y0.natAbs + y1.length + y2.length
  fix := fun (_, y1, _) (y0, _, y2) => (y0, y1, y2)
  σ := [(0, 0), (1, 320)]
  rd := rd_laws_toInt64S_l0

theorem lpok_laws_toInt64S_l0 : LoopOk Tryz.prog (fun k => Nat.blt k Tryz.f47.ntmps) lp_laws_toInt64S_l0.F (loopAt Tryz.f47 0) := by
  refine Lp.ok (tbl := []) (lf := []) hmix lp_laws_toInt64S_l0 (by kernel_rfl) (LOk.nil _) (fun _ => rfl) (fun _ _ => rfl) ?_ ?_ ?_ ?_ (fun _ => rfl) ?_
  · intro x; obtain ⟨y0, y1, y2⟩ := x; kernel_rfl
  · intro x; obtain ⟨y0, y1, y2⟩ := x; kernel_rfl
  · intro s x h
    have h : rd_laws_toInt64S_l0 s = some x := h
    unfold rd_laws_toInt64S_l0 at h
    repeat' split at h
    all_goals cases h
    exact ⟨absS_cons (by assumption) rfl (absS_cons (by assumption) rfl (absS_cons (by assumption) rfl (rfl))), absE_cons rfl (by assumption) rfl (absE_cons rfl (by assumption) rfl (rfl))⟩
  · intro x; obtain ⟨y0, y1, y2⟩ := x; kernel_rfl
  · intro x z; obtain ⟨y0, y1, y2⟩ := x; exact (And.intro rfl trivial)

def laws_toInt64S_a0 (x0 : List Int) : Int × List Int × List Int :=
  ((0 : Int), x0, List.replicate (Int.toNat (↑(List.length x0) : Int)) (0 : Int))

def laws_toInt64S_0 (x0 : List Int) : List Int :=
  Prod.snd (Prod.snd (Prod.snd (Lp.res lp_laws_toInt64S_l0 (laws_toInt64S_a0 x0))))

def laws_toInt64S_1 (x0 : List Int) : Bool :=
  allT
  [leI (0 : Int) (↑(List.length x0) : Int), leI (↑(List.length x0) : Int) (↑(List.length x0) : Int),
    leI ((↑(8 : Nat) : Int) * (↑(List.length x0) : Int)) (281474976710656 : Int), leI (↑(List.length x0) : Int) (9223372036854775807 : Int),
    Lp.fin lp_laws_toInt64S_l0 (laws_toInt64S_a0 x0)]

def F_laws_toInt64S : List SV → List Entry → Option Out
  | [.one ⟨false, [.ref 0]⟩], [.row false 2 (.int .i64) x0] => some ⟨(.one ⟨false, [(.ref 1)]⟩), [(.row false 2 (CTy.int IntKind.i64) x0)], [(.row true 2 (CTy.int IntKind.i64) (laws_toInt64S_0 x0))], [(laws_toInt64S_1 x0)]⟩
  | _, _ => none

def p_laws_toInt64S : PF Tryz.prog := PF.ofG Tryz.prog [] [lp_laws_toInt64S_l0.F] hmix 47 Tryz.f47 Tryz.func47 (LOk.fnT (l := [loopAt Tryz.f47 0]) (by kernel_rfl) (.cons lpok_laws_toInt64S_l0 (.nil _))) F_laws_toInt64S (by
  intro vs es r h; unfold F_laws_toInt64S at h; split at h
  · cases h; kernel_rfl
  · cases h)

def impl_length_int64_0 (x0 : List Int) : Int :=
  (↑(List.length x0) : Int)

def F_impl_length_int64 : List SV → List Entry → Option Out
  | [.one ⟨false, [.ref 0]⟩], [.row false 2 (.int .i64) x0] => some ⟨(.one ⟨false, [(.val (.int IntKind.i64 (impl_length_int64_0 x0)))]⟩), [(.row false 2 (CTy.int IntKind.i64) x0)], [], []⟩
  | _, _ => none

def p_impl_length_int64 : PF Tryz.prog := PF.ofG Tryz.prog [] [] hmix 56 Tryz.f56 Tryz.func56 (fun c _ => LOk.nil c) F_impl_length_int64 (by
  intro vs es r h; unfold F_impl_length_int64 at h; split at h
  · cases h; kernel_rfl
  · cases h)

def impl_within_0 (x0 : Int) (x1 : Int) (x2 : Int) : Bool :=
  bif leI x1 x0 then leI x0 x2 else false

def F_impl_within : List SV → List Entry → Option Out
  | [.one ⟨false, [.val (.int .i64 x0)]⟩, .one ⟨false, [.val (.int .i64 x1)]⟩, .one ⟨false, [.val (.int .i64 x2)]⟩], [] => some ⟨(.one ⟨false, [(.val (.bool (impl_within_0 x0 x1 x2)))]⟩), [], [], []⟩
  | _, _ => none

def p_impl_within : PF Tryz.prog := PF.ofG Tryz.prog [] [] hmix 75 Tryz.f75 Tryz.func75 (fun c _ => LOk.nil c) F_impl_within (by
  intro vs es r h; unfold F_impl_within at h; split at h
  · cases h; kernel_rfl
  · cases h)

def impl_isBlockCount_0 (x0 : Int) : Bool :=
  impl_within_0 x0 (2 : Int) (8 : Int)

def F_impl_isBlockCount : List SV → List Entry → Option Out
  | [.one ⟨false, [.val (.int .i64 x0)]⟩], [] => some ⟨(.one ⟨false, [(.val (.bool (impl_isBlockCount_0 x0)))]⟩), [], [], []⟩
  | _, _ => none

def p_impl_isBlockCount : PF Tryz.prog := PF.ofG Tryz.prog [p_impl_within] [] hmix 74 Tryz.f74 Tryz.func74 (fun c _ => LOk.nil c) F_impl_isBlockCount (by
  intro vs es r h; unfold F_impl_isBlockCount at h; split at h
  · cases h; kernel_rfl
  · cases h)

def impl_IsTraffic_1_q2_0 (x0 : Int) (x1 : Int) : Bool :=
  !impl_within_0 x0 (0 : Int) (IntKind.wrap IntKind.i64 (IntKind.wrap IntKind.i64 ((3 : Int) * x1) - (1 : Int)))

def F_impl_IsTraffic_1_q2 : List SV → List Entry → Option Out
  | [(.one ⟨false, [(.val (.int IntKind.i64 x0))]⟩), (.one ⟨false, [(.ptr 0 0)]⟩)], [(.box 34 [(.val (.int IntKind.i64 x1)), (.ref 1)]), (.row false 2 (CTy.int IntKind.i64) x2)] => some ⟨(.one ⟨false, [(.val (.bool (impl_IsTraffic_1_q2_0 x0 x1)))]⟩), [(.box 34 [(.val (.int IntKind.i64 x1)), (.ref 1)]), (.row false 2 (CTy.int IntKind.i64) x2)], [], []⟩
  | _, _ => none

def p_impl_IsTraffic_1_q2 : PF Tryz.prog := PF.ofG Tryz.prog [p_impl_within] [] hmix 76 Tryz.f76 Tryz.func76 (fun c _ => LOk.nil c) F_impl_IsTraffic_1_q2 (by
  intro vs es r h; unfold F_impl_IsTraffic_1_q2 at h; split at h
  · cases h; kernel_rfl
  · cases h)

abbrev X_slices_IndexFunc_int64_int64_q1_l0 := Int × Int × Int × List Int

def slices_IndexFunc_int64_int64_q1_l0_0 (y0 : Int) (y1 : Int) : Bool :=
  ltI y0 y1

def slices_IndexFunc_int64_int64_q1_l0_1 (y0 : Int) : Bool :=
  leI (0 : Int) y0

def slices_IndexFunc_int64_int64_q1_l0_2 (y0 : Int) (y3 : List Int) : Bool :=
  ltI y0 (↑(List.length y3) : Int)

def slices_IndexFunc_int64_int64_q1_l0_3 (y0 : Int) (y3 : List Int) : Bool :=
  ltN (Int.toNat y0) (List.length y3)

def slices_IndexFunc_int64_int64_q1_l0_4 (y0 : Int) (y2 : Int) (y3 : List Int) : Bool :=
  impl_IsTraffic_1_q2_0 (Option.getD y3[Int.toNat y0]? (0 : Int)) y2

def slices_IndexFunc_int64_int64_q1_l0_5 (y0 : Int) : Int :=
  IntKind.wrap IntKind.i64 (y0 + (1 : Int))

def JL_slices_IndexFunc_int64_int64_q1_l0 : X_slices_IndexFunc_int64_int64_q1_l0 → List (Nat × SV)
  | (y0, y1, _, _) => [(8, (.one ⟨false, [(.val (.int IntKind.i64 y0))]⟩)), (7, (.one ⟨false, [(.val (.int IntKind.i64 y1))]⟩)), (1, (.one ⟨false, [(.clo 76 [0])]⟩)), (0, (.one ⟨false, [(.ref 1)]⟩))]

def JE_slices_IndexFunc_int64_int64_q1_l0 : X_slices_IndexFunc_int64_int64_q1_l0 → List (Nat × Entry)
  | (_, _, y2, y3) => [(0, (.box 34 [(.val (.int IntKind.i64 y2)), (.ref 1)])), (1, (.row false 2 (CTy.int IntKind.i64) y3))]

def XL_slices_IndexFunc_int64_int64_q1_l0 : Nat → X_slices_IndexFunc_int64_int64_q1_l0 → List (Nat × SV)
  | 0, (y0, _, _, _) => [(4, (.one ⟨false, [(.val (.int IntKind.i64 y0))]⟩))]
  | _, (_, _, _, _) => []

def XE_slices_IndexFunc_int64_int64_q1_l0 : Nat → X_slices_IndexFunc_int64_int64_q1_l0 → List (Nat × Entry)
  | 0, (_, _, y2, y3) => [(0, (.box 34 [(.val (.int IntKind.i64 y2)), (.ref 1)])), (1, (.row false 2 (CTy.int IntKind.i64) y3))]
  | _, (_, _, y2, y3) => [(0, (.box 34 [(.val (.int IntKind.i64 y2)), (.ref 1)])), (1, (.row false 2 (CTy.int IntKind.i64) y3))]

def lt_slices_IndexFunc_int64_int64_q1_l0 : X_slices_IndexFunc_int64_int64_q1_l0 → LT X_slices_IndexFunc_int64_int64_q1_l0
  | (y0, y1, y2, y3) => .ite (slices_IndexFunc_int64_int64_q1_l0_0 y0 y1) (.need [(slices_IndexFunc_int64_int64_q1_l0_1 y0), (slices_IndexFunc_int64_int64_q1_l0_2 y0 y3), (slices_IndexFunc_int64_int64_q1_l0_3 y0 y3)] (.ite (slices_IndexFunc_int64_int64_q1_l0_4 y0 y2 y3) (.ext 0 [(0, 0), (1, 1)]) (.nrm ((slices_IndexFunc_int64_int64_q1_l0_5 y0), y1, y2, y3) [(0, 0), (1, 1)]))) (.ext 1 [(0, 0), (1, 1)])

def rd_slices_IndexFunc_int64_int64_q1_l0 (s : St) : Option X_slices_IndexFunc_int64_int64_q1_l0 :=
  (match s.look 8 with
  | some ⟨none, (.one ⟨false, [(.val (.int IntKind.i64 y0))]⟩)⟩ =>
  (match s.look 7 with
  | some ⟨none, (.one ⟨false, [(.val (.int IntKind.i64 y1))]⟩)⟩ =>
  (match s.look 1 with
  | some ⟨none, (.one ⟨false, [(.clo 76 [1])]⟩)⟩ =>
  (match s.look 0 with
  | some ⟨none, (.one ⟨false, [(.ref 0)]⟩)⟩ =>
  (match s.ent 1 with
  | some (.box 34 [(.val (.int IntKind.i64 y2)), (.ref 0)]) =>
  (match s.ent 0 with
  | some (.row false 2 (CTy.int IntKind.i64) y3) =>
  some (y0, y1, y2, y3)
  | _ => none)
  | _ => none)
  | _ => none)
  | _ => none)
  | _ => none)
  | _ => none)

def lp_slices_IndexFunc_int64_int64_q1_l0 : Lp X_slices_IndexFunc_int64_int64_q1_l0 where
  h := ⟨[9, 10, 5, 11, 12, 13, 14, 15, 16, 17, 4, 18, 8], [0, 1], [], []⟩
  JL := JL_slices_IndexFunc_int64_int64_q1_l0
  JE := JE_slices_IndexFunc_int64_int64_q1_l0
  XL := XL_slices_IndexFunc_int64_int64_q1_l0
  XE := XE_slices_IndexFunc_int64_int64_q1_l0
  q := fun j => match j with | 0 => .ret | _ => .exit 0
  tags := [0, 1]
  lt := lt_slices_IndexFunc_int64_int64_q1_l0
  fuel := fun (y0, y1, y2, y3) => y0.natAbs + y1.natAbs + y2.natAbs + y3.length
  fix := fun (_, y1, y2, y3) (y0, _, _, _) => (y0, y1, y2, y3)
  σ := [(0, 1), (1, 0)]
  rd := rd_slices_IndexFunc_int64_int64_q1_l0

theorem lpok_slices_IndexFunc_int64_int64_q1_l0 : LoopOk Tryz.prog (fun k => Nat.blt k Tryz.f89.ntmps) lp_slices_IndexFunc_int64_int64_q1_l0.F (loopAt Tryz.f89 0) := by
  refine Lp.ok (tbl := [p_impl_IsTraffic_1_q2, PF.lend p_impl_IsTraffic_1_q2, PF.fz p_impl_IsTraffic_1_q2]) (lf := []) hmix lp_slices_IndexFunc_int64_int64_q1_l0 (by kernel_rfl) (LOk.nil _) (fun _ => rfl) (fun j _ => by unfold lp_slices_IndexFunc_int64_int64_q1_l0; match j with | 0 => rfl | _ + 1 => rfl) ?_ ?_ ?_ ?_ (fun _ => rfl) ?_
  · intro x; obtain ⟨y0, y1, y2, y3⟩ := x; kernel_rfl
  · intro x; obtain ⟨y0, y1, y2, y3⟩ := x; kernel_rfl
  · intro s x h
    have h : rd_slices_IndexFunc_int64_int64_q1_l0 s = some x := h
    unfold rd_slices_IndexFunc_int64_int64_q1_l0 at h
    repeat' split at h
    all_goals cases h
    exact ⟨absS_cons (by assumption) rfl (absS_cons (by assumption) rfl (absS_cons (by assumption) rfl (absS_cons (by assumption) rfl (rfl)))), absE_cons rfl (by assumption) rfl (absE_cons rfl (by assumption) rfl (rfl))⟩
  · intro x; obtain ⟨y0, y1, y2, y3⟩ := x; kernel_rfl
  · intro x z; obtain ⟨y0, y1, y2, y3⟩ := x; exact (And.intro (And.intro trivial rfl) trivial)

def slices_IndexFunc_int64_int64_q1_a0 (x0 : List Int) (x1 : Int) : Int × Int × Int × List Int :=
  ((0 : Int), (↑(List.length x0) : Int), x1, x0)

def slices_IndexFunc_int64_int64_q1_a1 (x0 : List Int) (x1 : Int) : Bool :=
  Nat.beq (Prod.fst (Lp.res lp_slices_IndexFunc_int64_int64_q1_l0 (slices_IndexFunc_int64_int64_q1_a0 x0 x1))) (0 : Nat)

def slices_IndexFunc_int64_int64_q1_0 (x0 : List Int) (x1 : Int) : Int :=
  bif slices_IndexFunc_int64_int64_q1_a1 x0 x1 then
  Prod.fst (Prod.snd (Lp.res lp_slices_IndexFunc_int64_int64_q1_l0 (slices_IndexFunc_int64_int64_q1_a0 x0 x1)))
  else (-1 : Int)

def slices_IndexFunc_int64_int64_q1_1 (x0 : List Int) (x1 : Int) : Int :=
  bif slices_IndexFunc_int64_int64_q1_a1 x0 x1 then x1 else x1

def slices_IndexFunc_int64_int64_q1_2 (x0 : List Int) (x1 : Int) : Bool :=
  allT [Lp.fin lp_slices_IndexFunc_int64_int64_q1_l0 (slices_IndexFunc_int64_int64_q1_a0 x0 x1)]

def F_slices_IndexFunc_int64_int64_q1 : List SV → List Entry → Option Out
  | [(.one ⟨false, [(.ref 0)]⟩), (.one ⟨false, [(.clo 76 [1])]⟩)], [(.row false 2 (CTy.int IntKind.i64) x0), (.box 34 [(.val (.int IntKind.i64 x1)), (.ref 0)])] => some ⟨(.one ⟨false, [(.val (.int IntKind.i64 (slices_IndexFunc_int64_int64_q1_0 x0 x1)))]⟩), [(.row false 2 (CTy.int IntKind.i64) x0), (.box 34 [(.val (.int IntKind.i64 (slices_IndexFunc_int64_int64_q1_1 x0 x1))), (.ref 0)])], [], [(slices_IndexFunc_int64_int64_q1_2 x0 x1)]⟩
  | _, _ => none

def p_slices_IndexFunc_int64_int64_q1 : PF Tryz.prog := PF.ofG Tryz.prog [p_impl_IsTraffic_1_q2, PF.lend p_impl_IsTraffic_1_q2, PF.fz p_impl_IsTraffic_1_q2] [lp_slices_IndexFunc_int64_int64_q1_l0.F] hmix 89 Tryz.f89 Tryz.func89 (LOk.fnT (l := [loopAt Tryz.f89 0]) (by kernel_rfl) (.cons lpok_slices_IndexFunc_int64_int64_q1_l0 (.nil _))) F_slices_IndexFunc_int64_int64_q1 (by
  intro vs es r h; unfold F_slices_IndexFunc_int64_int64_q1 at h; split at h
  · cases h; kernel_rfl
  · cases h)

def slices_ContainsFunc_int64_int64_q0_0 (x0 : List Int) (x1 : Int) : Bool :=
  leI (0 : Int) (slices_IndexFunc_int64_int64_q1_0 x0 x1)

def slices_ContainsFunc_int64_int64_q0_1 (x0 : List Int) (x1 : Int) : Int :=
  slices_IndexFunc_int64_int64_q1_1 x0 x1

def slices_ContainsFunc_int64_int64_q0_2 (x0 : List Int) (x1 : Int) : Bool :=
  allT [slices_IndexFunc_int64_int64_q1_2 x0 x1]

def F_slices_ContainsFunc_int64_int64_q0 : List SV → List Entry → Option Out
  | [(.one ⟨false, [(.ref 0)]⟩), (.one ⟨false, [(.clo 76 [1])]⟩)], [(.row false 2 (CTy.int IntKind.i64) x0), (.box 34 [(.val (.int IntKind.i64 x1)), (.ref 0)])] => some ⟨(.one ⟨false, [(.val (.bool (slices_ContainsFunc_int64_int64_q0_0 x0 x1)))]⟩), [(.row false 2 (CTy.int IntKind.i64) x0), (.box 34 [(.val (.int IntKind.i64 (slices_ContainsFunc_int64_int64_q0_1 x0 x1))), (.ref 0)])], [], [(slices_ContainsFunc_int64_int64_q0_2 x0 x1)]⟩
  | _, _ => none

def p_slices_ContainsFunc_int64_int64_q0 : PF Tryz.prog := PF.ofG Tryz.prog [p_slices_IndexFunc_int64_int64_q1, PF.lend p_slices_IndexFunc_int64_int64_q1, PF.fz p_slices_IndexFunc_int64_int64_q1] [] hmix 63 Tryz.f63 Tryz.func63 (fun c _ => LOk.nil c) F_slices_ContainsFunc_int64_int64_q0 (by
  intro vs es r h; unfold F_slices_ContainsFunc_int64_int64_q0 at h; split at h
  · cases h; kernel_rfl
  · cases h)

def impl_IsTraffic_a0 (x0 : Int) (x1 : List Int) : Bool :=
  bif impl_isBlockCount_0 x0 then impl_within_0 (impl_length_int64_0 x1) (1 : Int) (4 : Int) else false

def impl_IsTraffic_0 (x0 : Int) (x1 : List Int) : Bool :=
  bif impl_IsTraffic_a0 x0 x1 then !slices_ContainsFunc_int64_int64_q0_0 x1 x0 else false

def impl_IsTraffic_1 (x0 : Int) (x1 : List Int) : Bool :=
  allT [!(impl_IsTraffic_a0 x0 x1 && true) || slices_ContainsFunc_int64_int64_q0_2 x1 x0]

def F_impl_IsTraffic : List SV → List Entry → Option Out
  | [.one ⟨true, [.val (.int .i64 x0), .ref 0]⟩], [.row false 2 (.int .i64) x1] => some ⟨(.one ⟨false, [(.val (.bool (impl_IsTraffic_0 x0 x1)))]⟩), [(.row false 2 (CTy.int IntKind.i64) x1)], [], [(impl_IsTraffic_1 x0 x1)]⟩
  | _, _ => none

def p_impl_IsTraffic : PF Tryz.prog := PF.ofG Tryz.prog [p_impl_length_int64, PF.lend p_impl_length_int64, PF.fz p_impl_length_int64, p_impl_isBlockCount, p_impl_within, p_slices_ContainsFunc_int64_int64_q0, PF.lend p_slices_ContainsFunc_int64_int64_q0, PF.fz p_slices_ContainsFunc_int64_int64_q0] [] hmix 52 Tryz.f52 Tryz.func52 (fun c _ => LOk.nil c) F_impl_IsTraffic (by
  intro vs es r h; unfold F_impl_IsTraffic at h; split at h
  · cases h; kernel_rfl
  · cases h)

abbrev X_slices_Max_int64_int64_l0 := Int × Int × List Int

def slices_Max_int64_int64_l0_a0 (y0 : Int) (y2 : List Int) : Int :=
  Option.getD y2[Int.toNat y0]? (0 : Int)

def slices_Max_int64_int64_l0_0 (y0 : Int) (y2 : List Int) : Bool :=
  ltI y0 (↑(List.length y2) : Int)

def slices_Max_int64_int64_l0_1 (y0 : Int) : Bool :=
  leI (0 : Int) y0

def slices_Max_int64_int64_l0_2 (y0 : Int) (y2 : List Int) : Bool :=
  ltN (Int.toNat y0) (List.length y2)

def slices_Max_int64_int64_l0_3 (y0 : Int) : Int :=
  IntKind.wrap IntKind.i64 (y0 + (1 : Int))

def slices_Max_int64_int64_l0_4 (y0 : Int) (y1 : Int) (y2 : List Int) : Int :=
  ifLt y1 (slices_Max_int64_int64_l0_a0 y0 y2) (slices_Max_int64_int64_l0_a0 y0 y2) y1

def JL_slices_Max_int64_int64_l0 : X_slices_Max_int64_int64_l0 → List (Nat × SV)
  | (y0, y1, _) => [(4, (.one ⟨false, [(.val (.int IntKind.i64 y0))]⟩)), (0, (.one ⟨false, [(.ref 0)]⟩)), (3, (.one ⟨false, [(.val (.int IntKind.i64 y1))]⟩))]

def JE_slices_Max_int64_int64_l0 : X_slices_Max_int64_int64_l0 → List (Nat × Entry)
  | (_, _, y2) => [(0, (.row false 2 (CTy.int IntKind.i64) y2))]

def XL_slices_Max_int64_int64_l0 : Nat → X_slices_Max_int64_int64_l0 → List (Nat × SV)
  | _, (_, y1, _) => [(3, (.one ⟨false, [(.val (.int IntKind.i64 y1))]⟩))]

def XE_slices_Max_int64_int64_l0 : Nat → X_slices_Max_int64_int64_l0 → List (Nat × Entry)
  | _, (_, _, y2) => [(0, (.row false 2 (CTy.int IntKind.i64) y2))]

def lt_slices_Max_int64_int64_l0 : X_slices_Max_int64_int64_l0 → LT X_slices_Max_int64_int64_l0
  | (y0, y1, y2) => .ite (slices_Max_int64_int64_l0_0 y0 y2) (.need [(slices_Max_int64_int64_l0_1 y0), (slices_Max_int64_int64_l0_0 y0 y2), (slices_Max_int64_int64_l0_2 y0 y2)] (.nrm ((slices_Max_int64_int64_l0_3 y0), (slices_Max_int64_int64_l0_4 y0 y1 y2), y2) [(0, 0)])) (.ext 0 [(0, 0)])

def rd_slices_Max_int64_int64_l0 (s : St) : Option X_slices_Max_int64_int64_l0 :=
  (match s.look 4 with
  | some ⟨none, (.one ⟨false, [(.val (.int IntKind.i64 y0))]⟩)⟩ =>
  (match s.look 0 with
  | some ⟨none, (.one ⟨false, [(.ref 0)]⟩)⟩ =>
  (match s.look 3 with
  | some ⟨none, (.one ⟨false, [(.val (.int IntKind.i64 y1))]⟩)⟩ =>
  (match s.ent 0 with
  | some (.row false 2 (CTy.int IntKind.i64) y2) =>
  some (y0, y1, y2)
  | _ => none)
  | _ => none)
  | _ => none)
  | _ => none)

def lp_slices_Max_int64_int64_l0 : Lp X_slices_Max_int64_int64_l0 where
  h := ⟨[12, 13, 14, 15, 18, 19, 20, 21, 22, 23, 3, 16, 17, 4], [0], [], []⟩
  JL := JL_slices_Max_int64_int64_l0
  JE := JE_slices_Max_int64_int64_l0
  XL := XL_slices_Max_int64_int64_l0
  XE := XE_slices_Max_int64_int64_l0
  q := fun j => match j with | _ => .exit 0
  tags := [0]
  lt := lt_slices_Max_int64_int64_l0
  fuel := fun (y0, y1, y2) => y0.natAbs + y1.natAbs + y2.length
  fix := fun (_, _, y2) (y0, y1, _) => (y0, y1, y2)
  σ := [(0, 0)]
  rd := rd_slices_Max_int64_int64_l0

theorem lpok_slices_Max_int64_int64_l0 : LoopOk Tryz.prog (fun k => Nat.blt k Tryz.f61.ntmps) lp_slices_Max_int64_int64_l0.F (loopAt Tryz.f61 0) := by
  refine Lp.ok (tbl := []) (lf := []) hmix lp_slices_Max_int64_int64_l0 (by kernel_rfl) (LOk.nil _) (fun _ => rfl) (fun _ _ => rfl) ?_ ?_ ?_ ?_ (fun _ => rfl) ?_
  · intro x; obtain ⟨y0, y1, y2⟩ := x; kernel_rfl
  · intro x; obtain ⟨y0, y1, y2⟩ := x; kernel_rfl
  · intro s x h
    have h : rd_slices_Max_int64_int64_l0 s = some x := h
    unfold rd_slices_Max_int64_int64_l0 at h
    repeat' split at h
    all_goals cases h
    exact ⟨absS_cons (by assumption) rfl (absS_cons (by assumption) rfl (absS_cons (by assumption) rfl (rfl))), absE_cons rfl (by assumption) rfl (rfl)⟩
  · intro x; obtain ⟨y0, y1, y2⟩ := x; kernel_rfl
  · intro x z; obtain ⟨y0, y1, y2⟩ := x; exact (And.intro rfl trivial)

def slices_Max_int64_int64_a0 (x0 : List Int) : Int × Int × List Int :=
  ((1 : Int), Option.getD x0[Int.toNat (0 : Int)]? (0 : Int), x0)

def slices_Max_int64_int64_0 (x0 : List Int) : Int :=
  Prod.fst (Prod.snd (Prod.snd (Lp.res lp_slices_Max_int64_int64_l0 (slices_Max_int64_int64_a0 x0))))

def slices_Max_int64_int64_1 (x0 : List Int) : Bool :=
  allT
  [!ltI (↑(List.length x0) : Int) (1 : Int), ltI (0 : Int) (↑(List.length x0) : Int), ltN (Int.toNat (0 : Int)) (List.length x0),
    Lp.fin lp_slices_Max_int64_int64_l0 (slices_Max_int64_int64_a0 x0)]

def F_slices_Max_int64_int64 : List SV → List Entry → Option Out
  | [.one ⟨false, [.ref 0]⟩], [.row false 2 (.int .i64) x0] => some ⟨(.one ⟨false, [(.val (.int IntKind.i64 (slices_Max_int64_int64_0 x0)))]⟩), [(.row false 2 (CTy.int IntKind.i64) x0)], [], [(slices_Max_int64_int64_1 x0)]⟩
  | _, _ => none

def p_slices_Max_int64_int64 : PF Tryz.prog := PF.ofG Tryz.prog [] [lp_slices_Max_int64_int64_l0.F] hmix 61 Tryz.f61 Tryz.func61 (LOk.fnT (l := [loopAt Tryz.f61 0]) (by kernel_rfl) (.cons lpok_slices_Max_int64_int64_l0 (.nil _))) F_slices_Max_int64_int64 (by
  intro vs es r h; unfold F_slices_Max_int64_int64 at h; split at h
  · cases h; kernel_rfl
  · cases h)

abbrev X_laws_eqInt64S_l0 := Int × List Int × List Int

def laws_eqInt64S_l0_0 (y0 : Int) (y1 : List Int) : Bool :=
  ltI y0 (↑(List.length y1) : Int)

def laws_eqInt64S_l0_1 (y0 : Int) : Bool :=
  leI (0 : Int) y0

def laws_eqInt64S_l0_2 (y0 : Int) (y1 : List Int) : Bool :=
  ltN (Int.toNat y0) (List.length y1)

def laws_eqInt64S_l0_3 (y0 : Int) (y2 : List Int) : Bool :=
  ltI y0 (↑(List.length y2) : Int)

def laws_eqInt64S_l0_4 (y0 : Int) (y2 : List Int) : Bool :=
  ltN (Int.toNat y0) (List.length y2)

def laws_eqInt64S_l0_5 (y0 : Int) (y1 : List Int) (y2 : List Int) : Bool :=
  Option.getD y1[Int.toNat y0]? (0 : Int) != Option.getD y2[Int.toNat y0]? (0 : Int)

def laws_eqInt64S_l0_6 (y0 : Int) : Int :=
  IntKind.wrap IntKind.i64 (y0 + (1 : Int))

def JL_laws_eqInt64S_l0 : X_laws_eqInt64S_l0 → List (Nat × SV)
  | (y0, _, _) => [(5, (.one ⟨false, [(.val (.int IntKind.i64 y0))]⟩)), (0, (.one ⟨false, [(.ref 0)]⟩)), (1, (.one ⟨false, [(.ref 1)]⟩))]

def JE_laws_eqInt64S_l0 : X_laws_eqInt64S_l0 → List (Nat × Entry)
  | (_, y1, y2) => [(0, (.row false 2 (CTy.int IntKind.i64) y1)), (1, (.row false 2 (CTy.int IntKind.i64) y2))]

def XL_laws_eqInt64S_l0 : Nat → X_laws_eqInt64S_l0 → List (Nat × SV)
  | 0, (_, _, _) => [(4, (.one ⟨false, [(.val (.bool false))]⟩))]
  | _, (_, _, _) => []

def XE_laws_eqInt64S_l0 : Nat → X_laws_eqInt64S_l0 → List (Nat × Entry)
  | 0, (_, y1, y2) => [(0, (.row false 2 (CTy.int IntKind.i64) y1)), (1, (.row false 2 (CTy.int IntKind.i64) y2))]
  | _, (_, y1, y2) => [(0, (.row false 2 (CTy.int IntKind.i64) y1)), (1, (.row false 2 (CTy.int IntKind.i64) y2))]

def lt_laws_eqInt64S_l0 : X_laws_eqInt64S_l0 → LT X_laws_eqInt64S_l0
  | (y0, y1, y2) => .ite (laws_eqInt64S_l0_0 y0 y1) (.need [(laws_eqInt64S_l0_1 y0), (laws_eqInt64S_l0_0 y0 y1), (laws_eqInt64S_l0_2 y0 y1), (laws_eqInt64S_l0_1 y0), (laws_eqInt64S_l0_3 y0 y2), (laws_eqInt64S_l0_4 y0 y2)] (.ite (laws_eqInt64S_l0_5 y0 y1 y2) (.ext 0 [(0, 0), (1, 1)]) (.nrm ((laws_eqInt64S_l0_6 y0), y1, y2) [(0, 0), (1, 1)]))) (.ext 1 [(0, 0), (1, 1)])

def rd_laws_eqInt64S_l0 (s : St) : Option X_laws_eqInt64S_l0 :=
  (match s.look 5 with
  | some ⟨none, (.one ⟨false, [(.val (.int IntKind.i64 y0))]⟩)⟩ =>
  (match s.look 0 with
  | some ⟨none, (.one ⟨false, [(.ref 0)]⟩)⟩ =>
  (match s.look 1 with
  | some ⟨none, (.one ⟨false, [(.ref 1)]⟩)⟩ =>
  (match s.ent 0 with
  | some (.row false 2 (CTy.int IntKind.i64) y1) =>
  (match s.ent 1 with
  | some (.row false 2 (CTy.int IntKind.i64) y2) =>
  some (y0, y1, y2)
  | _ => none)
  | _ => none)
  | _ => none)
  | _ => none)
  | _ => none)

def lp_laws_eqInt64S_l0 : Lp X_laws_eqInt64S_l0 where
  h := ⟨[11, 12, 13, 14, 17, 18, 19, 20, 21, 22, 23, 24, 25, 4, 15, 16, 5], [0, 1], [], []⟩
  JL := JL_laws_eqInt64S_l0
  JE := JE_laws_eqInt64S_l0
  XL := XL_laws_eqInt64S_l0
  XE := XE_laws_eqInt64S_l0
  q := fun j => match j with | 0 => .ret | _ => .exit 0
  tags := [0, 1]
  lt := lt_laws_eqInt64S_l0
  fuel := fun (y0, y1, y2) => y0.natAbs + y1.length + y2.length
  fix := fun (_, y1, y2) (y0, _, _) => (y0, y1, y2)
  σ := [(0, 0), (1, 1)]
  rd := rd_laws_eqInt64S_l0

theorem lpok_laws_eqInt64S_l0 : LoopOk Tryz.prog (fun k => Nat.blt k Tryz.f65.ntmps) lp_laws_eqInt64S_l0.F (loopAt Tryz.f65 0) := by
  refine Lp.ok (tbl := []) (lf := []) hmix lp_laws_eqInt64S_l0 (by kernel_rfl) (LOk.nil _) (fun _ => rfl) (fun j _ => by unfold lp_laws_eqInt64S_l0; match j with | 0 => rfl | _ + 1 => rfl) ?_ ?_ ?_ ?_ (fun _ => rfl) ?_
  · intro x; obtain ⟨y0, y1, y2⟩ := x; kernel_rfl
  · intro x; obtain ⟨y0, y1, y2⟩ := x; kernel_rfl
  · intro s x h
    have h : rd_laws_eqInt64S_l0 s = some x := h
    unfold rd_laws_eqInt64S_l0 at h
    repeat' split at h
    all_goals cases h
    exact ⟨absS_cons (by assumption) rfl (absS_cons (by assumption) rfl (absS_cons (by assumption) rfl (rfl))), absE_cons rfl (by assumption) rfl (absE_cons rfl (by assumption) rfl (rfl))⟩
  · intro x; obtain ⟨y0, y1, y2⟩ := x; kernel_rfl
  · intro x z; obtain ⟨y0, y1, y2⟩ := x; exact (And.intro (And.intro trivial rfl) trivial)

def laws_eqInt64S_a0 (x0 : List Int) (x1 : List Int) : Bool :=
  (↑(List.length x0) : Int) != (↑(List.length x1) : Int)

def laws_eqInt64S_a1 (x0 : List Int) (x1 : List Int) : Int × List Int × List Int :=
  ((0 : Int), x0, x1)

def laws_eqInt64S_0 (x0 : List Int) (x1 : List Int) : Bool :=
  bif laws_eqInt64S_a0 x0 x1 then false else bif Nat.beq (Prod.fst (Lp.res lp_laws_eqInt64S_l0 (laws_eqInt64S_a1 x0 x1))) (0 : Nat) then false else true

def laws_eqInt64S_1 (x0 : List Int) (x1 : List Int) : Bool :=
  allT [laws_eqInt64S_a0 x0 x1 || Lp.fin lp_laws_eqInt64S_l0 (laws_eqInt64S_a1 x0 x1)]

def F_laws_eqInt64S : List SV → List Entry → Option Out
  | [.one ⟨false, [.ref 0]⟩, .one ⟨false, [.ref 1]⟩], [.row false 2 (.int .i64) x0, .row false 2 (.int .i64) x1] => some ⟨(.one ⟨false, [(.val (.bool (laws_eqInt64S_0 x0 x1)))]⟩), [(.row false 2 (CTy.int IntKind.i64) x0), (.row false 2 (CTy.int IntKind.i64) x1)], [], [(laws_eqInt64S_1 x0 x1)]⟩
  | _, _ => none

def p_laws_eqInt64S : PF Tryz.prog := PF.ofG Tryz.prog [] [lp_laws_eqInt64S_l0.F] hmix 65 Tryz.f65 Tryz.func65 (LOk.fnT (l := [loopAt Tryz.f65 0]) (by kernel_rfl) (.cons lpok_laws_eqInt64S_l0 (.nil _))) F_laws_eqInt64S (by
  intro vs es r h; unfold F_laws_eqInt64S at h; split at h
  · cases h; kernel_rfl
  · cases h)

end Go.SX

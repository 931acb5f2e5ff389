/- What functions of the program come to, row by row (made by a program of the workplace). -/
import Derived.Test.YtepaifhehlpbaaaDoorTXh
import Derived.Test.YtepaifhehlpbaaaDoorProg
namespace Go.SX
open Go.Proofs
set_option maxRecDepth 100000
theorem hmix : Tryd.prog.follows .mixedOrders = true := by kernel_rfl

def spec_l01In_0 (x0 : Int) (x1 : Int) (x2 : Int) : Bool :=
  bif leI x1 x0 then leI x0 x2 else false

def F_spec_l01In : List SV → List Entry → Option Out
  | [.one ⟨false, [.val (.int .i64 x0)]⟩, .one ⟨false, [.val (.int .i64 x1)]⟩, .one ⟨false, [.val (.int .i64 x2)]⟩], [] => some ⟨(.one ⟨false, [(.val (.bool (spec_l01In_0 x0 x1 x2)))]⟩), [], [], []⟩
  | _, _ => none

def p_spec_l01In : PF Tryd.prog := PF.ofG Tryd.prog [] [] hmix 108 Tryd.f108 Tryd.func108 (fun c _ => LOk.nil c) F_spec_l01In (by
  intro vs es r h; unfold F_spec_l01In at h; split at h
  · cases h; kernel_rfl
  · cases h)

abbrev X_laws_toInt64S_l0 := Int × List Int × List Int

def laws_toInt64S_l0_0 (y0 : Int) (y1 : List Int) : Bool :=
  ltI y0 (↑(List.length y1) : Int)

def laws_toInt64S_l0_1 (y0 : Int) : Bool :=
  leI (0 : Int) y0

def laws_toInt64S_l0_2 (y0 : Int) (y1 : List Int) : Bool :=
  ltN (Int.toNat y0) (List.length y1)

def laws_toInt64S_l0_3 (y0 : Int) (y2 : List Int) : Bool :=
  ltI y0 (↑(List.length y2) : Int)

def laws_toInt64S_l0_4 (y0 : Int) (y2 : List Int) : Bool :=
  ltN (Int.toNat y0) (List.length y2)

def laws_toInt64S_l0_5 (y0 : Int) : Int :=
  IntKind.wrap IntKind.i64 (y0 + (1 : Int))

def laws_toInt64S_l0_6 (y0 : Int) (y1 : List Int) (y2 : List Int) : List Int :=
  List.set y2 (Int.toNat y0) (Option.getD y1[Int.toNat y0]? (0 : Int))

def JL_laws_toInt64S_l0 : X_laws_toInt64S_l0 → List (Nat × SV)
  | (y0, _, _) => [(4, (.one ⟨false, [(.val (.int IntKind.i64 y0))]⟩)), (0, (.one ⟨false, [(.ref 0)]⟩)), (3, (.one ⟨false, [(.ref 1)]⟩))]

def JE_laws_toInt64S_l0 : X_laws_toInt64S_l0 → List (Nat × Entry)
  | (_, y1, y2) => [(0, (.row false 2 (CTy.int IntKind.i64) y1)), (1, (.row true 2 (CTy.int IntKind.i64) y2))]

def XL_laws_toInt64S_l0 : Nat → X_laws_toInt64S_l0 → List (Nat × SV)
  | _, (_, _, _) => []

def XE_laws_toInt64S_l0 : Nat → X_laws_toInt64S_l0 → List (Nat × Entry)
  | _, (_, y1, y2) => [(0, (.row false 2 (CTy.int IntKind.i64) y1)), (1, (.row true 2 (CTy.int IntKind.i64) y2))]

def lt_laws_toInt64S_l0 : X_laws_toInt64S_l0 → LT X_laws_toInt64S_l0
  | (y0, y1, y2) => .ite (laws_toInt64S_l0_0 y0 y1) (.need [(laws_toInt64S_l0_1 y0), (laws_toInt64S_l0_0 y0 y1), (laws_toInt64S_l0_2 y0 y1), (laws_toInt64S_l0_1 y0), (laws_toInt64S_l0_3 y0 y2), (laws_toInt64S_l0_4 y0 y2)] (.nrm ((laws_toInt64S_l0_5 y0), y1, (laws_toInt64S_l0_6 y0 y1 y2)) [(0, 0), (1, 1)])) (.ext 0 [(0, 0), (1, 1)])

def rd_laws_toInt64S_l0 (s : St) : Option X_laws_toInt64S_l0 :=
  (match s.look 4 with
  | some ⟨none, (.one ⟨false, [(.val (.int IntKind.i64 y0))]⟩)⟩ =>
  (match s.look 0 with
  | some ⟨none, (.one ⟨false, [(.ref 0)]⟩)⟩ =>
  (match s.look 3 with
  | some ⟨none, (.one ⟨false, [(.ref 320)]⟩)⟩ =>
  (match s.ent 0 with
  | some (.row false 2 (CTy.int IntKind.i64) y1) =>
  (match s.ent 320 with
  | some (.row true 2 (CTy.int IntKind.i64) y2) =>
  some (y0, y1, y2)
  | _ => none)
  | _ => none)
  | _ => none)
  | _ => none)
  | _ => none)

def lp_laws_toInt64S_l0 : Lp X_laws_toInt64S_l0 where
  h := ⟨[8, 9, 10, 11, 14, 15, 16, 17, 18, 19, 20, 12, 13, 4], [0, 1], [], []⟩
  JL := JL_laws_toInt64S_l0
  JE := JE_laws_toInt64S_l0
  XL := XL_laws_toInt64S_l0
  XE := XE_laws_toInt64S_l0
  q := fun j => match j with | _ => .exit 0
  tags := [0]
  lt := lt_laws_toInt64S_l0
  fuel := fun (y0, y1, y2) => y0.natAbs + y1.length + y2.length
  fix := fun (_, y1, _) (y0, _, y2) => (y0, y1, y2)
  σ := [(0, 0), (1, 320)]
  rd := rd_laws_toInt64S_l0

theorem lpok_laws_toInt64S_l0 : LoopOk Tryd.prog (fun k => Nat.blt k Tryd.f14.ntmps) lp_laws_toInt64S_l0.F (loopAt Tryd.f14 0) := by
  refine Lp.ok (tbl := []) (lf := []) hmix lp_laws_toInt64S_l0 (by kernel_rfl) (LOk.nil _) (fun _ => rfl) (fun _ _ => rfl) ?_ ?_ ?_ ?_ (fun _ => rfl) ?_
  · intro x; obtain ⟨y0, y1, y2⟩ := x; kernel_rfl
  · intro x; obtain ⟨y0, y1, y2⟩ := x; kernel_rfl
  · intro s x h
    have h : rd_laws_toInt64S_l0 s = some x := h
    unfold rd_laws_toInt64S_l0 at h
    repeat' split at h
    all_goals cases h
    exact ⟨absS_cons (by assumption) rfl (absS_cons (by assumption) rfl (absS_cons (by assumption) rfl (rfl))), absE_cons rfl (by assumption) rfl (absE_cons rfl (by assumption) rfl (rfl))⟩
  · intro x; obtain ⟨y0, y1, y2⟩ := x; kernel_rfl
  · intro x z; obtain ⟨y0, y1, y2⟩ := x; exact (And.intro rfl trivial)

def laws_toInt64S_a0 (x0 : List Int) : Int × List Int × List Int :=
  ((0 : Int), x0, List.replicate (Int.toNat (↑(List.length x0) : Int)) (0 : Int))

def laws_toInt64S_0 (x0 : List Int) : List Int :=
  Prod.snd (Prod.snd (Prod.snd (Lp.res lp_laws_toInt64S_l0 (laws_toInt64S_a0 x0))))

def laws_toInt64S_1 (x0 : List Int) : Bool :=
  allT
  [leI (0 : Int) (↑(List.length x0) : Int), leI (↑(List.length x0) : Int) (↑(List.length x0) : Int),
    leI ((↑(8 : Nat) : Int) * (↑(List.length x0) : Int)) (281474976710656 : Int), leI (↑(List.length x0) : Int) (9223372036854775807 : Int),
    Lp.fin lp_laws_toInt64S_l0 (laws_toInt64S_a0 x0)]

def F_laws_toInt64S : List SV → List Entry → Option Out
  | [.one ⟨false, [.ref 0]⟩], [.row false 2 (.int .i64) x0] => some ⟨(.one ⟨false, [(.ref 1)]⟩), [(.row false 2 (CTy.int IntKind.i64) x0)], [(.row true 2 (CTy.int IntKind.i64) (laws_toInt64S_0 x0))], [(laws_toInt64S_1 x0)]⟩
  | _, _ => none

def p_laws_toInt64S : PF Tryd.prog := PF.ofG Tryd.prog [] [lp_laws_toInt64S_l0.F] hmix 14 Tryd.f14 Tryd.func14 (LOk.fnT (l := [loopAt Tryd.f14 0]) (by kernel_rfl) (.cons lpok_laws_toInt64S_l0 (.nil _))) F_laws_toInt64S (by
  intro vs es r h; unfold F_laws_toInt64S at h; split at h
  · cases h; kernel_rfl
  · cases h)

def impl_within_0 (x0 : Int) (x1 : Int) (x2 : Int) : Bool :=
  bif leI x1 x0 then leI x0 x2 else false

def F_impl_within : List SV → List Entry → Option Out
  | [.one ⟨false, [.val (.int .i64 x0)]⟩, .one ⟨false, [.val (.int .i64 x1)]⟩, .one ⟨false, [.val (.int .i64 x2)]⟩], [] => some ⟨(.one ⟨false, [(.val (.bool (impl_within_0 x0 x1 x2)))]⟩), [], [], []⟩
  | _, _ => none

def p_impl_within : PF Tryd.prog := PF.ofG Tryd.prog [] [] hmix 109 Tryd.f109 Tryd.func109 (fun c _ => LOk.nil c) F_impl_within (by
  intro vs es r h; unfold F_impl_within at h; split at h
  · cases h; kernel_rfl
  · cases h)

abbrev X_laws_eqInt64S_l0 := Int × List Int × List Int

def laws_eqInt64S_l0_0 (y0 : Int) (y1 : List Int) : Bool :=
  ltI y0 (↑(List.length y1) : Int)

def laws_eqInt64S_l0_1 (y0 : Int) : Bool :=
  leI (0 : Int) y0

def laws_eqInt64S_l0_2 (y0 : Int) (y1 : List Int) : Bool :=
  ltN (Int.toNat y0) (List.length y1)

def laws_eqInt64S_l0_3 (y0 : Int) (y2 : List Int) : Bool :=
  ltI y0 (↑(List.length y2) : Int)

def laws_eqInt64S_l0_4 (y0 : Int) (y2 : List Int) : Bool :=
  ltN (Int.toNat y0) (List.length y2)

def laws_eqInt64S_l0_5 (y0 : Int) (y1 : List Int) (y2 : List Int) : Bool :=
  Option.getD y1[Int.toNat y0]? (0 : Int) != Option.getD y2[Int.toNat y0]? (0 : Int)

def laws_eqInt64S_l0_6 (y0 : Int) : Int :=
  IntKind.wrap IntKind.i64 (y0 + (1 : Int))

def JL_laws_eqInt64S_l0 : X_laws_eqInt64S_l0 → List (Nat × SV)
  | (y0, _, _) => [(5, (.one ⟨false, [(.val (.int IntKind.i64 y0))]⟩)), (0, (.one ⟨false, [(.ref 0)]⟩)), (1, (.one ⟨false, [(.ref 1)]⟩))]

def JE_laws_eqInt64S_l0 : X_laws_eqInt64S_l0 → List (Nat × Entry)
  | (_, y1, y2) => [(0, (.row false 2 (CTy.int IntKind.i64) y1)), (1, (.row false 2 (CTy.int IntKind.i64) y2))]

def XL_laws_eqInt64S_l0 : Nat → X_laws_eqInt64S_l0 → List (Nat × SV)
  | 0, (_, _, _) => [(4, (.one ⟨false, [(.val (.bool false))]⟩))]
  | _, (_, _, _) => []

def XE_laws_eqInt64S_l0 : Nat → X_laws_eqInt64S_l0 → List (Nat × Entry)
  | 0, (_, y1, y2) => [(0, (.row false 2 (CTy.int IntKind.i64) y1)), (1, (.row false 2 (CTy.int IntKind.i64) y2))]
  | _, (_, y1, y2) => [(0, (.row false 2 (CTy.int IntKind.i64) y1)), (1, (.row false 2 (CTy.int IntKind.i64) y2))]

def lt_laws_eqInt64S_l0 : X_laws_eqInt64S_l0 → LT X_laws_eqInt64S_l0
  | (y0, y1, y2) => .ite (laws_eqInt64S_l0_0 y0 y1) (.need [(laws_eqInt64S_l0_1 y0), (laws_eqInt64S_l0_0 y0 y1), (laws_eqInt64S_l0_2 y0 y1), (laws_eqInt64S_l0_1 y0), (laws_eqInt64S_l0_3 y0 y2), (laws_eqInt64S_l0_4 y0 y2)] (.ite (laws_eqInt64S_l0_5 y0 y1 y2) (.ext 0 [(0, 0), (1, 1)]) (.nrm ((laws_eqInt64S_l0_6 y0), y1, y2) [(0, 0), (1, 1)]))) (.ext 1 [(0, 0), (1, 1)])

def rd_laws_eqInt64S_l0 (s : St) : Option X_laws_eqInt64S_l0 :=
  (match s.look 5 with
  | some ⟨none, (.one ⟨false, [(.val (.int IntKind.i64 y0))]⟩)⟩ =>
  (match s.look 0 with
  | some ⟨none, (.one ⟨false, [(.ref 0)]⟩)⟩ =>
  (match s.look 1 with
  | some ⟨none, (.one ⟨false, [(.ref 1)]⟩)⟩ =>
  (match s.ent 0 with
  | some (.row false 2 (CTy.int IntKind.i64) y1) =>
  (match s.ent 1 with
  | some (.row false 2 (CTy.int IntKind.i64) y2) =>
  some (y0, y1, y2)
  | _ => none)
  | _ => none)
  | _ => none)
  | _ => none)
  | _ => none)

def lp_laws_eqInt64S_l0 : Lp X_laws_eqInt64S_l0 where
  h := ⟨[11, 12, 13, 14, 17, 18, 19, 20, 21, 22, 23, 24, 25, 4, 15, 16, 5], [0, 1], [], []⟩
  JL := JL_laws_eqInt64S_l0
  JE := JE_laws_eqInt64S_l0
  XL := XL_laws_eqInt64S_l0
  XE := XE_laws_eqInt64S_l0
  q := fun j => match j with | 0 => .ret | _ => .exit 0
  tags := [0, 1]
  lt := lt_laws_eqInt64S_l0
  fuel := fun (y0, y1, y2) => y0.natAbs + y1.length + y2.length
  fix := fun (_, y1, y2) (y0, _, _) => (y0, y1, y2)
  σ := [(0, 0), (1, 1)]
  rd := rd_laws_eqInt64S_l0

theorem lpok_laws_eqInt64S_l0 : LoopOk Tryd.prog (fun k => Nat.blt k Tryd.f17.ntmps) lp_laws_eqInt64S_l0.F (loopAt Tryd.f17 0) := by
  refine Lp.ok (tbl := []) (lf := []) hmix lp_laws_eqInt64S_l0 (by kernel_rfl) (LOk.nil _) (fun _ => rfl) (fun j _ => by unfold lp_laws_eqInt64S_l0; match j with | 0 => rfl | _ + 1 => rfl) ?_ ?_ ?_ ?_ (fun _ => rfl) ?_
  · intro x; obtain ⟨y0, y1, y2⟩ := x; kernel_rfl
  · intro x; obtain ⟨y0, y1, y2⟩ := x; kernel_rfl
  · intro s x h
    have h : rd_laws_eqInt64S_l0 s = some x := h
    unfold rd_laws_eqInt64S_l0 at h
    repeat' split at h
    all_goals cases h
    exact ⟨absS_cons (by assumption) rfl (absS_cons (by assumption) rfl (absS_cons (by assumption) rfl (rfl))), absE_cons rfl (by assumption) rfl (absE_cons rfl (by assumption) rfl (rfl))⟩
  · intro x; obtain ⟨y0, y1, y2⟩ := x; kernel_rfl
  · intro x z; obtain ⟨y0, y1, y2⟩ := x; exact (And.intro (And.intro trivial rfl) trivial)

def laws_eqInt64S_a0 (x0 : List Int) (x1 : List Int) : Bool :=
  (↑(List.length x0) : Int) != (↑(List.length x1) : Int)

def laws_eqInt64S_a1 (x0 : List Int) (x1 : List Int) : Int × List Int × List Int :=
  ((0 : Int), x0, x1)

def laws_eqInt64S_0 (x0 : List Int) (x1 : List Int) : Bool :=
  bif laws_eqInt64S_a0 x0 x1 then false else bif Nat.beq (Prod.fst (Lp.res lp_laws_eqInt64S_l0 (laws_eqInt64S_a1 x0 x1))) (0 : Nat) then false else true

def laws_eqInt64S_1 (x0 : List Int) (x1 : List Int) : Bool :=
  allT [laws_eqInt64S_a0 x0 x1 || Lp.fin lp_laws_eqInt64S_l0 (laws_eqInt64S_a1 x0 x1)]

def F_laws_eqInt64S : List SV → List Entry → Option Out
  | [.one ⟨false, [.ref 0]⟩, .one ⟨false, [.ref 1]⟩], [.row false 2 (.int .i64) x0, .row false 2 (.int .i64) x1] => some ⟨(.one ⟨false, [(.val (.bool (laws_eqInt64S_0 x0 x1)))]⟩), [(.row false 2 (CTy.int IntKind.i64) x0), (.row false 2 (CTy.int IntKind.i64) x1)], [], [(laws_eqInt64S_1 x0 x1)]⟩
  | _, _ => none

def p_laws_eqInt64S : PF Tryd.prog := PF.ofG Tryd.prog [] [lp_laws_eqInt64S_l0.F] hmix 17 Tryd.f17 Tryd.func17 (LOk.fnT (l := [loopAt Tryd.f17 0]) (by kernel_rfl) (.cons lpok_laws_eqInt64S_l0 (.nil _))) F_laws_eqInt64S (by
  intro vs es r h; unfold F_laws_eqInt64S at h; split at h
  · cases h; kernel_rfl
  · cases h)

def spec_l01Own_0 (x0 : List Int) : Bool :=
  allT [leN ((0 : Nat) + List.length x0) (9223372036854775807 : Nat), leN (((0 : Nat) + List.length x0) * (8 : Nat)) (140737488355328 : Nat)]

def F_spec_l01Own : List SV → List Entry → Option Out
  | [.one ⟨false, [.ref 0]⟩], [.row false 2 (.int .i64) x0] => some ⟨(.one ⟨false, [(.ref 1)]⟩), [(.row false 2 (CTy.int IntKind.i64) x0)], [(.row true 2 (CTy.int IntKind.i64) x0)], [(spec_l01Own_0 x0)]⟩
  | _, _ => none

def p_spec_l01Own : PF Tryd.prog := PF.ofG Tryd.prog [] [] hmix 63 Tryd.f63 Tryd.func63 (fun c _ => LOk.nil c) F_spec_l01Own (by
  intro vs es r h; unfold F_spec_l01Own at h; split at h
  · cases h; kernel_rfl
  · cases h)

def laws_szInt64S_a0 (x0 : Int) (x1 : List Int) : Int :=
  IntKind.wrap IntKind.i64 (x0 - (↑(List.length x1) : Int))

def laws_szInt64S_0 (x0 : Int) (x1 : List Int) : Int :=
  bif ltI (laws_szInt64S_a0 x0 x1) (0 : Int) then (-1 : Int) else laws_szInt64S_a0 x0 x1

def F_laws_szInt64S : List SV → List Entry → Option Out
  | [.one ⟨false, [.ref 0]⟩, .one ⟨false, [.val (.int .i64 x0)]⟩], [.row false 2 (.int .i64) x1] => some ⟨(.one ⟨false, [(.val (.int IntKind.i64 (laws_szInt64S_0 x0 x1)))]⟩), [(.row false 2 (CTy.int IntKind.i64) x1)], [], []⟩
  | _, _ => none

def p_laws_szInt64S : PF Tryd.prog := PF.ofG Tryd.prog [] [] hmix 72 Tryd.f72 Tryd.func72 (fun c _ => LOk.nil c) F_laws_szInt64S (by
  intro vs es r h; unfold F_laws_szInt64S at h; split at h
  · cases h; kernel_rfl
  · cases h)

abbrev X_laws_markInt64S_l0 := Int × Int × List Int

def laws_markInt64S_l0_0 (y0 : Int) (y2 : List Int) : Bool :=
  ltI y0 (↑(List.length y2) : Int)

def laws_markInt64S_l0_1 (y0 : Int) : Bool :=
  leI (0 : Int) y0

def laws_markInt64S_l0_2 (y0 : Int) (y2 : List Int) : Bool :=
  ltN (Int.toNat y0) (List.length y2)

def laws_markInt64S_l0_3 (y0 : Int) : Int :=
  IntKind.wrap IntKind.i64 (y0 + (1 : Int))

def laws_markInt64S_l0_4 (y1 : Int) : Int :=
  IntKind.wrap IntKind.i64 (y1 + (1 : Int))

def laws_markInt64S_l0_5 (y0 : Int) (y1 : Int) (y2 : List Int) : List Int :=
  List.set y2 (Int.toNat y0) y1

def JL_laws_markInt64S_l0 : X_laws_markInt64S_l0 → List (Nat × SV)
  | (y0, y1, _) => [(5, (.one ⟨false, [(.val (.int IntKind.i64 y0))]⟩)), (0, (.one ⟨false, [(.ref 0)]⟩)), (1, (.one ⟨false, [(.val (.int IntKind.i64 y1))]⟩))]

def JE_laws_markInt64S_l0 : X_laws_markInt64S_l0 → List (Nat × Entry)
  | (_, _, y2) => [(0, (.row true 2 (CTy.int IntKind.i64) y2))]

def XL_laws_markInt64S_l0 : Nat → X_laws_markInt64S_l0 → List (Nat × SV)
  | _, (_, y1, _) => [(1, (.one ⟨false, [(.val (.int IntKind.i64 y1))]⟩))]

def XE_laws_markInt64S_l0 : Nat → X_laws_markInt64S_l0 → List (Nat × Entry)
  | _, (_, _, y2) => [(0, (.row true 2 (CTy.int IntKind.i64) y2))]

def lt_laws_markInt64S_l0 : X_laws_markInt64S_l0 → LT X_laws_markInt64S_l0
  | (y0, y1, y2) => .ite (laws_markInt64S_l0_0 y0 y2) (.need [(laws_markInt64S_l0_1 y0), (laws_markInt64S_l0_0 y0 y2), (laws_markInt64S_l0_2 y0 y2)] (.nrm ((laws_markInt64S_l0_3 y0), (laws_markInt64S_l0_4 y1), (laws_markInt64S_l0_5 y0 y1 y2)) [(0, 0)])) (.ext 0 [(0, 0)])

def rd_laws_markInt64S_l0 (s : St) : Option X_laws_markInt64S_l0 :=
  (match s.look 5 with
  | some ⟨none, (.one ⟨false, [(.val (.int IntKind.i64 y0))]⟩)⟩ =>
  (match s.look 0 with
  | some ⟨none, (.one ⟨false, [(.ref 0)]⟩)⟩ =>
  (match s.look 1 with
  | some ⟨none, (.one ⟨false, [(.val (.int IntKind.i64 y1))]⟩)⟩ =>
  (match s.ent 0 with
  | some (.row true 2 (CTy.int IntKind.i64) y2) =>
  some (y0, y1, y2)
  | _ => none)
  | _ => none)
  | _ => none)
  | _ => none)

def lp_laws_markInt64S_l0 : Lp X_laws_markInt64S_l0 where
  h := ⟨[6, 7, 8, 9, 12, 13, 14, 15, 16, 17, 1, 10, 11, 5], [0], [], []⟩
  JL := JL_laws_markInt64S_l0
  JE := JE_laws_markInt64S_l0
  XL := XL_laws_markInt64S_l0
  XE := XE_laws_markInt64S_l0
  q := fun j => match j with | _ => .exit 0
  tags := [0]
  lt := lt_laws_markInt64S_l0
  fuel := fun (y0, y1, y2) => y0.natAbs + y1.natAbs + y2.length
  fix := fun (_, _, _) (y0, y1, y2) => (y0, y1, y2)
  σ := [(0, 0)]
  rd := rd_laws_markInt64S_l0

theorem lpok_laws_markInt64S_l0 : LoopOk Tryd.prog (fun k => Nat.blt k Tryd.f35.ntmps) lp_laws_markInt64S_l0.F (loopAt Tryd.f35 0) := by
  refine Lp.ok (tbl := []) (lf := []) hmix lp_laws_markInt64S_l0 (by kernel_rfl) (LOk.nil _) (fun _ => rfl) (fun _ _ => rfl) ?_ ?_ ?_ ?_ (fun _ => rfl) ?_
  · intro x; obtain ⟨y0, y1, y2⟩ := x; kernel_rfl
  · intro x; obtain ⟨y0, y1, y2⟩ := x; kernel_rfl
  · intro s x h
    have h : rd_laws_markInt64S_l0 s = some x := h
    unfold rd_laws_markInt64S_l0 at h
    repeat' split at h
    all_goals cases h
    exact ⟨absS_cons (by assumption) rfl (absS_cons (by assumption) rfl (absS_cons (by assumption) rfl (rfl))), absE_cons rfl (by assumption) rfl (rfl)⟩
  · intro x; obtain ⟨y0, y1, y2⟩ := x; kernel_rfl
  · intro x z; obtain ⟨y0, y1, y2⟩ := x; exact (And.intro rfl trivial)

def laws_markInt64S_a0 (x0 : Int) (x1 : List Int) : Int × Int × List Int :=
  ((0 : Int), x0, x1)

def laws_markInt64S_a1 (x0 : Int) (x1 : List Int) : Int × List Int :=
  Prod.snd (Prod.snd (Lp.res lp_laws_markInt64S_l0 (laws_markInt64S_a0 x0 x1)))

def laws_markInt64S_0 (x0 : Int) (x1 : List Int) : Int :=
  Prod.fst (laws_markInt64S_a1 x0 x1)

def laws_markInt64S_1 (x0 : Int) (x1 : List Int) : List Int :=
  Prod.snd (laws_markInt64S_a1 x0 x1)

def laws_markInt64S_2 (x0 : Int) (x1 : List Int) : Bool :=
  allT [Lp.fin lp_laws_markInt64S_l0 (laws_markInt64S_a0 x0 x1)]

def F_laws_markInt64S : List SV → List Entry → Option Out
  | [.one ⟨false, [.ref 0]⟩, .one ⟨false, [.val (.int .i64 x0)]⟩], [.row true 2 (.int .i64) x1] => some ⟨(.one ⟨false, [(.val (.int IntKind.i64 (laws_markInt64S_0 x0 x1)))]⟩), [(.row true 2 (CTy.int IntKind.i64) (laws_markInt64S_1 x0 x1))], [], [(laws_markInt64S_2 x0 x1)]⟩
  | _, _ => none

def p_laws_markInt64S : PF Tryd.prog := PF.ofG Tryd.prog [] [lp_laws_markInt64S_l0.F] hmix 35 Tryd.f35 Tryd.func35 (LOk.fnT (l := [loopAt Tryd.f35 0]) (by kernel_rfl) (.cons lpok_laws_markInt64S_l0 (.nil _))) F_laws_markInt64S (by
  intro vs es r h; unfold F_laws_markInt64S at h; split at h
  · cases h; kernel_rfl
  · cases h)

abbrev X_laws_heldInt64S_l0 := Int × Int × List Int

def laws_heldInt64S_l0_0 (y0 : Int) (y2 : List Int) : Bool :=
  ltI y0 (↑(List.length y2) : Int)

def laws_heldInt64S_l0_1 (y0 : Int) : Bool :=
  leI (0 : Int) y0

def laws_heldInt64S_l0_2 (y0 : Int) (y2 : List Int) : Bool :=
  ltN (Int.toNat y0) (List.length y2)

def laws_heldInt64S_l0_3 (y0 : Int) (y1 : Int) (y2 : List Int) : Bool :=
  Option.getD y2[Int.toNat y0]? (0 : Int) != y1

def laws_heldInt64S_l0_4  : Int :=
  (-1 : Int)

def laws_heldInt64S_l0_5 (y0 : Int) : Int :=
  IntKind.wrap IntKind.i64 (y0 + (1 : Int))

def laws_heldInt64S_l0_6 (y1 : Int) : Int :=
  IntKind.wrap IntKind.i64 (y1 + (1 : Int))

def JL_laws_heldInt64S_l0 : X_laws_heldInt64S_l0 → List (Nat × SV)
  | (y0, y1, _) => [(5, (.one ⟨false, [(.val (.int IntKind.i64 y0))]⟩)), (0, (.one ⟨false, [(.ref 0)]⟩)), (1, (.one ⟨false, [(.val (.int IntKind.i64 y1))]⟩))]

def JE_laws_heldInt64S_l0 : X_laws_heldInt64S_l0 → List (Nat × Entry)
  | (_, _, y2) => [(0, (.row false 2 (CTy.int IntKind.i64) y2))]

def XL_laws_heldInt64S_l0 : Nat → X_laws_heldInt64S_l0 → List (Nat × SV)
  | 0, (_, _, _) => [(4, (.one ⟨false, [(.val (.int IntKind.i64 (laws_heldInt64S_l0_4)))]⟩))]
  | _, (_, y1, _) => [(1, (.one ⟨false, [(.val (.int IntKind.i64 y1))]⟩))]

def XE_laws_heldInt64S_l0 : Nat → X_laws_heldInt64S_l0 → List (Nat × Entry)
  | 0, (_, _, y2) => [(0, (.row false 2 (CTy.int IntKind.i64) y2))]
  | _, (_, _, y2) => [(0, (.row false 2 (CTy.int IntKind.i64) y2))]

def lt_laws_heldInt64S_l0 : X_laws_heldInt64S_l0 → LT X_laws_heldInt64S_l0
  | (y0, y1, y2) => .ite (laws_heldInt64S_l0_0 y0 y2) (.need [(laws_heldInt64S_l0_1 y0), (laws_heldInt64S_l0_0 y0 y2), (laws_heldInt64S_l0_2 y0 y2)] (.ite (laws_heldInt64S_l0_3 y0 y1 y2) (.ext 0 [(0, 0)]) (.nrm ((laws_heldInt64S_l0_5 y0), (laws_heldInt64S_l0_6 y1), y2) [(0, 0)]))) (.ext 1 [(0, 0)])

def rd_laws_heldInt64S_l0 (s : St) : Option X_laws_heldInt64S_l0 :=
  (match s.look 5 with
  | some ⟨none, (.one ⟨false, [(.val (.int IntKind.i64 y0))]⟩)⟩ =>
  (match s.look 0 with
  | some ⟨none, (.one ⟨false, [(.ref 0)]⟩)⟩ =>
  (match s.look 1 with
  | some ⟨none, (.one ⟨false, [(.val (.int IntKind.i64 y1))]⟩)⟩ =>
  (match s.ent 0 with
  | some (.row false 2 (CTy.int IntKind.i64) y2) =>
  some (y0, y1, y2)
  | _ => none)
  | _ => none)
  | _ => none)
  | _ => none)

def lp_laws_heldInt64S_l0 : Lp X_laws_heldInt64S_l0 where
  h := ⟨[6, 7, 8, 9, 12, 13, 14, 15, 16, 17, 4, 18, 19, 1, 10, 11, 5], [0], [], []⟩
  JL := JL_laws_heldInt64S_l0
  JE := JE_laws_heldInt64S_l0
  XL := XL_laws_heldInt64S_l0
  XE := XE_laws_heldInt64S_l0
  q := fun j => match j with | 0 => .ret | _ => .exit 0
  tags := [0, 1]
  lt := lt_laws_heldInt64S_l0
  fuel := fun (y0, y1, y2) => y0.natAbs + y1.natAbs + y2.length
  fix := fun (_, _, y2) (y0, y1, _) => (y0, y1, y2)
  σ := [(0, 0)]
  rd := rd_laws_heldInt64S_l0

theorem lpok_laws_heldInt64S_l0 : LoopOk Tryd.prog (fun k => Nat.blt k Tryd.f36.ntmps) lp_laws_heldInt64S_l0.F (loopAt Tryd.f36 0) := by
  refine Lp.ok (tbl := []) (lf := []) hmix lp_laws_heldInt64S_l0 (by kernel_rfl) (LOk.nil _) (fun _ => rfl) (fun j _ => by unfold lp_laws_heldInt64S_l0; match j with | 0 => rfl | _ + 1 => rfl) ?_ ?_ ?_ ?_ (fun _ => rfl) ?_
  · intro x; obtain ⟨y0, y1, y2⟩ := x; kernel_rfl
  · intro x; obtain ⟨y0, y1, y2⟩ := x; kernel_rfl
  · intro s x h
    have h : rd_laws_heldInt64S_l0 s = some x := h
    unfold rd_laws_heldInt64S_l0 at h
    repeat' split at h
    all_goals cases h
    exact ⟨absS_cons (by assumption) rfl (absS_cons (by assumption) rfl (absS_cons (by assumption) rfl (rfl))), absE_cons rfl (by assumption) rfl (rfl)⟩
  · intro x; obtain ⟨y0, y1, y2⟩ := x; kernel_rfl
  · intro x z; obtain ⟨y0, y1, y2⟩ := x; exact (And.intro (And.intro trivial rfl) trivial)

def laws_heldInt64S_a0 (x0 : Int) (x1 : List Int) : Int × Int × List Int :=
  ((0 : Int), x0, x1)

def laws_heldInt64S_0 (x0 : Int) (x1 : List Int) : Int :=
  bif Nat.beq (Prod.fst (Lp.res lp_laws_heldInt64S_l0 (laws_heldInt64S_a0 x0 x1))) (0 : Nat) then laws_heldInt64S_l0_4
  else Prod.fst (Prod.snd (Prod.snd (Lp.res lp_laws_heldInt64S_l0 (laws_heldInt64S_a0 x0 x1))))

def laws_heldInt64S_1 (x0 : Int) (x1 : List Int) : Bool :=
  allT [Lp.fin lp_laws_heldInt64S_l0 (laws_heldInt64S_a0 x0 x1)]

def F_laws_heldInt64S : List SV → List Entry → Option Out
  | [.one ⟨false, [.ref 0]⟩, .one ⟨false, [.val (.int .i64 x0)]⟩], [.row false 2 (.int .i64) x1] => some ⟨(.one ⟨false, [(.val (.int IntKind.i64 (laws_heldInt64S_0 x0 x1)))]⟩), [(.row false 2 (CTy.int IntKind.i64) x1)], [], [(laws_heldInt64S_1 x0 x1)]⟩
  | _, _ => none

def p_laws_heldInt64S : PF Tryd.prog := PF.ofG Tryd.prog [] [lp_laws_heldInt64S_l0.F] hmix 36 Tryd.f36 Tryd.func36 (LOk.fnT (l := [loopAt Tryd.f36 0]) (by kernel_rfl) (.cons lpok_laws_heldInt64S_l0 (.nil _))) F_laws_heldInt64S (by
  intro vs es r h; unfold F_laws_heldInt64S at h; split at h
  · cases h; kernel_rfl
  · cases h)

def slices_Clone_int64_int64_0 (x0 : List Int) : Bool :=
  allT
  [ltN (0 : Nat) (List.length x0), false || leN ((0 : Nat) + List.length x0) (9223372036854775807 : Nat),
    false || leN (((0 : Nat) + List.length x0) * (8 : Nat)) (140737488355328 : Nat)]

def F_slices_Clone_int64_int64 : List SV → List Entry → Option Out
  | [.one ⟨false, [.ref 0]⟩], [.row false 2 (.int .i64) x0] => some ⟨(.one ⟨false, [(.ref 1)]⟩), [(.row false 2 (CTy.int IntKind.i64) x0)], [(.row true 2 (CTy.int IntKind.i64) x0)], [(slices_Clone_int64_int64_0 x0)]⟩
  | _, _ => none

def p_slices_Clone_int64_int64 : PF Tryd.prog := PF.ofG Tryd.prog [] [] hmix 141 Tryd.f141 Tryd.func141 (fun c _ => LOk.nil c) F_slices_Clone_int64_int64 (by
  intro vs es r h; unfold F_slices_Clone_int64_int64 at h; split at h
  · cases h; kernel_rfl
  · cases h)

end Go.SX

/- What functions of the program come to, row by row (made by a program of the workplace). -/
import Derived.Test.YtepaifhehlpbaaaDoorTXh
import Derived.Test.YtepaifhehlpbaaaDoorProg
namespace Go.SX
open Go.Proofs
set_option maxRecDepth 100000
theorem hmix : Tryd.prog.follows .mixedOrders = true := by kernel_rfl

def spec_l01In_0 (x0 : Int) (x1 : Int) (x2 : Int) : Bool :=
  bif leI x1 x0 then leI x0 x2 else false

def F_spec_l01In : List SV → List Entry → Option Out
  | [.one ⟨false, [.val (.int .i64 x0)]⟩, .one ⟨false, [.val (.int .i64 x1)]⟩, .one ⟨false, [.val (.int .i64 x2)]⟩], [] => some ⟨(.one ⟨false, [(.val (.bool (spec_l01In_0 x0 x1 x2)))]⟩), [], [], []⟩
  | _, _ => none

def p_spec_l01In : PF Tryd.prog := PF.ofG Tryd.prog [] [] hmix 108 Tryd.f108 Tryd.func108 (fun c _ => LOk.nil c) F_spec_l01In (by
  intro vs es r h; unfold F_spec_l01In at h; split at h
  · cases h; kernel_rfl
  · cases h)

def impl_within_0 (x0 : Int) (x1 : Int) (x2 : Int) : Bool :=
  bif leI x1 x0 then leI x0 x2 else false

def F_impl_within : List SV → List Entry → Option Out
  | [.one ⟨false, [.val (.int .i64 x0)]⟩, .one ⟨false, [.val (.int .i64 x1)]⟩, .one ⟨false, [.val (.int .i64 x2)]⟩], [] => some ⟨(.one ⟨false, [(.val (.bool (impl_within_0 x0 x1 x2)))]⟩), [], [], []⟩
  | _, _ => none

def p_impl_within : PF Tryd.prog := PF.ofG Tryd.prog [] [] hmix 109 Tryd.f109 Tryd.func109 (fun c _ => LOk.nil c) F_impl_within (by
  intro vs es r h; unfold F_impl_within at h; split at h
  · cases h; kernel_rfl
  · cases h)

def spec_l01Own_0 (x0 : List Int) : Bool :=
  allT [leN ((0 : Nat) + List.length x0) (9223372036854775807 : Nat), leN (((0 : Nat) + List.length x0) * (8 : Nat)) (140737488355328 : Nat)]

def F_spec_l01Own : List SV → List Entry → Option Out
  | [.one ⟨false, [.ref 0]⟩], [.row false 2 (.int .i64) x0] => some ⟨(.one ⟨false, [(.ref 1)]⟩), [(.row false 2 (CTy.int IntKind.i64) x0)], [(.row true 2 (CTy.int IntKind.i64) x0)], [(spec_l01Own_0 x0)]⟩
  | _, _ => none

def p_spec_l01Own : PF Tryd.prog := PF.ofG Tryd.prog [] [] hmix 63 Tryd.f63 Tryd.func63 (fun c _ => LOk.nil c) F_spec_l01Own (by
  intro vs es r h; unfold F_spec_l01Own at h; split at h
  · cases h; kernel_rfl
  · cases h)

abbrev X_laws_likeInts_l0 := Int × List Int × List Int

def laws_likeInts_l0_0 (y0 : Int) (y1 : List Int) : Bool :=
  ltI y0 (↑(List.length y1) : Int)

def laws_likeInts_l0_1 (y0 : Int) : Bool :=
  leI (0 : Int) y0

def laws_likeInts_l0_2 (y0 : Int) (y1 : List Int) : Bool :=
  ltN (Int.toNat y0) (List.length y1)

def laws_likeInts_l0_3 (y0 : Int) (y2 : List Int) : Bool :=
  ltI y0 (↑(List.length y2) : Int)

def laws_likeInts_l0_4 (y0 : Int) (y2 : List Int) : Bool :=
  ltN (Int.toNat y0) (List.length y2)

def laws_likeInts_l0_5 (y0 : Int) (y1 : List Int) (y2 : List Int) : Bool :=
  Option.getD y1[Int.toNat y0]? (0 : Int) != Option.getD y2[Int.toNat y0]? (0 : Int)

def laws_likeInts_l0_6 (y0 : Int) : Int :=
  IntKind.wrap IntKind.i64 (y0 + (1 : Int))

def JL_laws_likeInts_l0 : X_laws_likeInts_l0 → List (Nat × SV)
  | (y0, _, _) => [(5, (.one ⟨false, [(.val (.int IntKind.i64 y0))]⟩)), (0, (.one ⟨false, [(.ref 0)]⟩)), (1, (.one ⟨false, [(.ref 1)]⟩))]

def JE_laws_likeInts_l0 : X_laws_likeInts_l0 → List (Nat × Entry)
  | (_, y1, y2) => [(0, (.row false 2 (CTy.int IntKind.i64) y1)), (1, (.row false 2 (CTy.int IntKind.i64) y2))]

def XL_laws_likeInts_l0 : Nat → X_laws_likeInts_l0 → List (Nat × SV)
  | 0, (_, _, _) => [(4, (.one ⟨false, [(.val (.bool false))]⟩))]
  | _, (_, _, _) => []

def XE_laws_likeInts_l0 : Nat → X_laws_likeInts_l0 → List (Nat × Entry)
  | 0, (_, y1, y2) => [(0, (.row false 2 (CTy.int IntKind.i64) y1)), (1, (.row false 2 (CTy.int IntKind.i64) y2))]
  | _, (_, y1, y2) => [(0, (.row false 2 (CTy.int IntKind.i64) y1)), (1, (.row false 2 (CTy.int IntKind.i64) y2))]

def lt_laws_likeInts_l0 : X_laws_likeInts_l0 → LT X_laws_likeInts_l0
  | (y0, y1, y2) => .ite (laws_likeInts_l0_0 y0 y1) (.need [(laws_likeInts_l0_1 y0), (laws_likeInts_l0_0 y0 y1), (laws_likeInts_l0_2 y0 y1), (laws_likeInts_l0_1 y0), (laws_likeInts_l0_3 y0 y2), (laws_likeInts_l0_4 y0 y2)] (.ite (laws_likeInts_l0_5 y0 y1 y2) (.ext 0 [(0, 0), (1, 1)]) (.nrm ((laws_likeInts_l0_6 y0), y1, y2) [(0, 0), (1, 1)]))) (.ext 1 [(0, 0), (1, 1)])

def rd_laws_likeInts_l0 (s : St) : Option X_laws_likeInts_l0 :=
  (match s.look 5 with
  | some ⟨none, (.one ⟨false, [(.val (.int IntKind.i64 y0))]⟩)⟩ =>
  (match s.look 0 with
  | some ⟨none, (.one ⟨false, [(.ref 0)]⟩)⟩ =>
  (match s.look 1 with
  | some ⟨none, (.one ⟨false, [(.ref 1)]⟩)⟩ =>
  (match s.ent 0 with
  | some (.row false 2 (CTy.int IntKind.i64) y1) =>
  (match s.ent 1 with
  | some (.row false 2 (CTy.int IntKind.i64) y2) =>
  some (y0, y1, y2)
  | _ => none)
  | _ => none)
  | _ => none)
  | _ => none)
  | _ => none)

def lp_laws_likeInts_l0 : Lp X_laws_likeInts_l0 where
  h := ⟨[11, 12, 13, 14, 17, 18, 19, 20, 21, 22, 23, 24, 25, 4, 15, 16, 5], [0, 1], [], []⟩
  JL := JL_laws_likeInts_l0
  JE := JE_laws_likeInts_l0
  XL := XL_laws_likeInts_l0
  XE := XE_laws_likeInts_l0
  q := fun j => match j with | 0 => .ret | _ => .exit 0
  tags := [0, 1]
  lt := lt_laws_likeInts_l0
  fuel := fun (y0, y1, y2) => y0.natAbs + y1.length + y2.length
  fix := fun (_, y1, y2) (y0, _, _) => (y0, y1, y2)
  σ := [(0, 0), (1, 1)]
  rd := rd_laws_likeInts_l0

theorem lpok_laws_likeInts_l0 : LoopOk Tryd.prog (fun k => Nat.blt k Tryd.f24.ntmps) lp_laws_likeInts_l0.F (loopAt Tryd.f24 0) := by
  refine Lp.ok (tbl := []) (lf := []) hmix lp_laws_likeInts_l0 (by kernel_rfl) (LOk.nil _) (fun _ => rfl) (fun j _ => by unfold lp_laws_likeInts_l0; match j with | 0 => rfl | _ + 1 => rfl) ?_ ?_ ?_ ?_ (fun _ => rfl) ?_
  · intro x; obtain ⟨y0, y1, y2⟩ := x; kernel_rfl
  · intro x; obtain ⟨y0, y1, y2⟩ := x; kernel_rfl
  · intro s x h
    have h : rd_laws_likeInts_l0 s = some x := h
    unfold rd_laws_likeInts_l0 at h
    repeat' split at h
    all_goals cases h
    exact ⟨absS_cons (by assumption) rfl (absS_cons (by assumption) rfl (absS_cons (by assumption) rfl (rfl))), absE_cons rfl (by assumption) rfl (absE_cons rfl (by assumption) rfl (rfl))⟩
  · intro x; obtain ⟨y0, y1, y2⟩ := x; kernel_rfl
  · intro x z; obtain ⟨y0, y1, y2⟩ := x; exact (And.intro (And.intro trivial rfl) trivial)

def laws_likeInts_a0 (x0 : List Int) (x1 : List Int) : Bool :=
  (↑(List.length x0) : Int) != (↑(List.length x1) : Int)

def laws_likeInts_a1 (x0 : List Int) (x1 : List Int) : Int × List Int × List Int :=
  ((0 : Int), x0, x1)

def laws_likeInts_0 (x0 : List Int) (x1 : List Int) : Bool :=
  bif laws_likeInts_a0 x0 x1 then false else bif Nat.beq (Prod.fst (Lp.res lp_laws_likeInts_l0 (laws_likeInts_a1 x0 x1))) (0 : Nat) then false else true

def laws_likeInts_1 (x0 : List Int) (x1 : List Int) : Bool :=
  allT [laws_likeInts_a0 x0 x1 || Lp.fin lp_laws_likeInts_l0 (laws_likeInts_a1 x0 x1)]

def F_laws_likeInts : List SV → List Entry → Option Out
  | [.one ⟨false, [.ref 0]⟩, .one ⟨false, [.ref 1]⟩], [.row false 2 (.int .i64) x0, .row false 2 (.int .i64) x1] => some ⟨(.one ⟨false, [(.val (.bool (laws_likeInts_0 x0 x1)))]⟩), [(.row false 2 (CTy.int IntKind.i64) x0), (.row false 2 (CTy.int IntKind.i64) x1)], [], [(laws_likeInts_1 x0 x1)]⟩
  | _, _ => none

def p_laws_likeInts : PF Tryd.prog := PF.ofG Tryd.prog [] [lp_laws_likeInts_l0.F] hmix 24 Tryd.f24 Tryd.func24 (LOk.fnT (l := [loopAt Tryd.f24 0]) (by kernel_rfl) (.cons lpok_laws_likeInts_l0 (.nil _))) F_laws_likeInts (by
  intro vs es r h; unfold F_laws_likeInts at h; split at h
  · cases h; kernel_rfl
  · cases h)

end Go.SX

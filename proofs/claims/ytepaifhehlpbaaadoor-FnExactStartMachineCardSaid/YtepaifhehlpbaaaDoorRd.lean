/- What functions of the program come to, row by row (made by a program of the workplace). -/
import Derived.Test.YtepaifhehlpbaaaDoorTXh
import Derived.Test.YtepaifhehlpbaaaDoorProg
import Derived.Test.YtepaifhehlpbaaaDoorNc
namespace Go.SX
open Go.Proofs
set_option maxRecDepth 100000

def laws_szTerm_a0 (x1 : ByteArray) (x3 : Int) : Int :=
  IntKind.wrap IntKind.i64 (x3 - (↑(ByteArray.size x1) : Int))

def laws_szTerm_0 (x1 : ByteArray) (x3 : Int) : Int :=
  bif ltI (laws_szTerm_a0 x1 x3) (0 : Int) then (-1 : Int) else laws_szTerm_a0 x1 x3

def F_laws_szTerm : List SV → List Entry → Option Out
  | [.one ⟨true, [.val (.int .i64 _x0), .val (.string x1), .val (.int .i64 _x2)]⟩, .one ⟨false, [.val (.int .i64 x3)]⟩], [] => some ⟨(.one ⟨false, [(.val (.int IntKind.i64 (laws_szTerm_0 x1 x3)))]⟩), [], [], []⟩
  | _, _ => none

def p_laws_szTerm : PF Tryd.prog := PF.ofG Tryd.prog [] [] hmix 10 Tryd.f10 Tryd.func10 (fun c _ => LOk.nil c) F_laws_szTerm (by
  intro vs es r h; unfold F_laws_szTerm at h; split at h
  · cases h; kernel_rfl
  · cases h)

abbrev X_spec_l22Bits_l0 := Int × List Int

def spec_l22Bits_l0_0 (y0 : Int) (y1 : List Int) : Bool :=
  ltI y0 (↑(List.length y1) : Int)

def spec_l22Bits_l0_1 (y0 : Int) : Bool :=
  leI (0 : Int) y0

def spec_l22Bits_l0_2 (y0 : Int) (y1 : List Int) : Bool :=
  ltN (Int.toNat y0) (List.length y1)

def spec_l22Bits_l0_3 (y0 : Int) (y1 : List Int) : Bool :=
  !spec_l01In_0 (Option.getD y1[Int.toNat y0]? (0 : Int)) (0 : Int) (1 : Int)

def spec_l22Bits_l0_4 (y0 : Int) : Int :=
  IntKind.wrap IntKind.i64 (y0 + (1 : Int))

def JL_spec_l22Bits_l0 : X_spec_l22Bits_l0 → List (Nat × SV)
  | (y0, _) => [(5, (.one ⟨false, [(.val (.int IntKind.i64 y0))]⟩)), (0, (.one ⟨false, [(.ref 0)]⟩))]

def JE_spec_l22Bits_l0 : X_spec_l22Bits_l0 → List (Nat × Entry)
  | (_, y1) => [(0, (.row false 2 (CTy.int IntKind.i64) y1))]

def XL_spec_l22Bits_l0 : Nat → X_spec_l22Bits_l0 → List (Nat × SV)
  | 0, (_, _) => [(4, (.one ⟨false, [(.val (.bool false))]⟩))]
  | _, (_, _) => []

def XE_spec_l22Bits_l0 : Nat → X_spec_l22Bits_l0 → List (Nat × Entry)
  | 0, (_, y1) => [(0, (.row false 2 (CTy.int IntKind.i64) y1))]
  | _, (_, y1) => [(0, (.row false 2 (CTy.int IntKind.i64) y1))]

def lt_spec_l22Bits_l0 : X_spec_l22Bits_l0 → LT X_spec_l22Bits_l0
  | (y0, y1) => .ite (spec_l22Bits_l0_0 y0 y1) (.need [(spec_l22Bits_l0_1 y0), (spec_l22Bits_l0_0 y0 y1), (spec_l22Bits_l0_2 y0 y1)] (.ite (spec_l22Bits_l0_3 y0 y1) (.ext 0 [(0, 0)]) (.nrm ((spec_l22Bits_l0_4 y0), y1) [(0, 0)]))) (.ext 1 [(0, 0)])

def rd_spec_l22Bits_l0 (s : St) : Option X_spec_l22Bits_l0 :=
  (match s.look 5 with
  | some ⟨none, (.one ⟨false, [(.val (.int IntKind.i64 y0))]⟩)⟩ =>
  (match s.look 0 with
  | some ⟨none, (.one ⟨false, [(.ref 0)]⟩)⟩ =>
  (match s.ent 0 with
  | some (.row false 2 (CTy.int IntKind.i64) y1) =>
  some (y0, y1)
  | _ => none)
  | _ => none)
  | _ => none)

def lp_spec_l22Bits_l0 : Lp X_spec_l22Bits_l0 where
  h := ⟨[6, 7, 8, 9, 12, 13, 14, 15, 16, 17, 4, 10, 11, 5], [0], [], []⟩
  JL := JL_spec_l22Bits_l0
  JE := JE_spec_l22Bits_l0
  XL := XL_spec_l22Bits_l0
  XE := XE_spec_l22Bits_l0
  q := fun j => match j with | 0 => .ret | _ => .exit 0
  tags := [0, 1]
  lt := lt_spec_l22Bits_l0
  fuel := fun (y0, y1) => y0.natAbs + y1.length
  fix := fun (_, y1) (y0, _) => (y0, y1)
  σ := [(0, 0)]
  rd := rd_spec_l22Bits_l0

theorem lpok_spec_l22Bits_l0 : LoopOk Tryd.prog (fun k => Nat.blt k Tryd.f64.ntmps) lp_spec_l22Bits_l0.F (loopAt Tryd.f64 0) := by
  refine Lp.ok (tbl := [p_spec_l01In]) (lf := []) hmix lp_spec_l22Bits_l0 (by kernel_rfl) (LOk.nil _) (fun _ => rfl) (fun j _ => by unfold lp_spec_l22Bits_l0; match j with | 0 => rfl | _ + 1 => rfl) ?_ ?_ ?_ ?_ (fun _ => rfl) ?_
  · intro x; obtain ⟨y0, y1⟩ := x; kernel_rfl
  · intro x; obtain ⟨y0, y1⟩ := x; kernel_rfl
  · intro s x h
    have h : rd_spec_l22Bits_l0 s = some x := h
    unfold rd_spec_l22Bits_l0 at h
    repeat' split at h
    all_goals cases h
    exact ⟨absS_cons (by assumption) rfl (absS_cons (by assumption) rfl (rfl)), absE_cons rfl (by assumption) rfl (rfl)⟩
  · intro x; obtain ⟨y0, y1⟩ := x; kernel_rfl
  · intro x z; obtain ⟨y0, y1⟩ := x; exact (And.intro (And.intro trivial rfl) trivial)

def spec_l22Bits_0 (x0 : Int) (x1 : List Int) : Bool :=
  bif Nat.beq (Prod.fst (Lp.res lp_spec_l22Bits_l0 ((0 : Int), x1))) (0 : Nat) then false else (↑(List.length x1) : Int) == x0

def spec_l22Bits_1 (x1 : List Int) : Bool :=
  allT [Lp.fin lp_spec_l22Bits_l0 ((0 : Int), x1)]

def F_spec_l22Bits : List SV → List Entry → Option Out
  | [.one ⟨false, [.ref 0]⟩, .one ⟨false, [.val (.int .i64 x0)]⟩], [.row false 2 (.int .i64) x1] => some ⟨(.one ⟨false, [(.val (.bool (spec_l22Bits_0 x0 x1)))]⟩), [(.row false 2 (CTy.int IntKind.i64) x1)], [], [(spec_l22Bits_1 x1)]⟩
  | _, _ => none

def p_spec_l22Bits : PF Tryd.prog := PF.ofG Tryd.prog [p_spec_l01In] [lp_spec_l22Bits_l0.F] hmix 64 Tryd.f64 Tryd.func64 (LOk.fnT (l := [loopAt Tryd.f64 0]) (by kernel_rfl) (.cons lpok_spec_l22Bits_l0 (.nil _))) F_spec_l22Bits (by
  intro vs es r h; unfold F_spec_l22Bits at h; split at h
  · cases h; kernel_rfl
  · cases h)

def spec_l13Takes_0 (x0 : Int) : Int :=
  bif bif x0 == (1 : Int) then x0 == (1 : Int) else bif x0 == (2 : Int) then x0 == (2 : Int) else x0 == (3 : Int) then (0 : Int)
  else
  bif
      bif x0 == (4 : Int) then x0 == (4 : Int)
      else bif x0 == (7 : Int) then x0 == (7 : Int) else bif x0 == (8 : Int) then x0 == (8 : Int) else x0 == (9 : Int) then
    (1 : Int)
  else (2 : Int)

def F_spec_l13Takes : List SV → List Entry → Option Out
  | [.one ⟨false, [.val (.int .i64 x0)]⟩], [] => some ⟨(.one ⟨false, [(.val (.int IntKind.i64 (spec_l13Takes_0 x0)))]⟩), [], [], []⟩
  | _, _ => none

def p_spec_l13Takes : PF Tryd.prog := PF.ofG Tryd.prog [] [] hmix 65 Tryd.f65 Tryd.func65 (fun c _ => LOk.nil c) F_spec_l13Takes (by
  intro vs es r h; unfold F_spec_l13Takes at h; split at h
  · cases h; kernel_rfl
  · cases h)

def F_laws_toTerm : List SV → List Entry → Option Out
  | [.one ⟨true, [.val (.int .i64 x0), .val (.string x1), .val (.int .i64 x2)]⟩], [] => some ⟨(.one ⟨true, [(.val (.int IntKind.i64 x0)), (.val (.string x1)), (.val (.int IntKind.i64 x2))]⟩), [], [], []⟩
  | _, _ => none

def p_laws_toTerm : PF Tryd.prog := PF.ofG Tryd.prog [] [] hmix 12 Tryd.f12 Tryd.func12 (fun c _ => LOk.nil c) F_laws_toTerm (by
  intro vs es r h; unfold F_laws_toTerm at h; split at h
  · cases h; kernel_rfl
  · cases h)

def F_laws_toBlockState : List SV → List Entry → Option Out
  | [.one ⟨true, [.val (.int .i64 x0), .val (.int .i64 x1), .val (.int .i64 x2)]⟩], [] => some ⟨(.one ⟨true, [(.val (.int IntKind.i64 x0)), (.val (.int IntKind.i64 x1)), (.val (.int IntKind.i64 x2))]⟩), [], [], []⟩
  | _, _ => none

def p_laws_toBlockState : PF Tryd.prog := PF.ofG Tryd.prog [] [] hmix 13 Tryd.f13 Tryd.func13 (fun c _ => LOk.nil c) F_laws_toBlockState (by
  intro vs es r h; unfold F_laws_toBlockState at h; split at h
  · cases h; kernel_rfl
  · cases h)

def laws_eqBlockState_0 (x0 : Int) (x1 : Int) (x2 : Int) (x3 : Int) (x4 : Int) (x5 : Int) : Bool :=
  bif x0 != x3 then false else bif x1 != x4 then false else bif x2 != x5 then false else true

def F_laws_eqBlockState : List SV → List Entry → Option Out
  | [.one ⟨true, [.val (.int .i64 x0), .val (.int .i64 x1), .val (.int .i64 x2)]⟩, .one ⟨true, [.val (.int .i64 x3), .val (.int .i64 x4), .val (.int .i64 x5)]⟩], [] => some ⟨(.one ⟨false, [(.val (.bool (laws_eqBlockState_0 x0 x1 x2 x3 x4 x5)))]⟩), [], [], []⟩
  | _, _ => none

def p_laws_eqBlockState : PF Tryd.prog := PF.ofG Tryd.prog [] [] hmix 16 Tryd.f16 Tryd.func16 (fun c _ => LOk.nil c) F_laws_eqBlockState (by
  intro vs es r h; unfold F_laws_eqBlockState at h; split at h
  · cases h; kernel_rfl
  · cases h)

def impl_areBits_1_0 (x0 : Int) : Bool :=
  bif x0 != (0 : Int) then x0 != (1 : Int) else false

def F_impl_areBits_1 : List SV → List Entry → Option Out
  | [.one ⟨false, [.val (.int .i64 x0)]⟩], [] => some ⟨(.one ⟨false, [(.val (.bool (impl_areBits_1_0 x0)))]⟩), [], [], []⟩
  | _, _ => none

def p_impl_areBits_1 : PF Tryd.prog := PF.ofG Tryd.prog [] [] hmix 127 Tryd.f127 Tryd.func127 (fun c _ => LOk.nil c) F_impl_areBits_1 (by
  intro vs es r h; unfold F_impl_areBits_1 at h; split at h
  · cases h; kernel_rfl
  · cases h)

def impl_areBits_1_q3202_0 (x0 : Int) : Bool :=
  bif x0 != (0 : Int) then x0 != (1 : Int) else false

def F_impl_areBits_1_q3202 : List SV → List Entry → Option Out
  | [(.one ⟨false, [(.val (.int IntKind.i64 x0))]⟩)], [] => some ⟨(.one ⟨false, [(.val (.bool (impl_areBits_1_q3202_0 x0)))]⟩), [], [], []⟩
  | _, _ => none

def p_impl_areBits_1_q3202 : PF Tryd.prog := PF.ofG Tryd.prog [] [] hmix 127 Tryd.f127 Tryd.func127 (fun c _ => LOk.nil c) F_impl_areBits_1_q3202 (by
  intro vs es r h; unfold F_impl_areBits_1_q3202 at h; split at h
  · cases h; kernel_rfl
  · cases h)

abbrev X_slices_IndexFunc_int64_int64__q3201_l0 := Int × Int × List Int

def slices_IndexFunc_int64_int64__q3201_l0_0 (y0 : Int) (y1 : Int) : Bool :=
  ltI y0 y1

def slices_IndexFunc_int64_int64__q3201_l0_1 (y0 : Int) : Bool :=
  leI (0 : Int) y0

def slices_IndexFunc_int64_int64__q3201_l0_2 (y0 : Int) (y2 : List Int) : Bool :=
  ltI y0 (↑(List.length y2) : Int)

def slices_IndexFunc_int64_int64__q3201_l0_3 (y0 : Int) (y2 : List Int) : Bool :=
  ltN (Int.toNat y0) (List.length y2)

def slices_IndexFunc_int64_int64__q3201_l0_4 (y0 : Int) (y2 : List Int) : Bool :=
  impl_areBits_1_q3202_0 (Option.getD y2[Int.toNat y0]? (0 : Int))

def slices_IndexFunc_int64_int64__q3201_l0_5 (y0 : Int) : Int :=
  IntKind.wrap IntKind.i64 (y0 + (1 : Int))

def JL_slices_IndexFunc_int64_int64__q3201_l0 : X_slices_IndexFunc_int64_int64__q3201_l0 → List (Nat × SV)
  | (y0, y1, _) => [(8, (.one ⟨false, [(.val (.int IntKind.i64 y0))]⟩)), (7, (.one ⟨false, [(.val (.int IntKind.i64 y1))]⟩)), (1, (.one ⟨false, [(.val (.func (.func 127) ⟨[]⟩ ⟨[]⟩))]⟩)), (0, (.one ⟨false, [(.ref 0)]⟩))]

def JE_slices_IndexFunc_int64_int64__q3201_l0 : X_slices_IndexFunc_int64_int64__q3201_l0 → List (Nat × Entry)
  | (_, _, y2) => [(0, (.row false 2 (CTy.int IntKind.i64) y2))]

def XL_slices_IndexFunc_int64_int64__q3201_l0 : Nat → X_slices_IndexFunc_int64_int64__q3201_l0 → List (Nat × SV)
  | 0, (y0, _, _) => [(4, (.one ⟨false, [(.val (.int IntKind.i64 y0))]⟩))]
  | _, (_, _, _) => []

def XE_slices_IndexFunc_int64_int64__q3201_l0 : Nat → X_slices_IndexFunc_int64_int64__q3201_l0 → List (Nat × Entry)
  | 0, (_, _, y2) => [(0, (.row false 2 (CTy.int IntKind.i64) y2))]
  | _, (_, _, y2) => [(0, (.row false 2 (CTy.int IntKind.i64) y2))]

def lt_slices_IndexFunc_int64_int64__q3201_l0 : X_slices_IndexFunc_int64_int64__q3201_l0 → LT X_slices_IndexFunc_int64_int64__q3201_l0
  | (y0, y1, y2) => .ite (slices_IndexFunc_int64_int64__q3201_l0_0 y0 y1) (.need [(slices_IndexFunc_int64_int64__q3201_l0_1 y0), (slices_IndexFunc_int64_int64__q3201_l0_2 y0 y2), (slices_IndexFunc_int64_int64__q3201_l0_3 y0 y2)] (.ite (slices_IndexFunc_int64_int64__q3201_l0_4 y0 y2) (.ext 0 [(0, 0)]) (.nrm ((slices_IndexFunc_int64_int64__q3201_l0_5 y0), y1, y2) [(0, 0)]))) (.ext 1 [(0, 0)])

def rd_slices_IndexFunc_int64_int64__q3201_l0 (s : St) : Option X_slices_IndexFunc_int64_int64__q3201_l0 :=
  (match s.look 8 with
  | some ⟨none, (.one ⟨false, [(.val (.int IntKind.i64 y0))]⟩)⟩ =>
  (match s.look 7 with
  | some ⟨none, (.one ⟨false, [(.val (.int IntKind.i64 y1))]⟩)⟩ =>
  (match s.look 1 with
  | some ⟨none, (.one ⟨false, [(.val (.func (.func 127) ⟨[]⟩ ⟨[]⟩))]⟩)⟩ =>
  (match s.look 0 with
  | some ⟨none, (.one ⟨false, [(.ref 0)]⟩)⟩ =>
  (match s.ent 0 with
  | some (.row false 2 (CTy.int IntKind.i64) y2) =>
  some (y0, y1, y2)
  | _ => none)
  | _ => none)
  | _ => none)
  | _ => none)
  | _ => none)

def lp_slices_IndexFunc_int64_int64__q3201_l0 : Lp X_slices_IndexFunc_int64_int64__q3201_l0 where
  h := ⟨[9, 10, 5, 11, 12, 13, 14, 15, 16, 17, 4, 18, 8], [0], [], []⟩
  JL := JL_slices_IndexFunc_int64_int64__q3201_l0
  JE := JE_slices_IndexFunc_int64_int64__q3201_l0
  XL := XL_slices_IndexFunc_int64_int64__q3201_l0
  XE := XE_slices_IndexFunc_int64_int64__q3201_l0
  q := fun j => match j with | 0 => .ret | _ => .exit 0
  tags := [0, 1]
  lt := lt_slices_IndexFunc_int64_int64__q3201_l0
  fuel := fun (y0, y1, y2) => y0.natAbs + y1.natAbs + y2.length
  fix := fun (_, y1, y2) (y0, _, _) => (y0, y1, y2)
  σ := [(0, 0)]
  rd := rd_slices_IndexFunc_int64_int64__q3201_l0

theorem lpok_slices_IndexFunc_int64_int64__q3201_l0 : LoopOk Tryd.prog (fun k => Nat.blt k Tryd.f143.ntmps) lp_slices_IndexFunc_int64_int64__q3201_l0.F (loopAt Tryd.f143 0) := by
  refine Lp.ok (tbl := [p_impl_areBits_1_q3202]) (lf := []) hmix lp_slices_IndexFunc_int64_int64__q3201_l0 (by kernel_rfl) (LOk.nil _) (fun _ => rfl) (fun j _ => by unfold lp_slices_IndexFunc_int64_int64__q3201_l0; match j with | 0 => rfl | _ + 1 => rfl) ?_ ?_ ?_ ?_ (fun _ => rfl) ?_
  · intro x; obtain ⟨y0, y1, y2⟩ := x; kernel_rfl
  · intro x; obtain ⟨y0, y1, y2⟩ := x; kernel_rfl
  · intro s x h
    have h : rd_slices_IndexFunc_int64_int64__q3201_l0 s = some x := h
    unfold rd_slices_IndexFunc_int64_int64__q3201_l0 at h
    repeat' split at h
    all_goals cases h
    exact ⟨absS_cons (by assumption) rfl (absS_cons (by assumption) rfl (absS_cons (by assumption) rfl (absS_cons (by assumption) rfl (rfl)))), absE_cons rfl (by assumption) rfl (rfl)⟩
  · intro x; obtain ⟨y0, y1, y2⟩ := x; kernel_rfl
  · intro x z; obtain ⟨y0, y1, y2⟩ := x; exact (And.intro (And.intro trivial rfl) trivial)

def slices_IndexFunc_int64_int64__q3201_a0 (x0 : List Int) : Int × Int × List Int :=
  ((0 : Int), (↑(List.length x0) : Int), x0)

def slices_IndexFunc_int64_int64__q3201_0 (x0 : List Int) : Int :=
  bif Nat.beq (Prod.fst (Lp.res lp_slices_IndexFunc_int64_int64__q3201_l0 (slices_IndexFunc_int64_int64__q3201_a0 x0))) (0 : Nat) then
  Prod.fst (Prod.snd (Lp.res lp_slices_IndexFunc_int64_int64__q3201_l0 (slices_IndexFunc_int64_int64__q3201_a0 x0)))
  else (-1 : Int)

def slices_IndexFunc_int64_int64__q3201_1 (x0 : List Int) : Bool :=
  allT [Lp.fin lp_slices_IndexFunc_int64_int64__q3201_l0 (slices_IndexFunc_int64_int64__q3201_a0 x0)]

def F_slices_IndexFunc_int64_int64__q3201 : List SV → List Entry → Option Out
  | [(.one ⟨false, [(.ref 0)]⟩), (.one ⟨false, [(.val (.func (.func 127) ⟨[]⟩ ⟨[]⟩))]⟩)], [(.row false 2 (CTy.int IntKind.i64) x0)] => some ⟨(.one ⟨false, [(.val (.int IntKind.i64 (slices_IndexFunc_int64_int64__q3201_0 x0)))]⟩), [(.row false 2 (CTy.int IntKind.i64) x0)], [], [(slices_IndexFunc_int64_int64__q3201_1 x0)]⟩
  | _, _ => none

def p_slices_IndexFunc_int64_int64__q3201 : PF Tryd.prog := PF.ofG Tryd.prog [p_impl_areBits_1_q3202] [lp_slices_IndexFunc_int64_int64__q3201_l0.F] hmix 143 Tryd.f143 Tryd.func143 (LOk.fnT (l := [loopAt Tryd.f143 0]) (by kernel_rfl) (.cons lpok_slices_IndexFunc_int64_int64__q3201_l0 (.nil _))) F_slices_IndexFunc_int64_int64__q3201 (by
  intro vs es r h; unfold F_slices_IndexFunc_int64_int64__q3201 at h; split at h
  · cases h; kernel_rfl
  · cases h)

def slices_ContainsFunc_int64_int64__q3200_0 (x0 : List Int) : Bool :=
  leI (0 : Int) (slices_IndexFunc_int64_int64__q3201_0 x0)

def slices_ContainsFunc_int64_int64__q3200_1 (x0 : List Int) : Bool :=
  allT [slices_IndexFunc_int64_int64__q3201_1 x0]

def F_slices_ContainsFunc_int64_int64__q3200 : List SV → List Entry → Option Out
  | [(.one ⟨false, [(.ref 0)]⟩), (.one ⟨false, [(.val (.func (.func 127) ⟨[]⟩ ⟨[]⟩))]⟩)], [(.row false 2 (CTy.int IntKind.i64) x0)] => some ⟨(.one ⟨false, [(.val (.bool (slices_ContainsFunc_int64_int64__q3200_0 x0)))]⟩), [(.row false 2 (CTy.int IntKind.i64) x0)], [], [(slices_ContainsFunc_int64_int64__q3200_1 x0)]⟩
  | _, _ => none

def p_slices_ContainsFunc_int64_int64__q3200 : PF Tryd.prog := PF.ofG Tryd.prog [p_slices_IndexFunc_int64_int64__q3201, PF.lend p_slices_IndexFunc_int64_int64__q3201, PF.fz p_slices_IndexFunc_int64_int64__q3201] [] hmix 126 Tryd.f126 Tryd.func126 (fun c _ => LOk.nil c) F_slices_ContainsFunc_int64_int64__q3200 (by
  intro vs es r h; unfold F_slices_ContainsFunc_int64_int64__q3200 at h; split at h
  · cases h; kernel_rfl
  · cases h)

def impl_areBits_0 (x0 : Int) (x1 : List Int) : Bool :=
  bif (↑(List.length x1) : Int) == x0 then !slices_ContainsFunc_int64_int64__q3200_0 x1 else false

def impl_areBits_1 (x0 : Int) (x1 : List Int) : Bool :=
  allT [!((↑(List.length x1) : Int) == x0 && true) || slices_ContainsFunc_int64_int64__q3200_1 x1]

def F_impl_areBits : List SV → List Entry → Option Out
  | [.one ⟨false, [.ref 0]⟩, .one ⟨false, [.val (.int .i64 x0)]⟩], [.row false 2 (.int .i64) x1] => some ⟨(.one ⟨false, [(.val (.bool (impl_areBits_0 x0 x1)))]⟩), [(.row false 2 (CTy.int IntKind.i64) x1)], [], [(impl_areBits_1 x0 x1)]⟩
  | _, _ => none

def p_impl_areBits : PF Tryd.prog := PF.ofG Tryd.prog [p_impl_areBits_1, p_slices_ContainsFunc_int64_int64__q3200, PF.lend p_slices_ContainsFunc_int64_int64__q3200, PF.fz p_slices_ContainsFunc_int64_int64__q3200] [] hmix 102 Tryd.f102 Tryd.func102 (fun c _ => LOk.nil c) F_impl_areBits (by
  intro vs es r h; unfold F_impl_areBits at h; split at h
  · cases h; kernel_rfl
  · cases h)

end Go.SX

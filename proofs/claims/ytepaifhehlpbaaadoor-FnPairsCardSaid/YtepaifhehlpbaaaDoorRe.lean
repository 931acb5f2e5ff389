/- What functions of the program come to, row by row (made by a program of the workplace). -/
import Derived.Test.YtepaifhehlpbaaaDoorTXh
import Derived.Test.YtepaifhehlpbaaaDoorProg
import Derived.Test.YtepaifhehlpbaaaDoorNd
namespace Go.SX
open Go.Proofs
set_option maxRecDepth 100000

def spec_l15Code_0 (x0 : Int) (x1 : ByteArray) (x2 : Int) (x3 : Int) (x4 : Int) (x5 : Int) (x6 : List Int) : Int :=
  bif !blockB x0 x1 x2 then (1 : Int)
  else bif bif !spec_l15Possible_0 x0 x2 x3 x4 x5 then true else !bitsB (spec_l13Takes_0 x0) x6 then (2 : Int) else (0 : Int)

def spec_l15Code_1 (x0 : Int) (x1 : ByteArray) (x2 : Int) (x3 : Int) (x4 : Int) (x5 : Int) (x6 : List Int) : Bool :=
  allT
  [leN (ByteArray.size x1) (9223372036854775807 : Nat),
    !blockB x0 x1 x2 || (!(!!spec_l15Possible_0 x0 x2 x3 x4 x5 && true) || leN (List.length x6) (9223372036854775807 : Nat))]

def F_spec_l15Code : List SV → List Entry → Option Out
  | [.one ⟨true, [.val (.int .i64 x0), .val (.string x1), .val (.int .i64 x2)]⟩, .one ⟨true, [.val (.int .i64 x3), .val (.int .i64 x4), .val (.int .i64 x5)]⟩, .one ⟨false, [.ref 0]⟩], [.row false 2 (.int .i64) x6] => some ⟨(.one ⟨false, [(.val (.int IntKind.i64 (spec_l15Code_0 x0 x1 x2 x3 x4 x5 x6)))]⟩), [(.row false 2 (CTy.int IntKind.i64) x6)], [], [(spec_l15Code_1 x0 x1 x2 x3 x4 x5 x6)]⟩
  | _, _ => none

def p_spec_l15Code : PF Tryd.prog := PF.ofG Tryd.prog [n_spec_IsBlock, n_spec_l22Bits, PF.lend n_spec_l22Bits, PF.fz n_spec_l22Bits, p_spec_l13Takes, p_spec_l15Possible] [] hmix 55 Tryd.f55 Tryd.func55 (fun c _ => LOk.nil c) F_spec_l15Code (by
  intro vs es r h; unfold F_spec_l15Code at h; split at h
  · cases h; kernel_rfl
  · cases h)

def impl_arguments_q3303_0 (x0 : Int) : Int :=
  bif bif x0 == (1 : Int) then x0 == (1 : Int) else bif x0 == (2 : Int) then x0 == (2 : Int) else x0 == (3 : Int) then (0 : Int)
  else
  bif
      bif x0 == (4 : Int) then x0 == (4 : Int)
      else bif x0 == (7 : Int) then x0 == (7 : Int) else bif x0 == (8 : Int) then x0 == (8 : Int) else x0 == (9 : Int) then
    (1 : Int)
  else (2 : Int)

def F_impl_arguments_q3303 : List SV → List Entry → Option Out
  | [(.one ⟨false, [(.val (.int IntKind.i64 x0))]⟩)], [] => some ⟨(.one ⟨false, [(.val (.int IntKind.i64 (impl_arguments_q3303_0 x0)))]⟩), [], [], []⟩
  | _, _ => none

def p_impl_arguments_q3303 : PF Tryd.prog := PF.ofG Tryd.prog [] [] hmix 103 Tryd.f103 Tryd.func103 (fun c _ => LOk.nil c) F_impl_arguments_q3303 (by
  intro vs es r h; unfold F_impl_arguments_q3303 at h; split at h
  · cases h; kernel_rfl
  · cases h)

def impl_stepCode_1_q3302_0 (x0 : List Int) (x1 : Int) : Bool :=
  !bitsB (impl_arguments_q3303_0 x1) x0

def impl_stepCode_1_q3302_1 (x0 : List Int) : Bool :=
  allT [leN (List.length x0) (9223372036854775807 : Nat)]

def F_impl_stepCode_1_q3302 : List SV → List Entry → Option Out
  | [(.one ⟨false, [(.ref 0)]⟩), (.one ⟨false, [(.ptr 1 0)]⟩)], [(.row false 2 (CTy.int IntKind.i64) x0), (.box 31 [(.val (.int IntKind.i64 x1)), (.val (.string x2)), (.val (.int IntKind.i64 x3))])] => some ⟨(.one ⟨false, [(.val (.bool (impl_stepCode_1_q3302_0 x0 x1)))]⟩), [(.row false 2 (CTy.int IntKind.i64) x0), (.box 31 [(.val (.int IntKind.i64 x1)), (.val (.string x2)), (.val (.int IntKind.i64 x3))])], [], [(impl_stepCode_1_q3302_1 x0)]⟩
  | _, _ => none

def p_impl_stepCode_1_q3302 : PF Tryd.prog := PF.ofG Tryd.prog [n_impl_areBits, PF.lend n_impl_areBits, PF.fz n_impl_areBits, p_impl_arguments_q3303] [] hmix 101 Tryd.f101 Tryd.func101 (fun c _ => LOk.nil c) F_impl_stepCode_1_q3302 (by
  intro vs es r h; unfold F_impl_stepCode_1_q3302 at h; split at h
  · cases h; kernel_rfl
  · cases h)

abbrev X_slices_IndexFunc_int64_int64_q3301_l0 := Int × Int × Int × ByteArray × Int × List (List Int)

def slices_IndexFunc_int64_int64_q3301_l0_a0 (y0 : Int) (y5 : List (List Int)) : List Int :=
  Option.getD y5[Int.toNat y0]? (dflt (CTy.sl (2 : TypeId) (CTy.int IntKind.i64)))

def slices_IndexFunc_int64_int64_q3301_l0_0 (y0 : Int) (y1 : Int) : Bool :=
  ltI y0 y1

def slices_IndexFunc_int64_int64_q3301_l0_1 (y0 : Int) : Bool :=
  leI (0 : Int) y0

def slices_IndexFunc_int64_int64_q3301_l0_2 (y0 : Int) (y5 : List (List Int)) : Bool :=
  ltI y0 (↑(List.length y5) : Int)

def slices_IndexFunc_int64_int64_q3301_l0_3 (y0 : Int) (y5 : List (List Int)) : Bool :=
  ltN (Int.toNat y0) (List.length y5)

def slices_IndexFunc_int64_int64_q3301_l0_4 (y0 : Int) (y5 : List (List Int)) : Bool :=
  impl_stepCode_1_q3302_1 (slices_IndexFunc_int64_int64_q3301_l0_a0 y0 y5)

def slices_IndexFunc_int64_int64_q3301_l0_5 (y0 : Int) (y2 : Int) (y5 : List (List Int)) : Bool :=
  impl_stepCode_1_q3302_0 (slices_IndexFunc_int64_int64_q3301_l0_a0 y0 y5) y2

def slices_IndexFunc_int64_int64_q3301_l0_6 (y0 : Int) : Int :=
  IntKind.wrap IntKind.i64 (y0 + (1 : Int))

def JL_slices_IndexFunc_int64_int64_q3301_l0 : X_slices_IndexFunc_int64_int64_q3301_l0 → List (Nat × SV)
  | (y0, y1, _, _, _, _) => [(8, (.one ⟨false, [(.val (.int IntKind.i64 y0))]⟩)), (7, (.one ⟨false, [(.val (.int IntKind.i64 y1))]⟩)), (1, (.one ⟨false, [(.clo 101 [0])]⟩)), (0, (.one ⟨false, [(.ref 1)]⟩))]

def JE_slices_IndexFunc_int64_int64_q3301_l0 : X_slices_IndexFunc_int64_int64_q3301_l0 → List (Nat × Entry)
  | (_, _, y2, y3, y4, y5) => [(0, (.box 31 [(.val (.int IntKind.i64 y2)), (.val (.string y3)), (.val (.int IntKind.i64 y4))])), (1, (.row false 26 (CTy.sl (2 : TypeId) (CTy.int IntKind.i64)) y5))]

def XL_slices_IndexFunc_int64_int64_q3301_l0 : Nat → X_slices_IndexFunc_int64_int64_q3301_l0 → List (Nat × SV)
  | 0, (y0, _, _, _, _, _) => [(4, (.one ⟨false, [(.val (.int IntKind.i64 y0))]⟩))]
  | _, (_, _, _, _, _, _) => []

def XE_slices_IndexFunc_int64_int64_q3301_l0 : Nat → X_slices_IndexFunc_int64_int64_q3301_l0 → List (Nat × Entry)
  | 0, (_, _, y2, y3, y4, y5) => [(0, (.box 31 [(.val (.int IntKind.i64 y2)), (.val (.string y3)), (.val (.int IntKind.i64 y4))])), (1, (.row false 26 (CTy.sl (2 : TypeId) (CTy.int IntKind.i64)) y5))]
  | _, (_, _, y2, y3, y4, y5) => [(0, (.box 31 [(.val (.int IntKind.i64 y2)), (.val (.string y3)), (.val (.int IntKind.i64 y4))])), (1, (.row false 26 (CTy.sl (2 : TypeId) (CTy.int IntKind.i64)) y5))]

def lt_slices_IndexFunc_int64_int64_q3301_l0 : X_slices_IndexFunc_int64_int64_q3301_l0 → LT X_slices_IndexFunc_int64_int64_q3301_l0
  | (y0, y1, y2, y3, y4, y5) => .ite (slices_IndexFunc_int64_int64_q3301_l0_0 y0 y1) (.need [(slices_IndexFunc_int64_int64_q3301_l0_1 y0), (slices_IndexFunc_int64_int64_q3301_l0_2 y0 y5), (slices_IndexFunc_int64_int64_q3301_l0_3 y0 y5), (slices_IndexFunc_int64_int64_q3301_l0_4 y0 y5)] (.ite (slices_IndexFunc_int64_int64_q3301_l0_5 y0 y2 y5) (.ext 0 [(0, 0), (1, 1)]) (.nrm ((slices_IndexFunc_int64_int64_q3301_l0_6 y0), y1, y2, y3, y4, y5) [(0, 0), (1, 1)]))) (.ext 1 [(0, 0), (1, 1)])

def rd_slices_IndexFunc_int64_int64_q3301_l0 (s : St) : Option X_slices_IndexFunc_int64_int64_q3301_l0 :=
  (match s.look 8 with
  | some ⟨none, (.one ⟨false, [(.val (.int IntKind.i64 y0))]⟩)⟩ =>
  (match s.look 7 with
  | some ⟨none, (.one ⟨false, [(.val (.int IntKind.i64 y1))]⟩)⟩ =>
  (match s.look 1 with
  | some ⟨none, (.one ⟨false, [(.clo 101 [1])]⟩)⟩ =>
  (match s.look 0 with
  | some ⟨none, (.one ⟨false, [(.ref 0)]⟩)⟩ =>
  (match s.ent 1 with
  | some (.box 31 [(.val (.int IntKind.i64 y2)), (.val (.string y3)), (.val (.int IntKind.i64 y4))]) =>
  (match s.ent 0 with
  | some (.row false 26 (CTy.sl (2 : TypeId) (CTy.int IntKind.i64)) y5) =>
  some (y0, y1, y2, y3, y4, y5)
  | _ => none)
  | _ => none)
  | _ => none)
  | _ => none)
  | _ => none)
  | _ => none)

def lp_slices_IndexFunc_int64_int64_q3301_l0 : Lp X_slices_IndexFunc_int64_int64_q3301_l0 where
  h := ⟨[9, 10, 5, 11, 12, 13, 14, 15, 16, 17, 4, 18, 8], [0, 1], [], []⟩
  JL := JL_slices_IndexFunc_int64_int64_q3301_l0
  JE := JE_slices_IndexFunc_int64_int64_q3301_l0
  XL := XL_slices_IndexFunc_int64_int64_q3301_l0
  XE := XE_slices_IndexFunc_int64_int64_q3301_l0
  q := fun j => match j with | 0 => .ret | _ => .exit 0
  tags := [0, 1]
  lt := lt_slices_IndexFunc_int64_int64_q3301_l0
  fuel := fun (y0, y1, y2, y3, y4, y5) => y0.natAbs + y1.natAbs + y2.natAbs + y3.size + y4.natAbs + y5.length
  fix := fun (_, y1, y2, y3, y4, y5) (y0, _, _, _, _, _) => (y0, y1, y2, y3, y4, y5)
  σ := [(0, 1), (1, 0)]
  rd := rd_slices_IndexFunc_int64_int64_q3301_l0

theorem lpok_slices_IndexFunc_int64_int64_q3301_l0 : LoopOk Tryd.prog (fun k => Nat.blt k Tryd.f125.ntmps) lp_slices_IndexFunc_int64_int64_q3301_l0.F (loopAt Tryd.f125 0) := by
  refine Lp.ok (tbl := [p_impl_stepCode_1_q3302, PF.lend p_impl_stepCode_1_q3302, PF.fz p_impl_stepCode_1_q3302]) (lf := []) hmix lp_slices_IndexFunc_int64_int64_q3301_l0 (by kernel_rfl) (LOk.nil _) (fun _ => rfl) (fun j _ => by unfold lp_slices_IndexFunc_int64_int64_q3301_l0; match j with | 0 => rfl | _ + 1 => rfl) ?_ ?_ ?_ ?_ (fun _ => rfl) ?_
  · intro x; obtain ⟨y0, y1, y2, y3, y4, y5⟩ := x; kernel_rfl
  · intro x; obtain ⟨y0, y1, y2, y3, y4, y5⟩ := x; kernel_rfl
  · intro s x h
    have h : rd_slices_IndexFunc_int64_int64_q3301_l0 s = some x := h
    unfold rd_slices_IndexFunc_int64_int64_q3301_l0 at h
    repeat' split at h
    all_goals cases h
    exact ⟨absS_cons (by assumption) rfl (absS_cons (by assumption) rfl (absS_cons (by assumption) rfl (absS_cons (by assumption) rfl (rfl)))), absE_cons rfl (by assumption) rfl (absE_cons rfl (by assumption) rfl (rfl))⟩
  · intro x; obtain ⟨y0, y1, y2, y3, y4, y5⟩ := x; kernel_rfl
  · intro x z; obtain ⟨y0, y1, y2, y3, y4, y5⟩ := x; exact (And.intro (And.intro trivial rfl) trivial)

def slices_IndexFunc_int64_int64_q3301_a0 (x0 : List (List Int)) (x1 : Int) (x2 : ByteArray) (x3 : Int) : Int × Int × Int × ByteArray × Int × List (List Int) :=
  ((0 : Int), (↑(List.length x0) : Int), x1, x2, x3, x0)

def slices_IndexFunc_int64_int64_q3301_a1 (x0 : List (List Int)) (x1 : Int) (x2 : ByteArray) (x3 : Int) : Bool :=
  Nat.beq (Prod.fst (Lp.res lp_slices_IndexFunc_int64_int64_q3301_l0 (slices_IndexFunc_int64_int64_q3301_a0 x0 x1 x2 x3))) (0 : Nat)

def slices_IndexFunc_int64_int64_q3301_0 (x0 : List (List Int)) (x1 : Int) (x2 : ByteArray) (x3 : Int) : Int :=
  bif slices_IndexFunc_int64_int64_q3301_a1 x0 x1 x2 x3 then
  Prod.fst (Prod.snd (Lp.res lp_slices_IndexFunc_int64_int64_q3301_l0 (slices_IndexFunc_int64_int64_q3301_a0 x0 x1 x2 x3)))
  else (-1 : Int)

def slices_IndexFunc_int64_int64_q3301_1 (x0 : List (List Int)) (x1 : Int) (x2 : ByteArray) (x3 : Int) : Int :=
  bif slices_IndexFunc_int64_int64_q3301_a1 x0 x1 x2 x3 then x1 else x1

def slices_IndexFunc_int64_int64_q3301_2 (x0 : List (List Int)) (x1 : Int) (x2 : ByteArray) (x3 : Int) : ByteArray :=
  bif slices_IndexFunc_int64_int64_q3301_a1 x0 x1 x2 x3 then x2 else x2

def slices_IndexFunc_int64_int64_q3301_3 (x0 : List (List Int)) (x1 : Int) (x2 : ByteArray) (x3 : Int) : Int :=
  bif slices_IndexFunc_int64_int64_q3301_a1 x0 x1 x2 x3 then x3 else x3

def slices_IndexFunc_int64_int64_q3301_4 (x0 : List (List Int)) (x1 : Int) (x2 : ByteArray) (x3 : Int) : Bool :=
  allT [Lp.fin lp_slices_IndexFunc_int64_int64_q3301_l0 (slices_IndexFunc_int64_int64_q3301_a0 x0 x1 x2 x3)]

def F_slices_IndexFunc_int64_int64_q3301 : List SV → List Entry → Option Out
  | [(.one ⟨false, [(.ref 0)]⟩), (.one ⟨false, [(.clo 101 [1])]⟩)], [(.row false 26 (CTy.sl (2 : TypeId) (CTy.int IntKind.i64)) x0), (.box 31 [(.val (.int IntKind.i64 x1)), (.val (.string x2)), (.val (.int IntKind.i64 x3))])] => some ⟨(.one ⟨false, [(.val (.int IntKind.i64 (slices_IndexFunc_int64_int64_q3301_0 x0 x1 x2 x3)))]⟩), [(.row false 26 (CTy.sl (2 : TypeId) (CTy.int IntKind.i64)) x0), (.box 31 [(.val (.int IntKind.i64 (slices_IndexFunc_int64_int64_q3301_1 x0 x1 x2 x3))), (.val (.string (slices_IndexFunc_int64_int64_q3301_2 x0 x1 x2 x3))), (.val (.int IntKind.i64 (slices_IndexFunc_int64_int64_q3301_3 x0 x1 x2 x3)))])], [], [(slices_IndexFunc_int64_int64_q3301_4 x0 x1 x2 x3)]⟩
  | _, _ => none

def p_slices_IndexFunc_int64_int64_q3301 : PF Tryd.prog := PF.ofG Tryd.prog [p_impl_stepCode_1_q3302, PF.lend p_impl_stepCode_1_q3302, PF.fz p_impl_stepCode_1_q3302] [lp_slices_IndexFunc_int64_int64_q3301_l0.F] hmix 125 Tryd.f125 Tryd.func125 (LOk.fnT (l := [loopAt Tryd.f125 0]) (by kernel_rfl) (.cons lpok_slices_IndexFunc_int64_int64_q3301_l0 (.nil _))) F_slices_IndexFunc_int64_int64_q3301 (by
  intro vs es r h; unfold F_slices_IndexFunc_int64_int64_q3301 at h; split at h
  · cases h; kernel_rfl
  · cases h)

def slices_ContainsFunc_int64_int64_q3300_0 (x0 : List (List Int)) (x1 : Int) (x2 : ByteArray) (x3 : Int) : Bool :=
  leI (0 : Int) (slices_IndexFunc_int64_int64_q3301_0 x0 x1 x2 x3)

def slices_ContainsFunc_int64_int64_q3300_1 (x0 : List (List Int)) (x1 : Int) (x2 : ByteArray) (x3 : Int) : Int :=
  slices_IndexFunc_int64_int64_q3301_1 x0 x1 x2 x3

def slices_ContainsFunc_int64_int64_q3300_2 (x0 : List (List Int)) (x1 : Int) (x2 : ByteArray) (x3 : Int) : ByteArray :=
  slices_IndexFunc_int64_int64_q3301_2 x0 x1 x2 x3

def slices_ContainsFunc_int64_int64_q3300_3 (x0 : List (List Int)) (x1 : Int) (x2 : ByteArray) (x3 : Int) : Int :=
  slices_IndexFunc_int64_int64_q3301_3 x0 x1 x2 x3

def slices_ContainsFunc_int64_int64_q3300_4 (x0 : List (List Int)) (x1 : Int) (x2 : ByteArray) (x3 : Int) : Bool :=
  allT [slices_IndexFunc_int64_int64_q3301_4 x0 x1 x2 x3]

def F_slices_ContainsFunc_int64_int64_q3300 : List SV → List Entry → Option Out
  | [(.one ⟨false, [(.ref 0)]⟩), (.one ⟨false, [(.clo 101 [1])]⟩)], [(.row false 26 (CTy.sl (2 : TypeId) (CTy.int IntKind.i64)) x0), (.box 31 [(.val (.int IntKind.i64 x1)), (.val (.string x2)), (.val (.int IntKind.i64 x3))])] => some ⟨(.one ⟨false, [(.val (.bool (slices_ContainsFunc_int64_int64_q3300_0 x0 x1 x2 x3)))]⟩), [(.row false 26 (CTy.sl (2 : TypeId) (CTy.int IntKind.i64)) x0), (.box 31 [(.val (.int IntKind.i64 (slices_ContainsFunc_int64_int64_q3300_1 x0 x1 x2 x3))), (.val (.string (slices_ContainsFunc_int64_int64_q3300_2 x0 x1 x2 x3))), (.val (.int IntKind.i64 (slices_ContainsFunc_int64_int64_q3300_3 x0 x1 x2 x3)))])], [], [(slices_ContainsFunc_int64_int64_q3300_4 x0 x1 x2 x3)]⟩
  | _, _ => none

def p_slices_ContainsFunc_int64_int64_q3300 : PF Tryd.prog := PF.ofG Tryd.prog [p_slices_IndexFunc_int64_int64_q3301, PF.lend p_slices_IndexFunc_int64_int64_q3301, PF.fz p_slices_IndexFunc_int64_int64_q3301] [] hmix 100 Tryd.f100 Tryd.func100 (fun c _ => LOk.nil c) F_slices_ContainsFunc_int64_int64_q3300 (by
  intro vs es r h; unfold F_slices_ContainsFunc_int64_int64_q3300 at h; split at h
  · cases h; kernel_rfl
  · cases h)

def impl_stepCode_0 (x0 : Int) (x1 : ByteArray) (x2 : Int) (x3 : Int) (x4 : Int) (x5 : Int) (x6 : List (List Int)) : Int :=
  bif !blockB x0 x1 x2 then (1 : Int)
  else bif bif !impl_isPossible_0 x0 x2 x3 x4 x5 then true else slices_ContainsFunc_int64_int64_q3300_0 x6 x0 x1 x2 then (2 : Int) else (0 : Int)

def impl_stepCode_1 (x0 : Int) (x1 : ByteArray) (x2 : Int) (x3 : Int) (x4 : Int) (x5 : Int) (x6 : List (List Int)) : Bool :=
  allT [!blockB x0 x1 x2 || (!(!!impl_isPossible_0 x0 x2 x3 x4 x5 && true) || slices_ContainsFunc_int64_int64_q3300_4 x6 x0 x1 x2)]

def F_impl_stepCode : List SV → List Entry → Option Out
  | [.one ⟨true, [.val (.int .i64 x0), .val (.string x1), .val (.int .i64 x2)]⟩, .one ⟨true, [.val (.int .i64 x3), .val (.int .i64 x4), .val (.int .i64 x5)]⟩, .one ⟨false, [.ref 0]⟩], [.row false 26 (.sl 2 (.int .i64)) x6] => some ⟨(.one ⟨false, [(.val (.int IntKind.i64 (impl_stepCode_0 x0 x1 x2 x3 x4 x5 x6)))]⟩), [(.row false 26 (CTy.sl (2 : TypeId) (CTy.int IntKind.i64)) x6)], [], [(impl_stepCode_1 x0 x1 x2 x3 x4 x5 x6)]⟩
  | _, _ => none

def p_impl_stepCode : PF Tryd.prog := PF.ofG Tryd.prog [n_impl_IsBlock, p_impl_isPossible, p_slices_ContainsFunc_int64_int64_q3300, PF.lend p_slices_ContainsFunc_int64_int64_q3300, PF.fz p_slices_ContainsFunc_int64_int64_q3300] [] hmix 57 Tryd.f57 Tryd.func57 (fun c _ => LOk.nil c) F_impl_stepCode (by
  intro vs es r h; unfold F_impl_stepCode at h; split at h
  · cases h; kernel_rfl
  · cases h)

end Go.SX

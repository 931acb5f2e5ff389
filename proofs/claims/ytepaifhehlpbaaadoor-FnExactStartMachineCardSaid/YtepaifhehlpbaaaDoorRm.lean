/- What functions of the program come to, row by row (made by a program of the workplace). -/
import Derived.Test.YtepaifhehlpbaaaDoorTXh
import Derived.Test.YtepaifhehlpbaaaDoorProg
import Derived.Test.YtepaifhehlpbaaaDoorNp
namespace Go.SX
open Go.Proofs
set_option maxRecDepth 100000

def laws_szCode_0 (x3 : Int) (x4 : List (Int × ByteArray × Int)) (x5 : List (Int × Int)) : Int :=
  bif ltI (szTs x3 x4) (0 : Int) then (-1 : Int)
  else bif ltI (szL (szTs x3 x4) (List.length x5)) (0 : Int) then (-1 : Int) else szL (szTs x3 x4) (List.length x5)

def laws_szCode_1 (x3 : Int) (x4 : List (Int × ByteArray × Int)) (x5 : List (Int × Int)) : Bool :=
  allT
  [leN (List.length x4) (9223372036854775807 : Nat) && (leI (-1 : Int) x3 && leI x3 (1048576 : Int)),
    ltI (szTs x3 x4) (0 : Int) ||
      leN (List.length x5) (9223372036854775807 : Nat) && (leI (-1 : Int) (szTs x3 x4) && leI (szTs x3 x4) (1048576 : Int))]

def F_laws_szCode : List SV → List Entry → Option Out
  | [.one ⟨true, [.val (.int .i64 _x0), .val (.int .i64 _x1), .val (.int .i64 _x2), .ref 0, .ref 1]⟩, .one ⟨false, [.val (.int .i64 x3)]⟩], [.row false 23 (.pair (.int .i64) (.pair (.str) (.int .i64))) x4, .row false 146 (.pair (.int .i64) (.int .i64)) x5] => some ⟨(.one ⟨false, [(.val (.int IntKind.i64 (laws_szCode_0 x3 x4 x5)))]⟩), [(.row false 23 (CTy.pair (CTy.int IntKind.i64) (CTy.pair CTy.str (CTy.int IntKind.i64))) x4), (.row false 146 (CTy.pair (CTy.int IntKind.i64) (CTy.int IntKind.i64)) x5)], [], [(laws_szCode_1 x3 x4 x5)]⟩
  | _, _ => none

def p_laws_szCode : PF Tryd.prog := PF.ofG Tryd.prog [n_laws_szTermS, PF.lend n_laws_szTermS, PF.fz n_laws_szTermS, n_laws_szInstructionS, PF.lend n_laws_szInstructionS, PF.fz n_laws_szInstructionS] [] hmix 42 Tryd.f42 Tryd.func42 (fun c _ => LOk.nil c) F_laws_szCode (by
  intro vs es r h; unfold F_laws_szCode at h; split at h
  · cases h; kernel_rfl
  · cases h)

def laws_szMemory_0 (x0 : Int) (x1 : List Int) (x2 : List (Int × Int × Int)) : Int :=
  bif ltI (szV x0 x1) (0 : Int) then (-1 : Int)
  else bif ltI (szL (szV x0 x1) (List.length x2)) (0 : Int) then (-1 : Int) else szL (szV x0 x1) (List.length x2)

def laws_szMemory_1 (x0 : Int) (x1 : List Int) (x2 : List (Int × Int × Int)) : Bool :=
  allT
  [leN (List.length x1) (9223372036854775807 : Nat) && (leI (-1 : Int) x0 && leI x0 (1048576 : Int)),
    ltI (szV x0 x1) (0 : Int) || leN (List.length x2) (9223372036854775807 : Nat) && (leI (-1 : Int) (szV x0 x1) && leI (szV x0 x1) (1048576 : Int))]

def F_laws_szMemory : List SV → List Entry → Option Out
  | [.one ⟨true, [.ref 0, .ref 1]⟩, .one ⟨false, [.val (.int .i64 x0)]⟩], [.row false 2 (.int .i64) x1, .row false 25 (.pair (.int .i64) (.pair (.int .i64) (.int .i64))) x2] => some ⟨(.one ⟨false, [(.val (.int IntKind.i64 (laws_szMemory_0 x0 x1 x2)))]⟩), [(.row false 2 (CTy.int IntKind.i64) x1), (.row false 25 (CTy.pair (CTy.int IntKind.i64) (CTy.pair (CTy.int IntKind.i64) (CTy.int IntKind.i64))) x2)], [], [(laws_szMemory_1 x0 x1 x2)]⟩
  | _, _ => none

def p_laws_szMemory : PF Tryd.prog := PF.ofG Tryd.prog [n_laws_szInt64S, PF.lend n_laws_szInt64S, PF.fz n_laws_szInt64S, n_laws_szBlockStateS, PF.lend n_laws_szBlockStateS, PF.fz n_laws_szBlockStateS] [] hmix 43 Tryd.f43 Tryd.func43 (fun c _ => LOk.nil c) F_laws_szMemory (by
  intro vs es r h; unfold F_laws_szMemory at h; split at h
  · cases h; kernel_rfl
  · cases h)

def spec_l18Start_0  : List Int :=
  []

def spec_l18Start_1 (x2 : Int) : List Int :=
  List.replicate (Int.toNat x2) (0 : Int)

def spec_l18Start_2 (x2 : Int) (x5 : List Int) (x6 : List (Int × Int × Int)) : Bool :=
  allT
  [leN (List.length x5) (1048576 : Nat), leI (0 : Int) x2, leI x2 x2, leI ((↑(8 : Nat) : Int) * x2) (281474976710656 : Int),
    leI x2 (9223372036854775807 : Int), leN ((0 : Nat) + List.length x6) (9223372036854775807 : Nat),
    leN (((0 : Nat) + List.length x6) * (24 : Nat)) (140737488355328 : Nat)]

def F_spec_l18Start : List SV → List Entry → Option Out
  | [.one ⟨true, [.val (.int .i64 _x0), .val (.int .i64 _x1), .val (.int .i64 x2), .ref 0, .ref 1]⟩, .one ⟨true, [.ref 2, .ref 3]⟩], [.row false 31 (.pair (.int .i64) (.pair (.str) (.int .i64))) x3, .row false 144 (.pair (.int .i64) (.int .i64)) x4, .row false 2 (.int .i64) x5, .row false 28 (.pair (.int .i64) (.pair (.int .i64) (.int .i64))) x6] => some ⟨(.one ⟨true, [(.val (.int IntKind.i64 (0 : Int))), (.ref 4), (.ref 5), (.ref 6), (.ref 7)]⟩), [(.row false 31 (CTy.pair (CTy.int IntKind.i64) (CTy.pair CTy.str (CTy.int IntKind.i64))) x3), (.row false 144 (CTy.pair (CTy.int IntKind.i64) (CTy.int IntKind.i64)) x4), (.row false 2 (CTy.int IntKind.i64) x5), (.row false 28 (CTy.pair (CTy.int IntKind.i64) (CTy.pair (CTy.int IntKind.i64) (CTy.int IntKind.i64))) x6)], [(.row true 2 (CTy.int IntKind.i64) (spec_l18Start_0)), (.row true 2 (CTy.int IntKind.i64) x5), (.row true 2 (CTy.int IntKind.i64) (spec_l18Start_1 x2)), (.row true 28 (CTy.pair (CTy.int IntKind.i64) (CTy.pair (CTy.int IntKind.i64) (CTy.int IntKind.i64))) x6)], [(spec_l18Start_2 x2 x5 x6)]⟩
  | _, _ => none

def p_spec_l18Start : PF Tryd.prog := PF.ofG Tryd.prog [n_spec_l01Own, PF.lend n_spec_l01Own, PF.fz n_spec_l01Own] [] hmix 85 Tryd.f85 Tryd.func85 (fun c _ => LOk.nil c) F_spec_l18Start (by
  intro vs es r h; unfold F_spec_l18Start at h; split at h
  · cases h; kernel_rfl
  · cases h)

def spec_StartMachine_0 (x0 : Int) (x1 : Int) (x2 : Int) (x3 : List (Int × ByteArray × Int)) (x4 : List (Int × Int)) (x5 : List Int) (x6 : List (Int × Int × Int)) : Int :=
  bif !codeB x0 x1 x2 x3 x4 then (0 : Int) else bif !suitB x1 x3 x5 x6 then (0 : Int) else (0 : Int)

def spec_StartMachine_1 (x0 : Int) (x1 : Int) (x2 : Int) (x3 : List (Int × ByteArray × Int)) (x4 : List (Int × Int)) (x5 : List Int) (x6 : List (Int × Int × Int)) : Int :=
  bif !codeB x0 x1 x2 x3 x4 then (1 : Int) else bif !suitB x1 x3 x5 x6 then (2 : Int) else (0 : Int)

def spec_StartMachine_2 (x0 : Int) (x1 : Int) (x2 : Int) (x3 : List (Int × ByteArray × Int)) (x4 : List (Int × Int)) (x5 : List Int) (x6 : List (Int × Int × Int)) : List Int :=
  bif !codeB x0 x1 x2 x3 x4 then [] else bif !suitB x1 x3 x5 x6 then [] else spec_l18Start_0

def spec_StartMachine_3 (x0 : Int) (x1 : Int) (x2 : Int) (x3 : List (Int × ByteArray × Int)) (x4 : List (Int × Int)) (x5 : List Int) (x6 : List (Int × Int × Int)) : List Int :=
  bif !codeB x0 x1 x2 x3 x4 then [] else bif !suitB x1 x3 x5 x6 then [] else x5

def spec_StartMachine_4 (x0 : Int) (x1 : Int) (x2 : Int) (x3 : List (Int × ByteArray × Int)) (x4 : List (Int × Int)) (x5 : List Int) (x6 : List (Int × Int × Int)) : List Int :=
  bif !codeB x0 x1 x2 x3 x4 then [] else bif !suitB x1 x3 x5 x6 then [] else spec_l18Start_1 x2

def spec_StartMachine_5 (x0 : Int) (x1 : Int) (x2 : Int) (x3 : List (Int × ByteArray × Int)) (x4 : List (Int × Int)) (x5 : List Int) (x6 : List (Int × Int × Int)) : List (Int × (Int × Int)) :=
  bif !codeB x0 x1 x2 x3 x4 then [] else bif !suitB x1 x3 x5 x6 then [] else x6

def spec_StartMachine_6 (x0 : Int) (x1 : Int) (x2 : Int) (x3 : List (Int × ByteArray × Int)) (x4 : List (Int × Int)) (x5 : List Int) (x6 : List (Int × Int × Int)) : Bool :=
  allT
  [tsOk x3, !codeB x0 x1 x2 x3 x4 || leN (List.length x5) (9223372036854775807 : Nat) && leN (List.length x3) (9223372036854775807 : Nat),
    !codeB x0 x1 x2 x3 x4 || (!suitB x1 x3 x5 x6 || spec_l18Start_2 x2 x5 x6)]

def F_spec_StartMachine : List SV → List Entry → Option Out
  | [.one ⟨true, [.val (.int .i64 x0), .val (.int .i64 x1), .val (.int .i64 x2), .ref 0, .ref 1]⟩, .one ⟨true, [.ref 2, .ref 3]⟩], [.row false 31 (.pair (.int .i64) (.pair (.str) (.int .i64))) x3, .row false 144 (.pair (.int .i64) (.int .i64)) x4, .row false 2 (.int .i64) x5, .row false 28 (.pair (.int .i64) (.pair (.int .i64) (.int .i64))) x6] => some ⟨(.tup [⟨true, [(.val (.int IntKind.i64 (spec_StartMachine_0 x0 x1 x2 x3 x4 x5 x6))), (.ref 4), (.ref 5), (.ref 6), (.ref 7)]⟩, ⟨false, [(.val (.int IntKind.i64 (spec_StartMachine_1 x0 x1 x2 x3 x4 x5 x6)))]⟩]), [(.row false 31 (CTy.pair (CTy.int IntKind.i64) (CTy.pair CTy.str (CTy.int IntKind.i64))) x3), (.row false 144 (CTy.pair (CTy.int IntKind.i64) (CTy.int IntKind.i64)) x4), (.row false 2 (CTy.int IntKind.i64) x5), (.row false 28 (CTy.pair (CTy.int IntKind.i64) (CTy.pair (CTy.int IntKind.i64) (CTy.int IntKind.i64))) x6)], [(.row true 2 (CTy.int IntKind.i64) (spec_StartMachine_2 x0 x1 x2 x3 x4 x5 x6)), (.row true 2 (CTy.int IntKind.i64) (spec_StartMachine_3 x0 x1 x2 x3 x4 x5 x6)), (.row true 2 (CTy.int IntKind.i64) (spec_StartMachine_4 x0 x1 x2 x3 x4 x5 x6)), (.row true 28 (CTy.pair (CTy.int IntKind.i64) (CTy.pair (CTy.int IntKind.i64) (CTy.int IntKind.i64))) (spec_StartMachine_5 x0 x1 x2 x3 x4 x5 x6))], [(spec_StartMachine_6 x0 x1 x2 x3 x4 x5 x6)]⟩
  | _, _ => none

def p_spec_StartMachine : PF Tryd.prog := PF.ofG Tryd.prog [n_spec_IsCode, PF.lend n_spec_IsCode, PF.fz n_spec_IsCode, n_spec_l18Suits, PF.lend n_spec_l18Suits, PF.fz n_spec_l18Suits, p_spec_l18Start, PF.lend p_spec_l18Start, PF.fz p_spec_l18Start] [] hmix 44 Tryd.f44 Tryd.func44 (fun c _ => LOk.nil c) F_spec_StartMachine (by
  intro vs es r h; unfold F_spec_StartMachine at h; split at h
  · cases h; kernel_rfl
  · cases h)

def laws_toCode_0 (x3 : List (Int × ByteArray × Int)) (x4 : List (Int × Int)) : Bool :=
  allT [leN (List.length x3) (1048576 : Nat), leN (List.length x4) (1048576 : Nat)]

def F_laws_toCode : List SV → List Entry → Option Out
  | [.one ⟨true, [.val (.int .i64 x0), .val (.int .i64 x1), .val (.int .i64 x2), .ref 0, .ref 1]⟩], [.row false 23 (.pair (.int .i64) (.pair (.str) (.int .i64))) x3, .row false 146 (.pair (.int .i64) (.int .i64)) x4] => some ⟨(.one ⟨true, [(.val (.int IntKind.i64 x0)), (.val (.int IntKind.i64 x1)), (.val (.int IntKind.i64 x2)), (.ref 2), (.ref 3)]⟩), [(.row false 23 (CTy.pair (CTy.int IntKind.i64) (CTy.pair CTy.str (CTy.int IntKind.i64))) x3), (.row false 146 (CTy.pair (CTy.int IntKind.i64) (CTy.int IntKind.i64)) x4)], [(.row true 31 (CTy.pair (CTy.int IntKind.i64) (CTy.pair CTy.str (CTy.int IntKind.i64))) x3), (.row true 144 (CTy.pair (CTy.int IntKind.i64) (CTy.int IntKind.i64)) x4)], [(laws_toCode_0 x3 x4)]⟩
  | _, _ => none

def p_laws_toCode : PF Tryd.prog := PF.ofG Tryd.prog [n_laws_toTermS, PF.lend n_laws_toTermS, PF.fz n_laws_toTermS, n_laws_toInstructionS, PF.lend n_laws_toInstructionS, PF.fz n_laws_toInstructionS] [] hmix 45 Tryd.f45 Tryd.func45 (fun c _ => LOk.nil c) F_laws_toCode (by
  intro vs es r h; unfold F_laws_toCode at h; split at h
  · cases h; kernel_rfl
  · cases h)

def laws_toMemory_0 (x0 : List Int) (x1 : List (Int × Int × Int)) : Bool :=
  allT [leN (List.length x0) (1048576 : Nat), leN (List.length x1) (1048576 : Nat)]

def F_laws_toMemory : List SV → List Entry → Option Out
  | [.one ⟨true, [.ref 0, .ref 1]⟩], [.row false 2 (.int .i64) x0, .row false 25 (.pair (.int .i64) (.pair (.int .i64) (.int .i64))) x1] => some ⟨(.one ⟨true, [(.ref 2), (.ref 3)]⟩), [(.row false 2 (CTy.int IntKind.i64) x0), (.row false 25 (CTy.pair (CTy.int IntKind.i64) (CTy.pair (CTy.int IntKind.i64) (CTy.int IntKind.i64))) x1)], [(.row true 2 (CTy.int IntKind.i64) x0), (.row true 28 (CTy.pair (CTy.int IntKind.i64) (CTy.pair (CTy.int IntKind.i64) (CTy.int IntKind.i64))) x1)], [(laws_toMemory_0 x0 x1)]⟩
  | _, _ => none

def p_laws_toMemory : PF Tryd.prog := PF.ofG Tryd.prog [n_laws_toInt64S, PF.lend n_laws_toInt64S, PF.fz n_laws_toInt64S, n_laws_toBlockStateS, PF.lend n_laws_toBlockStateS, PF.fz n_laws_toBlockStateS] [] hmix 46 Tryd.f46 Tryd.func46 (fun c _ => LOk.nil c) F_laws_toMemory (by
  intro vs es r h; unfold F_laws_toMemory at h; split at h
  · cases h; kernel_rfl
  · cases h)

def impl_memoryCode_1_q4102_0 (x0 : List Int) (x1 : Int) : Bool :=
  !bitsB x1 x0

def impl_memoryCode_1_q4102_1 (x0 : List Int) : Bool :=
  allT [leN (List.length x0) (9223372036854775807 : Nat)]

def F_impl_memoryCode_1_q4102 : List SV → List Entry → Option Out
  | [(.one ⟨false, [(.ref 0)]⟩), (.one ⟨false, [(.ptr 1 0)]⟩)], [(.row false 2 (CTy.int IntKind.i64) x0), (.box 79 [(.val (.int IntKind.i64 x1)), (.val (.int IntKind.i64 x2)), (.val (.int IntKind.i64 x3)), (.ref 2), (.ref 3)]), (.row false 31 (CTy.pair (CTy.int IntKind.i64) (CTy.pair CTy.str (CTy.int IntKind.i64))) x4), (.row false 144 (CTy.pair (CTy.int IntKind.i64) (CTy.int IntKind.i64)) x5)] => some ⟨(.one ⟨false, [(.val (.bool (impl_memoryCode_1_q4102_0 x0 x1)))]⟩), [(.row false 2 (CTy.int IntKind.i64) x0), (.box 79 [(.val (.int IntKind.i64 x1)), (.val (.int IntKind.i64 x2)), (.val (.int IntKind.i64 x3)), (.ref 2), (.ref 3)]), (.row false 31 (CTy.pair (CTy.int IntKind.i64) (CTy.pair CTy.str (CTy.int IntKind.i64))) x4), (.row false 144 (CTy.pair (CTy.int IntKind.i64) (CTy.int IntKind.i64)) x5)], [], [(impl_memoryCode_1_q4102_1 x0)]⟩
  | _, _ => none

def p_impl_memoryCode_1_q4102 : PF Tryd.prog := PF.ofG Tryd.prog [n_impl_areBits, PF.lend n_impl_areBits, PF.fz n_impl_areBits] [] hmix 120 Tryd.f120 Tryd.func120 (fun c _ => LOk.nil c) F_impl_memoryCode_1_q4102 (by
  intro vs es r h; unfold F_impl_memoryCode_1_q4102 at h; split at h
  · cases h; kernel_rfl
  · cases h)

abbrev X_slices_IndexFunc_int64_int64_q4101_l0 := Int × Int × Int × Int × Int × List (List Int) × List (Int × (ByteArray × Int)) × List (Int × Int)

def slices_IndexFunc_int64_int64_q4101_l0_a0 (y0 : Int) (y5 : List (List Int)) : List Int :=
  Option.getD y5[Int.toNat y0]? (dflt (CTy.sl (2 : TypeId) (CTy.int IntKind.i64)))

def slices_IndexFunc_int64_int64_q4101_l0_0 (y0 : Int) (y1 : Int) : Bool :=
  ltI y0 y1

def slices_IndexFunc_int64_int64_q4101_l0_1 (y0 : Int) : Bool :=
  leI (0 : Int) y0

def slices_IndexFunc_int64_int64_q4101_l0_2 (y0 : Int) (y5 : List (List Int)) : Bool :=
  ltI y0 (↑(List.length y5) : Int)

def slices_IndexFunc_int64_int64_q4101_l0_3 (y0 : Int) (y5 : List (List Int)) : Bool :=
  ltN (Int.toNat y0) (List.length y5)

def slices_IndexFunc_int64_int64_q4101_l0_4 (y0 : Int) (y5 : List (List Int)) : Bool :=
  impl_memoryCode_1_q4102_1 (slices_IndexFunc_int64_int64_q4101_l0_a0 y0 y5)

def slices_IndexFunc_int64_int64_q4101_l0_5 (y0 : Int) (y2 : Int) (y5 : List (List Int)) : Bool :=
  impl_memoryCode_1_q4102_0 (slices_IndexFunc_int64_int64_q4101_l0_a0 y0 y5) y2

def slices_IndexFunc_int64_int64_q4101_l0_6 (y0 : Int) : Int :=
  IntKind.wrap IntKind.i64 (y0 + (1 : Int))

def JL_slices_IndexFunc_int64_int64_q4101_l0 : X_slices_IndexFunc_int64_int64_q4101_l0 → List (Nat × SV)
  | (y0, y1, _, _, _, _, _, _) => [(8, (.one ⟨false, [(.val (.int IntKind.i64 y0))]⟩)), (7, (.one ⟨false, [(.val (.int IntKind.i64 y1))]⟩)), (1, (.one ⟨false, [(.clo 120 [0])]⟩)), (0, (.one ⟨false, [(.ref 1)]⟩))]

def JE_slices_IndexFunc_int64_int64_q4101_l0 : X_slices_IndexFunc_int64_int64_q4101_l0 → List (Nat × Entry)
  | (_, _, y2, y3, y4, y5, y6, y7) => [(0, (.box 79 [(.val (.int IntKind.i64 y2)), (.val (.int IntKind.i64 y3)), (.val (.int IntKind.i64 y4)), (.ref 2), (.ref 3)])), (1, (.row false 26 (CTy.sl (2 : TypeId) (CTy.int IntKind.i64)) y5)), (2, (.row false 31 (CTy.pair (CTy.int IntKind.i64) (CTy.pair CTy.str (CTy.int IntKind.i64))) y6)), (3, (.row false 144 (CTy.pair (CTy.int IntKind.i64) (CTy.int IntKind.i64)) y7))]

def XL_slices_IndexFunc_int64_int64_q4101_l0 : Nat → X_slices_IndexFunc_int64_int64_q4101_l0 → List (Nat × SV)
  | 0, (y0, _, _, _, _, _, _, _) => [(4, (.one ⟨false, [(.val (.int IntKind.i64 y0))]⟩))]
  | _, (_, _, _, _, _, _, _, _) => []

def XE_slices_IndexFunc_int64_int64_q4101_l0 : Nat → X_slices_IndexFunc_int64_int64_q4101_l0 → List (Nat × Entry)
  | 0, (_, _, y2, y3, y4, y5, y6, y7) => [(0, (.box 79 [(.val (.int IntKind.i64 y2)), (.val (.int IntKind.i64 y3)), (.val (.int IntKind.i64 y4)), (.ref 2), (.ref 3)])), (1, (.row false 26 (CTy.sl (2 : TypeId) (CTy.int IntKind.i64)) y5)), (2, (.row false 31 (CTy.pair (CTy.int IntKind.i64) (CTy.pair CTy.str (CTy.int IntKind.i64))) y6)), (3, (.row false 144 (CTy.pair (CTy.int IntKind.i64) (CTy.int IntKind.i64)) y7))]
  | _, (_, _, y2, y3, y4, y5, y6, y7) => [(0, (.box 79 [(.val (.int IntKind.i64 y2)), (.val (.int IntKind.i64 y3)), (.val (.int IntKind.i64 y4)), (.ref 2), (.ref 3)])), (1, (.row false 26 (CTy.sl (2 : TypeId) (CTy.int IntKind.i64)) y5)), (2, (.row false 31 (CTy.pair (CTy.int IntKind.i64) (CTy.pair CTy.str (CTy.int IntKind.i64))) y6)), (3, (.row false 144 (CTy.pair (CTy.int IntKind.i64) (CTy.int IntKind.i64)) y7))]

def lt_slices_IndexFunc_int64_int64_q4101_l0 : X_slices_IndexFunc_int64_int64_q4101_l0 → LT X_slices_IndexFunc_int64_int64_q4101_l0
  | (y0, y1, y2, y3, y4, y5, y6, y7) => .ite (slices_IndexFunc_int64_int64_q4101_l0_0 y0 y1) (.need [(slices_IndexFunc_int64_int64_q4101_l0_1 y0), (slices_IndexFunc_int64_int64_q4101_l0_2 y0 y5), (slices_IndexFunc_int64_int64_q4101_l0_3 y0 y5), (slices_IndexFunc_int64_int64_q4101_l0_4 y0 y5)] (.ite (slices_IndexFunc_int64_int64_q4101_l0_5 y0 y2 y5) (.ext 0 [(0, 0), (1, 1), (2, 2), (3, 3)]) (.nrm ((slices_IndexFunc_int64_int64_q4101_l0_6 y0), y1, y2, y3, y4, y5, y6, y7) [(0, 0), (1, 1), (2, 2), (3, 3)]))) (.ext 1 [(0, 0), (1, 1), (2, 2), (3, 3)])

def rd_slices_IndexFunc_int64_int64_q4101_l0 (s : St) : Option X_slices_IndexFunc_int64_int64_q4101_l0 :=
  (match s.look 8 with
  | some ⟨none, (.one ⟨false, [(.val (.int IntKind.i64 y0))]⟩)⟩ =>
  (match s.look 7 with
  | some ⟨none, (.one ⟨false, [(.val (.int IntKind.i64 y1))]⟩)⟩ =>
  (match s.look 1 with
  | some ⟨none, (.one ⟨false, [(.clo 120 [1])]⟩)⟩ =>
  (match s.look 0 with
  | some ⟨none, (.one ⟨false, [(.ref 0)]⟩)⟩ =>
  (match s.ent 1 with
  | some (.box 79 [(.val (.int IntKind.i64 y2)), (.val (.int IntKind.i64 y3)), (.val (.int IntKind.i64 y4)), (.ref 2), (.ref 3)]) =>
  (match s.ent 0 with
  | some (.row false 26 (CTy.sl (2 : TypeId) (CTy.int IntKind.i64)) y5) =>
  (match s.ent 2 with
  | some (.row false 31 (CTy.pair (CTy.int IntKind.i64) (CTy.pair CTy.str (CTy.int IntKind.i64))) y6) =>
  (match s.ent 3 with
  | some (.row false 144 (CTy.pair (CTy.int IntKind.i64) (CTy.int IntKind.i64)) y7) =>
  some (y0, y1, y2, y3, y4, y5, y6, y7)
  | _ => none)
  | _ => none)
  | _ => none)
  | _ => none)
  | _ => none)
  | _ => none)
  | _ => none)
  | _ => none)

def lp_slices_IndexFunc_int64_int64_q4101_l0 : Lp X_slices_IndexFunc_int64_int64_q4101_l0 where
  h := ⟨[9, 10, 5, 11, 12, 13, 14, 15, 16, 17, 4, 18, 8], [0, 1, 2, 3], [], []⟩
  JL := JL_slices_IndexFunc_int64_int64_q4101_l0
  JE := JE_slices_IndexFunc_int64_int64_q4101_l0
  XL := XL_slices_IndexFunc_int64_int64_q4101_l0
  XE := XE_slices_IndexFunc_int64_int64_q4101_l0
  q := fun j => match j with | 0 => .ret | _ => .exit 0
  tags := [0, 1]
  lt := lt_slices_IndexFunc_int64_int64_q4101_l0
  fuel := fun (y0, y1, y2, y3, y4, y5, y6, y7) => y0.natAbs + y1.natAbs + y2.natAbs + y3.natAbs + y4.natAbs + y5.length + y6.length + y7.length
  fix := fun (_, y1, y2, y3, y4, y5, y6, y7) (y0, _, _, _, _, _, _, _) => (y0, y1, y2, y3, y4, y5, y6, y7)
  σ := [(0, 1), (1, 0), (2, 2), (3, 3)]
  rd := rd_slices_IndexFunc_int64_int64_q4101_l0

theorem lpok_slices_IndexFunc_int64_int64_q4101_l0 : LoopOk Tryd.prog (fun k => Nat.blt k Tryd.f125.ntmps) lp_slices_IndexFunc_int64_int64_q4101_l0.F (loopAt Tryd.f125 0) := by
  refine Lp.ok (tbl := [p_impl_memoryCode_1_q4102, PF.lend p_impl_memoryCode_1_q4102, PF.fz p_impl_memoryCode_1_q4102]) (lf := []) hmix lp_slices_IndexFunc_int64_int64_q4101_l0 (by kernel_rfl) (LOk.nil _) (fun _ => rfl) (fun j _ => by unfold lp_slices_IndexFunc_int64_int64_q4101_l0; match j with | 0 => rfl | _ + 1 => rfl) ?_ ?_ ?_ ?_ (fun _ => rfl) ?_
  · intro x; obtain ⟨y0, y1, y2, y3, y4, y5, y6, y7⟩ := x; kernel_rfl
  · intro x; obtain ⟨y0, y1, y2, y3, y4, y5, y6, y7⟩ := x; kernel_rfl
  · intro s x h
    have h : rd_slices_IndexFunc_int64_int64_q4101_l0 s = some x := h
    unfold rd_slices_IndexFunc_int64_int64_q4101_l0 at h
    repeat' split at h
    all_goals cases h
    exact ⟨absS_cons (by assumption) rfl (absS_cons (by assumption) rfl (absS_cons (by assumption) rfl (absS_cons (by assumption) rfl (rfl)))), absE_cons rfl (by assumption) rfl (absE_cons rfl (by assumption) rfl (absE_cons rfl (by assumption) rfl (absE_cons rfl (by assumption) rfl (rfl))))⟩
  · intro x; obtain ⟨y0, y1, y2, y3, y4, y5, y6, y7⟩ := x; kernel_rfl
  · intro x z; obtain ⟨y0, y1, y2, y3, y4, y5, y6, y7⟩ := x; exact (And.intro (And.intro trivial rfl) trivial)

def slices_IndexFunc_int64_int64_q4101_a0 (x0 : List (List Int)) (x1 : Int) (x2 : Int) (x3 : Int) (x4 : List (Int × ByteArray × Int)) (x5 : List (Int × Int)) : Int × Int × Int × Int × Int × List (List Int) × List (Int × ByteArray × Int) × List (Int × Int) :=
  ((0 : Int), (↑(List.length x0) : Int), x1, x2, x3, x0, x4, x5)

def slices_IndexFunc_int64_int64_q4101_a1 (x0 : List (List Int)) (x1 : Int) (x2 : Int) (x3 : Int) (x4 : List (Int × ByteArray × Int)) (x5 : List (Int × Int)) : Bool :=
  Nat.beq (Prod.fst (Lp.res lp_slices_IndexFunc_int64_int64_q4101_l0 (slices_IndexFunc_int64_int64_q4101_a0 x0 x1 x2 x3 x4 x5))) (0 : Nat)

def slices_IndexFunc_int64_int64_q4101_0 (x0 : List (List Int)) (x1 : Int) (x2 : Int) (x3 : Int) (x4 : List (Int × ByteArray × Int)) (x5 : List (Int × Int)) : Int :=
  bif slices_IndexFunc_int64_int64_q4101_a1 x0 x1 x2 x3 x4 x5 then
  Prod.fst (Prod.snd (Lp.res lp_slices_IndexFunc_int64_int64_q4101_l0 (slices_IndexFunc_int64_int64_q4101_a0 x0 x1 x2 x3 x4 x5)))
  else (-1 : Int)

def slices_IndexFunc_int64_int64_q4101_1 (x0 : List (List Int)) (x1 : Int) (x2 : Int) (x3 : Int) (x4 : List (Int × ByteArray × Int)) (x5 : List (Int × Int)) : Int :=
  bif slices_IndexFunc_int64_int64_q4101_a1 x0 x1 x2 x3 x4 x5 then x1 else x1

def slices_IndexFunc_int64_int64_q4101_2 (x0 : List (List Int)) (x1 : Int) (x2 : Int) (x3 : Int) (x4 : List (Int × ByteArray × Int)) (x5 : List (Int × Int)) : Int :=
  bif slices_IndexFunc_int64_int64_q4101_a1 x0 x1 x2 x3 x4 x5 then x2 else x2

def slices_IndexFunc_int64_int64_q4101_3 (x0 : List (List Int)) (x1 : Int) (x2 : Int) (x3 : Int) (x4 : List (Int × ByteArray × Int)) (x5 : List (Int × Int)) : Int :=
  bif slices_IndexFunc_int64_int64_q4101_a1 x0 x1 x2 x3 x4 x5 then x3 else x3

def slices_IndexFunc_int64_int64_q4101_4 (x0 : List (List Int)) (x1 : Int) (x2 : Int) (x3 : Int) (x4 : List (Int × ByteArray × Int)) (x5 : List (Int × Int)) : Bool :=
  allT [Lp.fin lp_slices_IndexFunc_int64_int64_q4101_l0 (slices_IndexFunc_int64_int64_q4101_a0 x0 x1 x2 x3 x4 x5)]

def F_slices_IndexFunc_int64_int64_q4101 : List SV → List Entry → Option Out
  | [(.one ⟨false, [(.ref 0)]⟩), (.one ⟨false, [(.clo 120 [1])]⟩)], [(.row false 26 (CTy.sl (2 : TypeId) (CTy.int IntKind.i64)) x0), (.box 79 [(.val (.int IntKind.i64 x1)), (.val (.int IntKind.i64 x2)), (.val (.int IntKind.i64 x3)), (.ref 2), (.ref 3)]), (.row false 31 (CTy.pair (CTy.int IntKind.i64) (CTy.pair CTy.str (CTy.int IntKind.i64))) x4), (.row false 144 (CTy.pair (CTy.int IntKind.i64) (CTy.int IntKind.i64)) x5)] => some ⟨(.one ⟨false, [(.val (.int IntKind.i64 (slices_IndexFunc_int64_int64_q4101_0 x0 x1 x2 x3 x4 x5)))]⟩), [(.row false 26 (CTy.sl (2 : TypeId) (CTy.int IntKind.i64)) x0), (.box 79 [(.val (.int IntKind.i64 (slices_IndexFunc_int64_int64_q4101_1 x0 x1 x2 x3 x4 x5))), (.val (.int IntKind.i64 (slices_IndexFunc_int64_int64_q4101_2 x0 x1 x2 x3 x4 x5))), (.val (.int IntKind.i64 (slices_IndexFunc_int64_int64_q4101_3 x0 x1 x2 x3 x4 x5))), (.ref 2), (.ref 3)]), (.row false 31 (CTy.pair (CTy.int IntKind.i64) (CTy.pair CTy.str (CTy.int IntKind.i64))) x4), (.row false 144 (CTy.pair (CTy.int IntKind.i64) (CTy.int IntKind.i64)) x5)], [], [(slices_IndexFunc_int64_int64_q4101_4 x0 x1 x2 x3 x4 x5)]⟩
  | _, _ => none

def p_slices_IndexFunc_int64_int64_q4101 : PF Tryd.prog := PF.ofG Tryd.prog [p_impl_memoryCode_1_q4102, PF.lend p_impl_memoryCode_1_q4102, PF.fz p_impl_memoryCode_1_q4102] [lp_slices_IndexFunc_int64_int64_q4101_l0.F] hmix 125 Tryd.f125 Tryd.func125 (LOk.fnT (l := [loopAt Tryd.f125 0]) (by kernel_rfl) (.cons lpok_slices_IndexFunc_int64_int64_q4101_l0 (.nil _))) F_slices_IndexFunc_int64_int64_q4101 (by
  intro vs es r h; unfold F_slices_IndexFunc_int64_int64_q4101 at h; split at h
  · cases h; kernel_rfl
  · cases h)

def slices_ContainsFunc_int64_int64_q4100_0 (x0 : List (List Int)) (x1 : Int) (x2 : Int) (x3 : Int) (x4 : List (Int × ByteArray × Int)) (x5 : List (Int × Int)) : Bool :=
  leI (0 : Int) (slices_IndexFunc_int64_int64_q4101_0 x0 x1 x2 x3 x4 x5)

def slices_ContainsFunc_int64_int64_q4100_1 (x0 : List (List Int)) (x1 : Int) (x2 : Int) (x3 : Int) (x4 : List (Int × ByteArray × Int)) (x5 : List (Int × Int)) : Int :=
  slices_IndexFunc_int64_int64_q4101_1 x0 x1 x2 x3 x4 x5

def slices_ContainsFunc_int64_int64_q4100_2 (x0 : List (List Int)) (x1 : Int) (x2 : Int) (x3 : Int) (x4 : List (Int × ByteArray × Int)) (x5 : List (Int × Int)) : Int :=
  slices_IndexFunc_int64_int64_q4101_2 x0 x1 x2 x3 x4 x5

def slices_ContainsFunc_int64_int64_q4100_3 (x0 : List (List Int)) (x1 : Int) (x2 : Int) (x3 : Int) (x4 : List (Int × ByteArray × Int)) (x5 : List (Int × Int)) : Int :=
  slices_IndexFunc_int64_int64_q4101_3 x0 x1 x2 x3 x4 x5

def slices_ContainsFunc_int64_int64_q4100_4 (x0 : List (List Int)) (x1 : Int) (x2 : Int) (x3 : Int) (x4 : List (Int × ByteArray × Int)) (x5 : List (Int × Int)) : Bool :=
  allT [slices_IndexFunc_int64_int64_q4101_4 x0 x1 x2 x3 x4 x5]

def F_slices_ContainsFunc_int64_int64_q4100 : List SV → List Entry → Option Out
  | [(.one ⟨false, [(.ref 0)]⟩), (.one ⟨false, [(.clo 120 [1])]⟩)], [(.row false 26 (CTy.sl (2 : TypeId) (CTy.int IntKind.i64)) x0), (.box 79 [(.val (.int IntKind.i64 x1)), (.val (.int IntKind.i64 x2)), (.val (.int IntKind.i64 x3)), (.ref 2), (.ref 3)]), (.row false 31 (CTy.pair (CTy.int IntKind.i64) (CTy.pair CTy.str (CTy.int IntKind.i64))) x4), (.row false 144 (CTy.pair (CTy.int IntKind.i64) (CTy.int IntKind.i64)) x5)] => some ⟨(.one ⟨false, [(.val (.bool (slices_ContainsFunc_int64_int64_q4100_0 x0 x1 x2 x3 x4 x5)))]⟩), [(.row false 26 (CTy.sl (2 : TypeId) (CTy.int IntKind.i64)) x0), (.box 79 [(.val (.int IntKind.i64 (slices_ContainsFunc_int64_int64_q4100_1 x0 x1 x2 x3 x4 x5))), (.val (.int IntKind.i64 (slices_ContainsFunc_int64_int64_q4100_2 x0 x1 x2 x3 x4 x5))), (.val (.int IntKind.i64 (slices_ContainsFunc_int64_int64_q4100_3 x0 x1 x2 x3 x4 x5))), (.ref 2), (.ref 3)]), (.row false 31 (CTy.pair (CTy.int IntKind.i64) (CTy.pair CTy.str (CTy.int IntKind.i64))) x4), (.row false 144 (CTy.pair (CTy.int IntKind.i64) (CTy.int IntKind.i64)) x5)], [], [(slices_ContainsFunc_int64_int64_q4100_4 x0 x1 x2 x3 x4 x5)]⟩
  | _, _ => none

def p_slices_ContainsFunc_int64_int64_q4100 : PF Tryd.prog := PF.ofG Tryd.prog [p_slices_IndexFunc_int64_int64_q4101, PF.lend p_slices_IndexFunc_int64_int64_q4101, PF.fz p_slices_IndexFunc_int64_int64_q4101] [] hmix 100 Tryd.f100 Tryd.func100 (fun c _ => LOk.nil c) F_slices_ContainsFunc_int64_int64_q4100 (by
  intro vs es r h; unfold F_slices_ContainsFunc_int64_int64_q4100 at h; split at h
  · cases h; kernel_rfl
  · cases h)

def impl_memoryCode_0 (x0 : Int) (x1 : Int) (x2 : Int) (x3 : List (Int × ByteArray × Int)) (x4 : List (Int × Int)) (x5 : List Int) (x6 : List (Int × Int × Int)) (x7 : List (List Int)) : Int :=
  bif !codeB x0 x1 x2 x3 x4 then (1 : Int)
  else bif bif !suitB x1 x3 x5 x6 then true else slices_ContainsFunc_int64_int64_q4100_0 x7 x0 x1 x2 x3 x4 then (2 : Int) else (0 : Int)

def impl_memoryCode_1 (x0 : Int) (x1 : Int) (x2 : Int) (x3 : List (Int × ByteArray × Int)) (x4 : List (Int × Int)) (x5 : List Int) (x6 : List (Int × Int × Int)) (x7 : List (List Int)) : Bool :=
  allT
  [!codeB x0 x1 x2 x3 x4 || leN (List.length x5) (9223372036854775807 : Nat) && (leN (List.length x3) (9223372036854775807 : Nat) && blksB x3),
    !codeB x0 x1 x2 x3 x4 || (!(!!suitB x1 x3 x5 x6 && true) || slices_ContainsFunc_int64_int64_q4100_4 x7 x0 x1 x2 x3 x4)]

def F_impl_memoryCode : List SV → List Entry → Option Out
  | [.one ⟨true, [.val (.int .i64 x0), .val (.int .i64 x1), .val (.int .i64 x2), .ref 0, .ref 1]⟩, .one ⟨true, [.ref 2, .ref 3]⟩, .one ⟨false, [.ref 4]⟩], [.row false 31 (.pair (.int .i64) (.pair (.str) (.int .i64))) x3, .row false 144 (.pair (.int .i64) (.int .i64)) x4, .row false 2 (.int .i64) x5, .row false 28 (.pair (.int .i64) (.pair (.int .i64) (.int .i64))) x6, .row false 26 (.sl 2 (.int .i64)) x7] => some ⟨(.one ⟨false, [(.val (.int IntKind.i64 (impl_memoryCode_0 x0 x1 x2 x3 x4 x5 x6 x7)))]⟩), [(.row false 31 (CTy.pair (CTy.int IntKind.i64) (CTy.pair CTy.str (CTy.int IntKind.i64))) x3), (.row false 144 (CTy.pair (CTy.int IntKind.i64) (CTy.int IntKind.i64)) x4), (.row false 2 (CTy.int IntKind.i64) x5), (.row false 28 (CTy.pair (CTy.int IntKind.i64) (CTy.pair (CTy.int IntKind.i64) (CTy.int IntKind.i64))) x6), (.row false 26 (CTy.sl (2 : TypeId) (CTy.int IntKind.i64)) x7)], [], [(impl_memoryCode_1 x0 x1 x2 x3 x4 x5 x6 x7)]⟩
  | _, _ => none

def p_impl_memoryCode : PF Tryd.prog := PF.ofG Tryd.prog [n_impl_IsCode, PF.lend n_impl_IsCode, PF.fz n_impl_IsCode, n_loop_example_g00916_impl_Memory_suits, PF.lend n_loop_example_g00916_impl_Memory_suits, PF.fz n_loop_example_g00916_impl_Memory_suits, p_slices_ContainsFunc_int64_int64_q4100, PF.lend p_slices_ContainsFunc_int64_int64_q4100, PF.fz p_slices_ContainsFunc_int64_int64_q4100] [] hmix 89 Tryd.f89 Tryd.func89 (fun c _ => LOk.nil c) F_impl_memoryCode (by
  intro vs es r h; unfold F_impl_memoryCode at h; split at h
  · cases h; kernel_rfl
  · cases h)

def loop_example_g00916_impl_Memory_clone_0 (x0 : List Int) (x1 : List (Int × Int × Int)) : Bool :=
  allT [leN (List.length x0) (1048576 : Nat), leN (List.length x1) (1048576 : Nat)]

def F_loop_example_g00916_impl_Memory_clone : List SV → List Entry → Option Out
  | [.one ⟨true, [.ref 0, .ref 1]⟩], [.row false 2 (.int .i64) x0, .row false 28 (.pair (.int .i64) (.pair (.int .i64) (.int .i64))) x1] => some ⟨(.one ⟨true, [(.ref 2), (.ref 3)]⟩), [(.row false 2 (CTy.int IntKind.i64) x0), (.row false 28 (CTy.pair (CTy.int IntKind.i64) (CTy.pair (CTy.int IntKind.i64) (CTy.int IntKind.i64))) x1)], [(.row true 2 (CTy.int IntKind.i64) x0), (.row true 28 (CTy.pair (CTy.int IntKind.i64) (CTy.pair (CTy.int IntKind.i64) (CTy.int IntKind.i64))) x1)], [(loop_example_g00916_impl_Memory_clone_0 x0 x1)]⟩
  | _, _ => none

def p_loop_example_g00916_impl_Memory_clone : PF Tryd.prog := PF.ofG Tryd.prog [n_slices_Clone_int64_int64, PF.lend n_slices_Clone_int64_int64, PF.fz n_slices_Clone_int64_int64, n_slices_Clone_impl_BlockState, PF.lend n_slices_Clone_impl_BlockState, PF.fz n_slices_Clone_impl_BlockState] [] hmix 121 Tryd.f121 Tryd.func121 (fun c _ => LOk.nil c) F_loop_example_g00916_impl_Memory_clone (by
  intro vs es r h; unfold F_loop_example_g00916_impl_Memory_clone at h; split at h
  · cases h; kernel_rfl
  · cases h)

def impl_start_0  : List Int :=
  []

def impl_start_1 (x2 : Int) : List Int :=
  List.replicate (Int.toNat x2) (0 : Int)

def impl_start_2 (x2 : Int) (x5 : List Int) (x6 : List (Int × Int × Int)) : Bool :=
  allT
  [loop_example_g00916_impl_Memory_clone_0 x5 x6, leI (0 : Int) x2, leI x2 x2, leI ((↑(8 : Nat) : Int) * x2) (281474976710656 : Int),
    leI x2 (9223372036854775807 : Int)]

def F_impl_start : List SV → List Entry → Option Out
  | [.one ⟨true, [.val (.int .i64 _x0), .val (.int .i64 _x1), .val (.int .i64 x2), .ref 0, .ref 1]⟩, .one ⟨true, [.ref 2, .ref 3]⟩], [.row false 31 (.pair (.int .i64) (.pair (.str) (.int .i64))) x3, .row false 144 (.pair (.int .i64) (.int .i64)) x4, .row false 2 (.int .i64) x5, .row false 28 (.pair (.int .i64) (.pair (.int .i64) (.int .i64))) x6] => some ⟨(.one ⟨true, [(.val (.int IntKind.i64 (0 : Int))), (.ref 4), (.ref 5), (.ref 6), (.ref 7)]⟩), [(.row false 31 (CTy.pair (CTy.int IntKind.i64) (CTy.pair CTy.str (CTy.int IntKind.i64))) x3), (.row false 144 (CTy.pair (CTy.int IntKind.i64) (CTy.int IntKind.i64)) x4), (.row false 2 (CTy.int IntKind.i64) x5), (.row false 28 (CTy.pair (CTy.int IntKind.i64) (CTy.pair (CTy.int IntKind.i64) (CTy.int IntKind.i64))) x6)], [(.row true 2 (CTy.int IntKind.i64) (impl_start_0)), (.row true 2 (CTy.int IntKind.i64) x5), (.row true 2 (CTy.int IntKind.i64) (impl_start_1 x2)), (.row true 28 (CTy.pair (CTy.int IntKind.i64) (CTy.pair (CTy.int IntKind.i64) (CTy.int IntKind.i64))) x6)], [(impl_start_2 x2 x5 x6)]⟩
  | _, _ => none

def p_impl_start : PF Tryd.prog := PF.ofG Tryd.prog [p_loop_example_g00916_impl_Memory_clone, PF.lend p_loop_example_g00916_impl_Memory_clone, PF.fz p_loop_example_g00916_impl_Memory_clone] [] hmix 90 Tryd.f90 Tryd.func90 (fun c _ => LOk.nil c) F_impl_start (by
  intro vs es r h; unfold F_impl_start at h; split at h
  · cases h; kernel_rfl
  · cases h)

abbrev X_slices_IndexFunc_int64_int64_q4105_l0 := Int × Int × Int × Int × Int × List (List Int) × List (Int × (ByteArray × Int)) × List (Int × Int)

def slices_IndexFunc_int64_int64_q4105_l0_a0 (y0 : Int) (y5 : List (List Int)) : List Int :=
  Option.getD y5[Int.toNat y0]? (dflt (CTy.sl (2 : Nat) (CTy.int IntKind.i64)))

def slices_IndexFunc_int64_int64_q4105_l0_0 (y0 : Int) (y1 : Int) : Bool :=
  ltI y0 y1

def slices_IndexFunc_int64_int64_q4105_l0_1 (y0 : Int) : Bool :=
  leI (0 : Int) y0

def slices_IndexFunc_int64_int64_q4105_l0_2 (y0 : Int) (y5 : List (List Int)) : Bool :=
  ltI y0 (↑(List.length y5) : Int)

def slices_IndexFunc_int64_int64_q4105_l0_3 (y0 : Int) (y5 : List (List Int)) : Bool :=
  ltN (Int.toNat y0) (List.length y5)

def slices_IndexFunc_int64_int64_q4105_l0_4 (y0 : Int) (y5 : List (List Int)) : Bool :=
  impl_memoryCode_1_q4102_1 (slices_IndexFunc_int64_int64_q4105_l0_a0 y0 y5)

def slices_IndexFunc_int64_int64_q4105_l0_5 (y0 : Int) (y2 : Int) (y5 : List (List Int)) : Bool :=
  impl_memoryCode_1_q4102_0 (slices_IndexFunc_int64_int64_q4105_l0_a0 y0 y5) y2

def slices_IndexFunc_int64_int64_q4105_l0_6 (y0 : Int) : Int :=
  IntKind.wrap IntKind.i64 (y0 + (1 : Int))

def JL_slices_IndexFunc_int64_int64_q4105_l0 : X_slices_IndexFunc_int64_int64_q4105_l0 → List (Nat × SV)
  | (y0, y1, _, _, _, _, _, _) => [(8, (.one ⟨false, [(.val (.int IntKind.i64 y0))]⟩)), (7, (.one ⟨false, [(.val (.int IntKind.i64 y1))]⟩)), (1, (.one ⟨false, [(.clo 120 [0])]⟩)), (0, (.one ⟨false, [(.ref 1)]⟩))]

def JE_slices_IndexFunc_int64_int64_q4105_l0 : X_slices_IndexFunc_int64_int64_q4105_l0 → List (Nat × Entry)
  | (_, _, y2, y3, y4, y5, y6, y7) => [(0, (.box 79 [(.val (.int IntKind.i64 y2)), (.val (.int IntKind.i64 y3)), (.val (.int IntKind.i64 y4)), (.ref 2), (.ref 3)])), (1, (.row true 26 (CTy.sl (2 : Nat) (CTy.int IntKind.i64)) y5)), (2, (.row false 31 (CTy.pair (CTy.int IntKind.i64) (CTy.pair CTy.str (CTy.int IntKind.i64))) y6)), (3, (.row false 144 (CTy.pair (CTy.int IntKind.i64) (CTy.int IntKind.i64)) y7))]

def XL_slices_IndexFunc_int64_int64_q4105_l0 : Nat → X_slices_IndexFunc_int64_int64_q4105_l0 → List (Nat × SV)
  | 0, (y0, _, _, _, _, _, _, _) => [(4, (.one ⟨false, [(.val (.int IntKind.i64 y0))]⟩))]
  | _, (_, _, _, _, _, _, _, _) => []

def XE_slices_IndexFunc_int64_int64_q4105_l0 : Nat → X_slices_IndexFunc_int64_int64_q4105_l0 → List (Nat × Entry)
  | 0, (_, _, y2, y3, y4, y5, y6, y7) => [(0, (.box 79 [(.val (.int IntKind.i64 y2)), (.val (.int IntKind.i64 y3)), (.val (.int IntKind.i64 y4)), (.ref 2), (.ref 3)])), (1, (.row true 26 (CTy.sl (2 : Nat) (CTy.int IntKind.i64)) y5)), (2, (.row false 31 (CTy.pair (CTy.int IntKind.i64) (CTy.pair CTy.str (CTy.int IntKind.i64))) y6)), (3, (.row false 144 (CTy.pair (CTy.int IntKind.i64) (CTy.int IntKind.i64)) y7))]
  | _, (_, _, y2, y3, y4, y5, y6, y7) => [(0, (.box 79 [(.val (.int IntKind.i64 y2)), (.val (.int IntKind.i64 y3)), (.val (.int IntKind.i64 y4)), (.ref 2), (.ref 3)])), (1, (.row true 26 (CTy.sl (2 : Nat) (CTy.int IntKind.i64)) y5)), (2, (.row false 31 (CTy.pair (CTy.int IntKind.i64) (CTy.pair CTy.str (CTy.int IntKind.i64))) y6)), (3, (.row false 144 (CTy.pair (CTy.int IntKind.i64) (CTy.int IntKind.i64)) y7))]

def lt_slices_IndexFunc_int64_int64_q4105_l0 : X_slices_IndexFunc_int64_int64_q4105_l0 → LT X_slices_IndexFunc_int64_int64_q4105_l0
  | (y0, y1, y2, y3, y4, y5, y6, y7) => .ite (slices_IndexFunc_int64_int64_q4105_l0_0 y0 y1) (.need [(slices_IndexFunc_int64_int64_q4105_l0_1 y0), (slices_IndexFunc_int64_int64_q4105_l0_2 y0 y5), (slices_IndexFunc_int64_int64_q4105_l0_3 y0 y5), (slices_IndexFunc_int64_int64_q4105_l0_4 y0 y5)] (.ite (slices_IndexFunc_int64_int64_q4105_l0_5 y0 y2 y5) (.ext 0 [(0, 0), (1, 1), (2, 2), (3, 3)]) (.nrm ((slices_IndexFunc_int64_int64_q4105_l0_6 y0), y1, y2, y3, y4, y5, y6, y7) [(0, 0), (1, 1), (2, 2), (3, 3)]))) (.ext 1 [(0, 0), (1, 1), (2, 2), (3, 3)])

def rd_slices_IndexFunc_int64_int64_q4105_l0 (s : St) : Option X_slices_IndexFunc_int64_int64_q4105_l0 :=
  (match s.look 8 with
  | some ⟨none, (.one ⟨false, [(.val (.int IntKind.i64 y0))]⟩)⟩ =>
  (match s.look 7 with
  | some ⟨none, (.one ⟨false, [(.val (.int IntKind.i64 y1))]⟩)⟩ =>
  (match s.look 1 with
  | some ⟨none, (.one ⟨false, [(.clo 120 [1])]⟩)⟩ =>
  (match s.look 0 with
  | some ⟨none, (.one ⟨false, [(.ref 0)]⟩)⟩ =>
  (match s.ent 1 with
  | some (.box 79 [(.val (.int IntKind.i64 y2)), (.val (.int IntKind.i64 y3)), (.val (.int IntKind.i64 y4)), (.ref 2), (.ref 3)]) =>
  (match s.ent 0 with
  | some (.row true 26 (CTy.sl (2 : Nat) (CTy.int IntKind.i64)) y5) =>
  (match s.ent 2 with
  | some (.row false 31 (CTy.pair (CTy.int IntKind.i64) (CTy.pair CTy.str (CTy.int IntKind.i64))) y6) =>
  (match s.ent 3 with
  | some (.row false 144 (CTy.pair (CTy.int IntKind.i64) (CTy.int IntKind.i64)) y7) =>
  some (y0, y1, y2, y3, y4, y5, y6, y7)
  | _ => none)
  | _ => none)
  | _ => none)
  | _ => none)
  | _ => none)
  | _ => none)
  | _ => none)
  | _ => none)

def lp_slices_IndexFunc_int64_int64_q4105_l0 : Lp X_slices_IndexFunc_int64_int64_q4105_l0 where
  h := ⟨[9, 10, 5, 11, 12, 13, 14, 15, 16, 17, 4, 18, 8], [0, 1, 2, 3], [], []⟩
  JL := JL_slices_IndexFunc_int64_int64_q4105_l0
  JE := JE_slices_IndexFunc_int64_int64_q4105_l0
  XL := XL_slices_IndexFunc_int64_int64_q4105_l0
  XE := XE_slices_IndexFunc_int64_int64_q4105_l0
  q := fun j => match j with | 0 => .ret | _ => .exit 0
  tags := [0, 1]
  lt := lt_slices_IndexFunc_int64_int64_q4105_l0
  fuel := fun (y0, y1, y2, y3, y4, y5, y6, y7) => y0.natAbs + y1.natAbs + y2.natAbs + y3.natAbs + y4.natAbs + y5.length + y6.length + y7.length
  fix := fun (_, y1, y2, y3, y4, y5, y6, y7) (y0, _, _, _, _, _, _, _) => (y0, y1, y2, y3, y4, y5, y6, y7)
  σ := [(0, 1), (1, 0), (2, 2), (3, 3)]
  rd := rd_slices_IndexFunc_int64_int64_q4105_l0

theorem lpok_slices_IndexFunc_int64_int64_q4105_l0 : LoopOk Tryd.prog (fun k => Nat.blt k Tryd.f125.ntmps) lp_slices_IndexFunc_int64_int64_q4105_l0.F (loopAt Tryd.f125 0) := by
  refine Lp.ok (tbl := [p_impl_memoryCode_1_q4102, PF.lend p_impl_memoryCode_1_q4102, PF.fz p_impl_memoryCode_1_q4102]) (lf := []) hmix lp_slices_IndexFunc_int64_int64_q4105_l0 (by kernel_rfl) (LOk.nil _) (fun _ => rfl) (fun j _ => by unfold lp_slices_IndexFunc_int64_int64_q4105_l0; match j with | 0 => rfl | _ + 1 => rfl) ?_ ?_ ?_ ?_ (fun _ => rfl) ?_
  · intro x; obtain ⟨y0, y1, y2, y3, y4, y5, y6, y7⟩ := x; kernel_rfl
  · intro x; obtain ⟨y0, y1, y2, y3, y4, y5, y6, y7⟩ := x; kernel_rfl
  · intro s x h
    have h : rd_slices_IndexFunc_int64_int64_q4105_l0 s = some x := h
    unfold rd_slices_IndexFunc_int64_int64_q4105_l0 at h
    repeat' split at h
    all_goals cases h
    exact ⟨absS_cons (by assumption) rfl (absS_cons (by assumption) rfl (absS_cons (by assumption) rfl (absS_cons (by assumption) rfl (rfl)))), absE_cons rfl (by assumption) rfl (absE_cons rfl (by assumption) rfl (absE_cons rfl (by assumption) rfl (absE_cons rfl (by assumption) rfl (rfl))))⟩
  · intro x; obtain ⟨y0, y1, y2, y3, y4, y5, y6, y7⟩ := x; kernel_rfl
  · intro x z; obtain ⟨y0, y1, y2, y3, y4, y5, y6, y7⟩ := x; exact (And.intro (And.intro trivial rfl) trivial)

def slices_IndexFunc_int64_int64_q4105_a0 (x0 : List (List Int)) (x1 : Int) (x2 : Int) (x3 : Int) (x4 : List (Int × ByteArray × Int)) (x5 : List (Int × Int)) : Int × Int × Int × Int × Int × List (List Int) × List (Int × ByteArray × Int) × List (Int × Int) :=
  ((0 : Int), (↑(List.length x0) : Int), x1, x2, x3, x0, x4, x5)

def slices_IndexFunc_int64_int64_q4105_a1 (x0 : List (List Int)) (x1 : Int) (x2 : Int) (x3 : Int) (x4 : List (Int × ByteArray × Int)) (x5 : List (Int × Int)) : Bool :=
  Nat.beq (Prod.fst (Lp.res lp_slices_IndexFunc_int64_int64_q4105_l0 (slices_IndexFunc_int64_int64_q4105_a0 x0 x1 x2 x3 x4 x5))) (0 : Nat)

def slices_IndexFunc_int64_int64_q4105_0 (x0 : List (List Int)) (x1 : Int) (x2 : Int) (x3 : Int) (x4 : List (Int × ByteArray × Int)) (x5 : List (Int × Int)) : Int :=
  bif slices_IndexFunc_int64_int64_q4105_a1 x0 x1 x2 x3 x4 x5 then
  Prod.fst (Prod.snd (Lp.res lp_slices_IndexFunc_int64_int64_q4105_l0 (slices_IndexFunc_int64_int64_q4105_a0 x0 x1 x2 x3 x4 x5)))
  else (-1 : Int)

def slices_IndexFunc_int64_int64_q4105_1 (x0 : List (List Int)) (x1 : Int) (x2 : Int) (x3 : Int) (x4 : List (Int × ByteArray × Int)) (x5 : List (Int × Int)) : List (List Int) :=
  bif slices_IndexFunc_int64_int64_q4105_a1 x0 x1 x2 x3 x4 x5 then x0 else x0

def slices_IndexFunc_int64_int64_q4105_2 (x0 : List (List Int)) (x1 : Int) (x2 : Int) (x3 : Int) (x4 : List (Int × ByteArray × Int)) (x5 : List (Int × Int)) : Int :=
  bif slices_IndexFunc_int64_int64_q4105_a1 x0 x1 x2 x3 x4 x5 then x1 else x1

def slices_IndexFunc_int64_int64_q4105_3 (x0 : List (List Int)) (x1 : Int) (x2 : Int) (x3 : Int) (x4 : List (Int × ByteArray × Int)) (x5 : List (Int × Int)) : Int :=
  bif slices_IndexFunc_int64_int64_q4105_a1 x0 x1 x2 x3 x4 x5 then x2 else x2

def slices_IndexFunc_int64_int64_q4105_4 (x0 : List (List Int)) (x1 : Int) (x2 : Int) (x3 : Int) (x4 : List (Int × ByteArray × Int)) (x5 : List (Int × Int)) : Int :=
  bif slices_IndexFunc_int64_int64_q4105_a1 x0 x1 x2 x3 x4 x5 then x3 else x3

def slices_IndexFunc_int64_int64_q4105_5 (x0 : List (List Int)) (x1 : Int) (x2 : Int) (x3 : Int) (x4 : List (Int × ByteArray × Int)) (x5 : List (Int × Int)) : Bool :=
  allT [Lp.fin lp_slices_IndexFunc_int64_int64_q4105_l0 (slices_IndexFunc_int64_int64_q4105_a0 x0 x1 x2 x3 x4 x5)]

def F_slices_IndexFunc_int64_int64_q4105 : List SV → List Entry → Option Out
  | [(.one ⟨false, [(.ref 0)]⟩), (.one ⟨false, [(.clo 120 [1])]⟩)], [(.row true 26 (CTy.sl (2 : Nat) (CTy.int IntKind.i64)) x0), (.box 79 [(.val (.int IntKind.i64 x1)), (.val (.int IntKind.i64 x2)), (.val (.int IntKind.i64 x3)), (.ref 2), (.ref 3)]), (.row false 31 (CTy.pair (CTy.int IntKind.i64) (CTy.pair CTy.str (CTy.int IntKind.i64))) x4), (.row false 144 (CTy.pair (CTy.int IntKind.i64) (CTy.int IntKind.i64)) x5)] => some ⟨(.one ⟨false, [(.val (.int IntKind.i64 (slices_IndexFunc_int64_int64_q4105_0 x0 x1 x2 x3 x4 x5)))]⟩), [(.row true 26 (CTy.sl (2 : Nat) (CTy.int IntKind.i64)) (slices_IndexFunc_int64_int64_q4105_1 x0 x1 x2 x3 x4 x5)), (.box 79 [(.val (.int IntKind.i64 (slices_IndexFunc_int64_int64_q4105_2 x0 x1 x2 x3 x4 x5))), (.val (.int IntKind.i64 (slices_IndexFunc_int64_int64_q4105_3 x0 x1 x2 x3 x4 x5))), (.val (.int IntKind.i64 (slices_IndexFunc_int64_int64_q4105_4 x0 x1 x2 x3 x4 x5))), (.ref 2), (.ref 3)]), (.row false 31 (CTy.pair (CTy.int IntKind.i64) (CTy.pair CTy.str (CTy.int IntKind.i64))) x4), (.row false 144 (CTy.pair (CTy.int IntKind.i64) (CTy.int IntKind.i64)) x5)], [], [(slices_IndexFunc_int64_int64_q4105_5 x0 x1 x2 x3 x4 x5)]⟩
  | _, _ => none

def p_slices_IndexFunc_int64_int64_q4105 : PF Tryd.prog := PF.ofG Tryd.prog [p_impl_memoryCode_1_q4102, PF.lend p_impl_memoryCode_1_q4102, PF.fz p_impl_memoryCode_1_q4102] [lp_slices_IndexFunc_int64_int64_q4105_l0.F] hmix 125 Tryd.f125 Tryd.func125 (LOk.fnT (l := [loopAt Tryd.f125 0]) (by kernel_rfl) (.cons lpok_slices_IndexFunc_int64_int64_q4105_l0 (.nil _))) F_slices_IndexFunc_int64_int64_q4105 (by
  intro vs es r h; unfold F_slices_IndexFunc_int64_int64_q4105 at h; split at h
  · cases h; kernel_rfl
  · cases h)

def slices_ContainsFunc_int64_int64_q4104_0 (x0 : List (List Int)) (x1 : Int) (x2 : Int) (x3 : Int) (x4 : List (Int × ByteArray × Int)) (x5 : List (Int × Int)) : Bool :=
  leI (0 : Int) (slices_IndexFunc_int64_int64_q4105_0 x0 x1 x2 x3 x4 x5)

def slices_ContainsFunc_int64_int64_q4104_1 (x0 : List (List Int)) (x1 : Int) (x2 : Int) (x3 : Int) (x4 : List (Int × ByteArray × Int)) (x5 : List (Int × Int)) : List (List Int) :=
  slices_IndexFunc_int64_int64_q4105_1 x0 x1 x2 x3 x4 x5

def slices_ContainsFunc_int64_int64_q4104_2 (x0 : List (List Int)) (x1 : Int) (x2 : Int) (x3 : Int) (x4 : List (Int × ByteArray × Int)) (x5 : List (Int × Int)) : Int :=
  slices_IndexFunc_int64_int64_q4105_2 x0 x1 x2 x3 x4 x5

def slices_ContainsFunc_int64_int64_q4104_3 (x0 : List (List Int)) (x1 : Int) (x2 : Int) (x3 : Int) (x4 : List (Int × ByteArray × Int)) (x5 : List (Int × Int)) : Int :=
  slices_IndexFunc_int64_int64_q4105_3 x0 x1 x2 x3 x4 x5

def slices_ContainsFunc_int64_int64_q4104_4 (x0 : List (List Int)) (x1 : Int) (x2 : Int) (x3 : Int) (x4 : List (Int × ByteArray × Int)) (x5 : List (Int × Int)) : Int :=
  slices_IndexFunc_int64_int64_q4105_4 x0 x1 x2 x3 x4 x5

def slices_ContainsFunc_int64_int64_q4104_5 (x0 : List (List Int)) (x1 : Int) (x2 : Int) (x3 : Int) (x4 : List (Int × ByteArray × Int)) (x5 : List (Int × Int)) : Bool :=
  allT [slices_IndexFunc_int64_int64_q4105_5 x0 x1 x2 x3 x4 x5]

def F_slices_ContainsFunc_int64_int64_q4104 : List SV → List Entry → Option Out
  | [(.one ⟨false, [(.ref 0)]⟩), (.one ⟨false, [(.clo 120 [1])]⟩)], [(.row true 26 (CTy.sl (2 : Nat) (CTy.int IntKind.i64)) x0), (.box 79 [(.val (.int IntKind.i64 x1)), (.val (.int IntKind.i64 x2)), (.val (.int IntKind.i64 x3)), (.ref 2), (.ref 3)]), (.row false 31 (CTy.pair (CTy.int IntKind.i64) (CTy.pair CTy.str (CTy.int IntKind.i64))) x4), (.row false 144 (CTy.pair (CTy.int IntKind.i64) (CTy.int IntKind.i64)) x5)] => some ⟨(.one ⟨false, [(.val (.bool (slices_ContainsFunc_int64_int64_q4104_0 x0 x1 x2 x3 x4 x5)))]⟩), [(.row true 26 (CTy.sl (2 : Nat) (CTy.int IntKind.i64)) (slices_ContainsFunc_int64_int64_q4104_1 x0 x1 x2 x3 x4 x5)), (.box 79 [(.val (.int IntKind.i64 (slices_ContainsFunc_int64_int64_q4104_2 x0 x1 x2 x3 x4 x5))), (.val (.int IntKind.i64 (slices_ContainsFunc_int64_int64_q4104_3 x0 x1 x2 x3 x4 x5))), (.val (.int IntKind.i64 (slices_ContainsFunc_int64_int64_q4104_4 x0 x1 x2 x3 x4 x5))), (.ref 2), (.ref 3)]), (.row false 31 (CTy.pair (CTy.int IntKind.i64) (CTy.pair CTy.str (CTy.int IntKind.i64))) x4), (.row false 144 (CTy.pair (CTy.int IntKind.i64) (CTy.int IntKind.i64)) x5)], [], [(slices_ContainsFunc_int64_int64_q4104_5 x0 x1 x2 x3 x4 x5)]⟩
  | _, _ => none

def p_slices_ContainsFunc_int64_int64_q4104 : PF Tryd.prog := PF.ofG Tryd.prog [p_slices_IndexFunc_int64_int64_q4105, PF.lend p_slices_IndexFunc_int64_int64_q4105, PF.fz p_slices_IndexFunc_int64_int64_q4105] [] hmix 100 Tryd.f100 Tryd.func100 (fun c _ => LOk.nil c) F_slices_ContainsFunc_int64_int64_q4104 (by
  intro vs es r h; unfold F_slices_ContainsFunc_int64_int64_q4104 at h; split at h
  · cases h; kernel_rfl
  · cases h)

def impl_memoryCode_q4103_a0 (x1 : Int) (x3 : List (Int × ByteArray × Int)) (x5 : List Int) (x6 : List (Int × Int × Int)) : List (List Int) :=
  bif !!suitB x1 x3 x5 x6 && true then [] else []

def impl_memoryCode_q4103_0 (x0 : Int) (x1 : Int) (x2 : Int) (x3 : List (Int × ByteArray × Int)) (x4 : List (Int × Int)) (x5 : List Int) (x6 : List (Int × Int × Int)) : Int :=
  bif !codeB x0 x1 x2 x3 x4 then (1 : Int)
  else
  bif bif !suitB x1 x3 x5 x6 then true else slices_ContainsFunc_int64_int64_q4104_0 (impl_memoryCode_q4103_a0 x1 x3 x5 x6) x0 x1 x2 x3 x4 then
    (2 : Int)
  else (0 : Int)

def impl_memoryCode_q4103_1 (x0 : Int) (x1 : Int) (x2 : Int) (x3 : List (Int × ByteArray × Int)) (x4 : List (Int × Int)) (x5 : List Int) (x6 : List (Int × Int × Int)) : Bool :=
  allT
  [!codeB x0 x1 x2 x3 x4 || leN (List.length x5) (9223372036854775807 : Nat) && (leN (List.length x3) (9223372036854775807 : Nat) && blksB x3),
    !codeB x0 x1 x2 x3 x4 ||
      (!(!!suitB x1 x3 x5 x6 && true) || slices_ContainsFunc_int64_int64_q4104_5 (impl_memoryCode_q4103_a0 x1 x3 x5 x6) x0 x1 x2 x3 x4)]

def F_impl_memoryCode_q4103 : List SV → List Entry → Option Out
  | [(.one ⟨true, [(.val (.int IntKind.i64 x0)), (.val (.int IntKind.i64 x1)), (.val (.int IntKind.i64 x2)), (.ref 0), (.ref 1)]⟩), (.one ⟨true, [(.ref 2), (.ref 3)]⟩), (.one ⟨false, [(.val (.slice none 0 0))]⟩)], [(.row false 31 (CTy.pair (CTy.int IntKind.i64) (CTy.pair CTy.str (CTy.int IntKind.i64))) x3), (.row false 144 (CTy.pair (CTy.int IntKind.i64) (CTy.int IntKind.i64)) x4), (.row false 2 (CTy.int IntKind.i64) x5), (.row false 28 (CTy.pair (CTy.int IntKind.i64) (CTy.pair (CTy.int IntKind.i64) (CTy.int IntKind.i64))) x6)] => some ⟨(.one ⟨false, [(.val (.int IntKind.i64 (impl_memoryCode_q4103_0 x0 x1 x2 x3 x4 x5 x6)))]⟩), [(.row false 31 (CTy.pair (CTy.int IntKind.i64) (CTy.pair CTy.str (CTy.int IntKind.i64))) x3), (.row false 144 (CTy.pair (CTy.int IntKind.i64) (CTy.int IntKind.i64)) x4), (.row false 2 (CTy.int IntKind.i64) x5), (.row false 28 (CTy.pair (CTy.int IntKind.i64) (CTy.pair (CTy.int IntKind.i64) (CTy.int IntKind.i64))) x6)], [], [(impl_memoryCode_q4103_1 x0 x1 x2 x3 x4 x5 x6)]⟩
  | _, _ => none

def p_impl_memoryCode_q4103 : PF Tryd.prog := PF.ofG Tryd.prog [n_impl_IsCode, PF.lend n_impl_IsCode, PF.fz n_impl_IsCode, n_loop_example_g00916_impl_Memory_suits, PF.lend n_loop_example_g00916_impl_Memory_suits, PF.fz n_loop_example_g00916_impl_Memory_suits, p_slices_ContainsFunc_int64_int64_q4104, PF.lend p_slices_ContainsFunc_int64_int64_q4104, PF.fz p_slices_ContainsFunc_int64_int64_q4104] [] hmix 89 Tryd.f89 Tryd.func89 (fun c _ => LOk.nil c) F_impl_memoryCode_q4103 (by
  intro vs es r h; unfold F_impl_memoryCode_q4103 at h; split at h
  · cases h; kernel_rfl
  · cases h)

def impl_StartMachine_a0 (x0 : Int) (x1 : Int) (x2 : Int) (x3 : List (Int × ByteArray × Int)) (x4 : List (Int × Int)) (x5 : List Int) (x6 : List (Int × Int × Int)) : Bool :=
  impl_memoryCode_q4103_0 x0 x1 x2 x3 x4 x5 x6 != (0 : Int)

def impl_StartMachine_0 (x0 : Int) (x1 : Int) (x2 : Int) (x3 : List (Int × ByteArray × Int)) (x4 : List (Int × Int)) (x5 : List Int) (x6 : List (Int × Int × Int)) : Int :=
  bif impl_StartMachine_a0 x0 x1 x2 x3 x4 x5 x6 then (0 : Int) else (0 : Int)

def impl_StartMachine_1 (x0 : Int) (x1 : Int) (x2 : Int) (x3 : List (Int × ByteArray × Int)) (x4 : List (Int × Int)) (x5 : List Int) (x6 : List (Int × Int × Int)) : Int :=
  bif impl_StartMachine_a0 x0 x1 x2 x3 x4 x5 x6 then impl_memoryCode_q4103_0 x0 x1 x2 x3 x4 x5 x6 else (0 : Int)

def impl_StartMachine_2 (x0 : Int) (x1 : Int) (x2 : Int) (x3 : List (Int × ByteArray × Int)) (x4 : List (Int × Int)) (x5 : List Int) (x6 : List (Int × Int × Int)) : List Int :=
  bif impl_StartMachine_a0 x0 x1 x2 x3 x4 x5 x6 then [] else impl_start_0

def impl_StartMachine_3 (x0 : Int) (x1 : Int) (x2 : Int) (x3 : List (Int × ByteArray × Int)) (x4 : List (Int × Int)) (x5 : List Int) (x6 : List (Int × Int × Int)) : List Int :=
  bif impl_StartMachine_a0 x0 x1 x2 x3 x4 x5 x6 then [] else x5

def impl_StartMachine_4 (x0 : Int) (x1 : Int) (x2 : Int) (x3 : List (Int × ByteArray × Int)) (x4 : List (Int × Int)) (x5 : List Int) (x6 : List (Int × Int × Int)) : List Int :=
  bif impl_StartMachine_a0 x0 x1 x2 x3 x4 x5 x6 then [] else impl_start_1 x2

def impl_StartMachine_5 (x0 : Int) (x1 : Int) (x2 : Int) (x3 : List (Int × ByteArray × Int)) (x4 : List (Int × Int)) (x5 : List Int) (x6 : List (Int × Int × Int)) : List (Int × (Int × Int)) :=
  bif impl_StartMachine_a0 x0 x1 x2 x3 x4 x5 x6 then [] else x6

def impl_StartMachine_6 (x0 : Int) (x1 : Int) (x2 : Int) (x3 : List (Int × ByteArray × Int)) (x4 : List (Int × Int)) (x5 : List Int) (x6 : List (Int × Int × Int)) : Bool :=
  allT [impl_memoryCode_q4103_1 x0 x1 x2 x3 x4 x5 x6, impl_StartMachine_a0 x0 x1 x2 x3 x4 x5 x6 || impl_start_2 x2 x5 x6]

def F_impl_StartMachine : List SV → List Entry → Option Out
  | [.one ⟨true, [.val (.int .i64 x0), .val (.int .i64 x1), .val (.int .i64 x2), .ref 0, .ref 1]⟩, .one ⟨true, [.ref 2, .ref 3]⟩], [.row false 31 (.pair (.int .i64) (.pair (.str) (.int .i64))) x3, .row false 144 (.pair (.int .i64) (.int .i64)) x4, .row false 2 (.int .i64) x5, .row false 28 (.pair (.int .i64) (.pair (.int .i64) (.int .i64))) x6] => some ⟨(.tup [⟨true, [(.val (.int IntKind.i64 (impl_StartMachine_0 x0 x1 x2 x3 x4 x5 x6))), (.ref 4), (.ref 5), (.ref 6), (.ref 7)]⟩, ⟨false, [(.val (.int IntKind.i64 (impl_StartMachine_1 x0 x1 x2 x3 x4 x5 x6)))]⟩]), [(.row false 31 (CTy.pair (CTy.int IntKind.i64) (CTy.pair CTy.str (CTy.int IntKind.i64))) x3), (.row false 144 (CTy.pair (CTy.int IntKind.i64) (CTy.int IntKind.i64)) x4), (.row false 2 (CTy.int IntKind.i64) x5), (.row false 28 (CTy.pair (CTy.int IntKind.i64) (CTy.pair (CTy.int IntKind.i64) (CTy.int IntKind.i64))) x6)], [(.row true 2 (CTy.int IntKind.i64) (impl_StartMachine_2 x0 x1 x2 x3 x4 x5 x6)), (.row true 2 (CTy.int IntKind.i64) (impl_StartMachine_3 x0 x1 x2 x3 x4 x5 x6)), (.row true 2 (CTy.int IntKind.i64) (impl_StartMachine_4 x0 x1 x2 x3 x4 x5 x6)), (.row true 28 (CTy.pair (CTy.int IntKind.i64) (CTy.pair (CTy.int IntKind.i64) (CTy.int IntKind.i64))) (impl_StartMachine_5 x0 x1 x2 x3 x4 x5 x6))], [(impl_StartMachine_6 x0 x1 x2 x3 x4 x5 x6)]⟩
  | _, _ => none

def p_impl_StartMachine : PF Tryd.prog := PF.ofG Tryd.prog [p_impl_memoryCode, PF.lend p_impl_memoryCode, PF.fz p_impl_memoryCode, p_impl_start, PF.lend p_impl_start, PF.fz p_impl_start, p_impl_memoryCode_q4103, PF.lend p_impl_memoryCode_q4103, PF.fz p_impl_memoryCode_q4103] [] hmix 47 Tryd.f47 Tryd.func47 (fun c _ => LOk.nil c) F_impl_StartMachine (by
  intro vs es r h; unfold F_impl_StartMachine at h; split at h
  · cases h; kernel_rfl
  · cases h)

def laws_eqMachine_0 (x0 : Int) (x1 : Int) (x2 : List Int) (x3 : List Int) (x4 : List Int) (x5 : List (Int × Int × Int)) (x6 : List Int) (x7 : List Int) (x8 : List Int) (x9 : List (Int × Int × Int)) : Bool :=
  bif x0 != x1 then false
  else bif !eqL x2 x6 then false else bif !eqL x3 x7 then false else bif !eqL x4 x8 then false else bif !eqBs x5 x9 then false else true

def laws_eqMachine_1 (x0 : Int) (x1 : Int) (x2 : List Int) (x3 : List Int) (x4 : List Int) (x5 : List (Int × Int × Int)) (x6 : List Int) (x7 : List Int) (x8 : List Int) : Bool :=
  allT
  [x0 != x1 || leN (List.length x2) (9223372036854775807 : Nat), x0 != x1 || (!eqL x2 x6 || leN (List.length x3) (9223372036854775807 : Nat)),
    x0 != x1 || (!eqL x2 x6 || (!eqL x3 x7 || leN (List.length x4) (9223372036854775807 : Nat))),
    x0 != x1 || (!eqL x2 x6 || (!eqL x3 x7 || (!eqL x4 x8 || leN (List.length x5) (9223372036854775807 : Nat))))]

def F_laws_eqMachine : List SV → List Entry → Option Out
  | [.one ⟨true, [.val (.int .i64 x0), .ref 0, .ref 1, .ref 2, .ref 3]⟩, .one ⟨true, [.val (.int .i64 x1), .ref 4, .ref 5, .ref 6, .ref 7]⟩], [.row false 2 (.int .i64) x2, .row false 2 (.int .i64) x3, .row false 2 (.int .i64) x4, .row false 28 (.pair (.int .i64) (.pair (.int .i64) (.int .i64))) x5, .row false 2 (.int .i64) x6, .row false 2 (.int .i64) x7, .row false 2 (.int .i64) x8, .row false 28 (.pair (.int .i64) (.pair (.int .i64) (.int .i64))) x9] => some ⟨(.one ⟨false, [(.val (.bool (laws_eqMachine_0 x0 x1 x2 x3 x4 x5 x6 x7 x8 x9)))]⟩), [(.row false 2 (CTy.int IntKind.i64) x2), (.row false 2 (CTy.int IntKind.i64) x3), (.row false 2 (CTy.int IntKind.i64) x4), (.row false 28 (CTy.pair (CTy.int IntKind.i64) (CTy.pair (CTy.int IntKind.i64) (CTy.int IntKind.i64))) x5), (.row false 2 (CTy.int IntKind.i64) x6), (.row false 2 (CTy.int IntKind.i64) x7), (.row false 2 (CTy.int IntKind.i64) x8), (.row false 28 (CTy.pair (CTy.int IntKind.i64) (CTy.pair (CTy.int IntKind.i64) (CTy.int IntKind.i64))) x9)], [], [(laws_eqMachine_1 x0 x1 x2 x3 x4 x5 x6 x7 x8)]⟩
  | _, _ => none

def p_laws_eqMachine : PF Tryd.prog := PF.ofG Tryd.prog [n_laws_eqInt64S, PF.lend n_laws_eqInt64S, PF.fz n_laws_eqInt64S, n_laws_eqBlockStateS, PF.lend n_laws_eqBlockStateS, PF.fz n_laws_eqBlockStateS] [] hmix 48 Tryd.f48 Tryd.func48 (fun c _ => LOk.nil c) F_laws_eqMachine (by
  intro vs es r h; unfold F_laws_eqMachine at h; split at h
  · cases h; kernel_rfl
  · cases h)

def laws_eqCode_0 (x0 : Int) (x1 : Int) (x2 : Int) (x3 : Int) (x4 : Int) (x5 : Int) (x6 : List (Int × ByteArray × Int)) (x7 : List (Int × Int)) (x8 : List (Int × ByteArray × Int)) (x9 : List (Int × Int)) : Bool :=
  bif x0 != x3 then false
  else bif x1 != x4 then false else bif x2 != x5 then false else bif !eqTs x6 x8 then false else bif !eqIs x7 x9 then false else true

def laws_eqCode_1 (x0 : Int) (x1 : Int) (x2 : Int) (x3 : Int) (x4 : Int) (x5 : Int) (x6 : List (Int × ByteArray × Int)) (x7 : List (Int × Int)) (x8 : List (Int × ByteArray × Int)) : Bool :=
  allT
  [x0 != x3 || (x1 != x4 || (x2 != x5 || leN (List.length x6) (9223372036854775807 : Nat))),
    x0 != x3 || (x1 != x4 || (x2 != x5 || (!eqTs x6 x8 || leN (List.length x7) (9223372036854775807 : Nat))))]

def F_laws_eqCode : List SV → List Entry → Option Out
  | [.one ⟨true, [.val (.int .i64 x0), .val (.int .i64 x1), .val (.int .i64 x2), .ref 0, .ref 1]⟩, .one ⟨true, [.val (.int .i64 x3), .val (.int .i64 x4), .val (.int .i64 x5), .ref 2, .ref 3]⟩], [.row false 31 (.pair (.int .i64) (.pair (.str) (.int .i64))) x6, .row false 144 (.pair (.int .i64) (.int .i64)) x7, .row false 31 (.pair (.int .i64) (.pair (.str) (.int .i64))) x8, .row false 144 (.pair (.int .i64) (.int .i64)) x9] => some ⟨(.one ⟨false, [(.val (.bool (laws_eqCode_0 x0 x1 x2 x3 x4 x5 x6 x7 x8 x9)))]⟩), [(.row false 31 (CTy.pair (CTy.int IntKind.i64) (CTy.pair CTy.str (CTy.int IntKind.i64))) x6), (.row false 144 (CTy.pair (CTy.int IntKind.i64) (CTy.int IntKind.i64)) x7), (.row false 31 (CTy.pair (CTy.int IntKind.i64) (CTy.pair CTy.str (CTy.int IntKind.i64))) x8), (.row false 144 (CTy.pair (CTy.int IntKind.i64) (CTy.int IntKind.i64)) x9)], [], [(laws_eqCode_1 x0 x1 x2 x3 x4 x5 x6 x7 x8)]⟩
  | _, _ => none

def p_laws_eqCode : PF Tryd.prog := PF.ofG Tryd.prog [n_laws_eqTermS, PF.lend n_laws_eqTermS, PF.fz n_laws_eqTermS, n_laws_eqInstructionS, PF.lend n_laws_eqInstructionS, PF.fz n_laws_eqInstructionS] [] hmix 49 Tryd.f49 Tryd.func49 (fun c _ => LOk.nil c) F_laws_eqCode (by
  intro vs es r h; unfold F_laws_eqCode at h; split at h
  · cases h; kernel_rfl
  · cases h)

def laws_eqMemory_0 (x0 : List Int) (x1 : List (Int × Int × Int)) (x2 : List Int) (x3 : List (Int × Int × Int)) : Bool :=
  bif !eqL x0 x2 then false else bif !eqBs x1 x3 then false else true

def laws_eqMemory_1 (x0 : List Int) (x1 : List (Int × Int × Int)) (x2 : List Int) : Bool :=
  allT [leN (List.length x0) (9223372036854775807 : Nat), !eqL x0 x2 || leN (List.length x1) (9223372036854775807 : Nat)]

def F_laws_eqMemory : List SV → List Entry → Option Out
  | [.one ⟨true, [.ref 0, .ref 1]⟩, .one ⟨true, [.ref 2, .ref 3]⟩], [.row false 2 (.int .i64) x0, .row false 28 (.pair (.int .i64) (.pair (.int .i64) (.int .i64))) x1, .row false 2 (.int .i64) x2, .row false 28 (.pair (.int .i64) (.pair (.int .i64) (.int .i64))) x3] => some ⟨(.one ⟨false, [(.val (.bool (laws_eqMemory_0 x0 x1 x2 x3)))]⟩), [(.row false 2 (CTy.int IntKind.i64) x0), (.row false 28 (CTy.pair (CTy.int IntKind.i64) (CTy.pair (CTy.int IntKind.i64) (CTy.int IntKind.i64))) x1), (.row false 2 (CTy.int IntKind.i64) x2), (.row false 28 (CTy.pair (CTy.int IntKind.i64) (CTy.pair (CTy.int IntKind.i64) (CTy.int IntKind.i64))) x3)], [], [(laws_eqMemory_1 x0 x1 x2)]⟩
  | _, _ => none

def p_laws_eqMemory : PF Tryd.prog := PF.ofG Tryd.prog [n_laws_eqInt64S, PF.lend n_laws_eqInt64S, PF.fz n_laws_eqInt64S, n_laws_eqBlockStateS, PF.lend n_laws_eqBlockStateS, PF.fz n_laws_eqBlockStateS] [] hmix 50 Tryd.f50 Tryd.func50 (fun c _ => LOk.nil c) F_laws_eqMemory (by
  intro vs es r h; unfold F_laws_eqMemory at h; split at h
  · cases h; kernel_rfl
  · cases h)

def laws_markCode_a0 (x3 : Int) (x4 : List (Int × ByteArray × Int)) : Int :=
  x3 + (3 : Int) * (↑(List.length x4) : Int)

def laws_markCode_0 (x3 : Int) (x4 : List (Int × ByteArray × Int)) (x5 : List (Int × Int)) : Int :=
  laws_markCode_a0 x3 x4 + (2 : Int) * (↑(List.length x5) : Int)

def laws_markCode_1 (x3 : Int) (x4 : List (Int × ByteArray × Int)) : List (Int × (ByteArray × Int)) :=
  laws_markTermS_1 x3 x4

def laws_markCode_2 (x3 : Int) (x4 : List (Int × ByteArray × Int)) (x5 : List (Int × Int)) : List (Int × Int) :=
  laws_markInstructionS_1 (laws_markCode_a0 x3 x4) x5

def laws_markCode_3 (x3 : Int) (x4 : List (Int × ByteArray × Int)) (x5 : List (Int × Int)) : Bool :=
  allT
  [mkOk3 (3 : Nat) x3 (List.length x4) && leN (List.length x4) (9223372036854775807 : Nat),
    mkOk3 (2 : Nat) (laws_markCode_a0 x3 x4) (List.length x5) && leN (List.length x5) (9223372036854775807 : Nat)]

def F_laws_markCode : List SV → List Entry → Option Out
  | [.one ⟨true, [.val (.int .i64 _x0), .val (.int .i64 _x1), .val (.int .i64 _x2), .ref 0, .ref 1]⟩, .one ⟨false, [.val (.int .i64 x3)]⟩], [.row true 31 (.pair (.int .i64) (.pair (.str) (.int .i64))) x4, .row true 144 (.pair (.int .i64) (.int .i64)) x5] => some ⟨(.one ⟨false, [(.val (.int IntKind.i64 (laws_markCode_0 x3 x4 x5)))]⟩), [(.row true 31 (CTy.pair (CTy.int IntKind.i64) (CTy.pair CTy.str (CTy.int IntKind.i64))) (laws_markCode_1 x3 x4)), (.row true 144 (CTy.pair (CTy.int IntKind.i64) (CTy.int IntKind.i64)) (laws_markCode_2 x3 x4 x5))], [], [(laws_markCode_3 x3 x4 x5)]⟩
  | _, _ => none

def p_laws_markCode : PF Tryd.prog := PF.ofG Tryd.prog [n_laws_markTermS, PF.lend n_laws_markTermS, PF.fz n_laws_markTermS, n_laws_markInstructionS, PF.lend n_laws_markInstructionS, PF.fz n_laws_markInstructionS] [] hmix 51 Tryd.f51 Tryd.func51 (fun c _ => LOk.nil c) F_laws_markCode (by
  intro vs es r h; unfold F_laws_markCode at h; split at h
  · cases h; kernel_rfl
  · cases h)

def laws_markMemory_a0 (x0 : Int) (x1 : List Int) : Int :=
  x0 + (↑(List.length x1) : Int)

def laws_markMemory_0 (x0 : Int) (x1 : List Int) (x2 : List (Int × Int × Int)) : Int :=
  laws_markMemory_a0 x0 x1 + (3 : Int) * (↑(List.length x2) : Int)

def laws_markMemory_1 (x0 : Int) (x1 : List Int) : List Int :=
  upFrom x0 (List.length x1)

def laws_markMemory_2 (x0 : Int) (x1 : List Int) (x2 : List (Int × Int × Int)) : List (Int × (Int × Int)) :=
  upG (3 : Nat) mkB (laws_markMemory_a0 x0 x1) (List.length x2)

def laws_markMemory_3 (x0 : Int) (x1 : List Int) (x2 : List (Int × Int × Int)) : Bool :=
  allT [mkOk x0 (List.length x1), mkOk3 (3 : Nat) (laws_markMemory_a0 x0 x1) (List.length x2) && leN (List.length x2) (9223372036854775807 : Nat)]

def F_laws_markMemory : List SV → List Entry → Option Out
  | [.one ⟨true, [.ref 0, .ref 1]⟩, .one ⟨false, [.val (.int .i64 x0)]⟩], [.row true 2 (.int .i64) x1, .row true 28 (.pair (.int .i64) (.pair (.int .i64) (.int .i64))) x2] => some ⟨(.one ⟨false, [(.val (.int IntKind.i64 (laws_markMemory_0 x0 x1 x2)))]⟩), [(.row true 2 (CTy.int IntKind.i64) (laws_markMemory_1 x0 x1)), (.row true 28 (CTy.pair (CTy.int IntKind.i64) (CTy.pair (CTy.int IntKind.i64) (CTy.int IntKind.i64))) (laws_markMemory_2 x0 x1 x2))], [], [(laws_markMemory_3 x0 x1 x2)]⟩
  | _, _ => none

def p_laws_markMemory : PF Tryd.prog := PF.ofG Tryd.prog [n_laws_markInt64S, PF.lend n_laws_markInt64S, PF.fz n_laws_markInt64S, n_laws_markBlockStateS, PF.lend n_laws_markBlockStateS, PF.fz n_laws_markBlockStateS] [] hmix 52 Tryd.f52 Tryd.func52 (fun c _ => LOk.nil c) F_laws_markMemory (by
  intro vs es r h; unfold F_laws_markMemory at h; split at h
  · cases h; kernel_rfl
  · cases h)

def laws_markMachine_a0 (x1 : Int) (x2 : List Int) : Int :=
  x1 + (↑(List.length x2) : Int)

def laws_markMachine_a1 (x1 : Int) (x2 : List Int) (x3 : List Int) : Int :=
  laws_markMachine_a0 x1 x2 + (↑(List.length x3) : Int)

def laws_markMachine_a2 (x1 : Int) (x2 : List Int) (x3 : List Int) (x4 : List Int) : Int :=
  laws_markMachine_a1 x1 x2 x3 + (↑(List.length x4) : Int)

def laws_markMachine_0 (x1 : Int) (x2 : List Int) (x3 : List Int) (x4 : List Int) (x5 : List (Int × Int × Int)) : Int :=
  laws_markMachine_a2 x1 x2 x3 x4 + (3 : Int) * (↑(List.length x5) : Int)

def laws_markMachine_1 (x1 : Int) (x2 : List Int) : List Int :=
  upFrom x1 (List.length x2)

def laws_markMachine_2 (x1 : Int) (x2 : List Int) (x3 : List Int) : List Int :=
  upFrom (laws_markMachine_a0 x1 x2) (List.length x3)

def laws_markMachine_3 (x1 : Int) (x2 : List Int) (x3 : List Int) (x4 : List Int) : List Int :=
  upFrom (laws_markMachine_a1 x1 x2 x3) (List.length x4)

def laws_markMachine_4 (x1 : Int) (x2 : List Int) (x3 : List Int) (x4 : List Int) (x5 : List (Int × Int × Int)) : List (Int × (Int × Int)) :=
  upG (3 : Nat) mkB (laws_markMachine_a2 x1 x2 x3 x4) (List.length x5)

def laws_markMachine_5 (x1 : Int) (x2 : List Int) (x3 : List Int) (x4 : List Int) (x5 : List (Int × Int × Int)) : Bool :=
  allT
  [mkOk x1 (List.length x2), mkOk (laws_markMachine_a0 x1 x2) (List.length x3), mkOk (laws_markMachine_a1 x1 x2 x3) (List.length x4),
    mkOk3 (3 : Nat) (laws_markMachine_a2 x1 x2 x3 x4) (List.length x5) && leN (List.length x5) (9223372036854775807 : Nat)]

def F_laws_markMachine : List SV → List Entry → Option Out
  | [.one ⟨true, [.val (.int .i64 _x0), .ref 0, .ref 1, .ref 2, .ref 3]⟩, .one ⟨false, [.val (.int .i64 x1)]⟩], [.row true 2 (.int .i64) x2, .row true 2 (.int .i64) x3, .row true 2 (.int .i64) x4, .row true 28 (.pair (.int .i64) (.pair (.int .i64) (.int .i64))) x5] => some ⟨(.one ⟨false, [(.val (.int IntKind.i64 (laws_markMachine_0 x1 x2 x3 x4 x5)))]⟩), [(.row true 2 (CTy.int IntKind.i64) (laws_markMachine_1 x1 x2)), (.row true 2 (CTy.int IntKind.i64) (laws_markMachine_2 x1 x2 x3)), (.row true 2 (CTy.int IntKind.i64) (laws_markMachine_3 x1 x2 x3 x4)), (.row true 28 (CTy.pair (CTy.int IntKind.i64) (CTy.pair (CTy.int IntKind.i64) (CTy.int IntKind.i64))) (laws_markMachine_4 x1 x2 x3 x4 x5))], [], [(laws_markMachine_5 x1 x2 x3 x4 x5)]⟩
  | _, _ => none

def p_laws_markMachine : PF Tryd.prog := PF.ofG Tryd.prog [n_laws_markInt64S, PF.lend n_laws_markInt64S, PF.fz n_laws_markInt64S, n_laws_markBlockStateS, PF.lend n_laws_markBlockStateS, PF.fz n_laws_markBlockStateS] [] hmix 53 Tryd.f53 Tryd.func53 (fun c _ => LOk.nil c) F_laws_markMachine (by
  intro vs es r h; unfold F_laws_markMachine at h; split at h
  · cases h; kernel_rfl
  · cases h)

def laws_heldMachine_a0 (x1 : Int) (x2 : List Int) (x3 : List Int) (x4 : List Int) : Bool :=
  ltI (heldV (heldV (heldV x1 x2) x3) x4) (0 : Int)

def laws_heldMachine_0 (x1 : Int) (x2 : List Int) (x3 : List Int) (x4 : List Int) (x5 : List (Int × Int × Int)) : Int :=
  bif ltI (heldV x1 x2) (0 : Int) then (-1 : Int)
  else
  bif ltI (heldV (heldV x1 x2) x3) (0 : Int) then (-1 : Int)
  else
    bif laws_heldMachine_a0 x1 x2 x3 x4 then (-1 : Int)
    else bif ltI (heldB (heldV (heldV (heldV x1 x2) x3) x4) x5) (0 : Int) then (-1 : Int) else heldB (heldV (heldV (heldV x1 x2) x3) x4) x5

def laws_heldMachine_1 (x1 : Int) (x2 : List Int) (x3 : List Int) (x4 : List Int) (x5 : List (Int × Int × Int)) : Bool :=
  allT
  [leN (List.length x2) (9223372036854775807 : Nat), ltI (heldV x1 x2) (0 : Int) || leN (List.length x3) (9223372036854775807 : Nat),
    ltI (heldV x1 x2) (0 : Int) || (ltI (heldV (heldV x1 x2) x3) (0 : Int) || leN (List.length x4) (9223372036854775807 : Nat)),
    ltI (heldV x1 x2) (0 : Int) ||
      (ltI (heldV (heldV x1 x2) x3) (0 : Int) || (laws_heldMachine_a0 x1 x2 x3 x4 || leN (List.length x5) (9223372036854775807 : Nat)))]

def F_laws_heldMachine : List SV → List Entry → Option Out
  | [.one ⟨true, [.val (.int .i64 _x0), .ref 0, .ref 1, .ref 2, .ref 3]⟩, .one ⟨false, [.val (.int .i64 x1)]⟩], [.row false 2 (.int .i64) x2, .row false 2 (.int .i64) x3, .row false 2 (.int .i64) x4, .row false 28 (.pair (.int .i64) (.pair (.int .i64) (.int .i64))) x5] => some ⟨(.one ⟨false, [(.val (.int IntKind.i64 (laws_heldMachine_0 x1 x2 x3 x4 x5)))]⟩), [(.row false 2 (CTy.int IntKind.i64) x2), (.row false 2 (CTy.int IntKind.i64) x3), (.row false 2 (CTy.int IntKind.i64) x4), (.row false 28 (CTy.pair (CTy.int IntKind.i64) (CTy.pair (CTy.int IntKind.i64) (CTy.int IntKind.i64))) x5)], [], [(laws_heldMachine_1 x1 x2 x3 x4 x5)]⟩
  | _, _ => none

def p_laws_heldMachine : PF Tryd.prog := PF.ofG Tryd.prog [n_laws_heldInt64S, PF.lend n_laws_heldInt64S, PF.fz n_laws_heldInt64S, n_laws_heldBlockStateS, PF.lend n_laws_heldBlockStateS, PF.fz n_laws_heldBlockStateS] [] hmix 54 Tryd.f54 Tryd.func54 (fun c _ => LOk.nil c) F_laws_heldMachine (by
  intro vs es r h; unfold F_laws_heldMachine at h; split at h
  · cases h; kernel_rfl
  · cases h)

end Go.SX

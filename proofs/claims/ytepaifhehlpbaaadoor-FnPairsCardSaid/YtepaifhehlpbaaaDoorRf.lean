/- What functions of the program come to, row by row (made by a program of the workplace). -/
import Derived.Test.YtepaifhehlpbaaaDoorTXh
import Derived.Test.YtepaifhehlpbaaaDoorProg
import Derived.Test.YtepaifhehlpbaaaDoorNe
namespace Go.SX
open Go.Proofs
set_option maxRecDepth 100000

def spec_StepBlock_a0 (x0 : Int) (x1 : ByteArray) (x2 : Int) (x3 : Int) (x4 : Int) (x5 : Int) (x6 : List Int) : Int :=
  codeV x0 x1 x2 x3 x4 x5 [x6]

def spec_StepBlock_a1 (x0 : Int) (x1 : ByteArray) (x2 : Int) (x3 : Int) (x4 : Int) (x5 : Int) (x6 : List Int) : Bool :=
  spec_StepBlock_a0 x0 x1 x2 x3 x4 x5 x6 != (0 : Int)

def spec_StepBlock_0 (x0 : Int) (x1 : ByteArray) (x2 : Int) (x3 : Int) (x4 : Int) (x5 : Int) (x6 : List Int) : Int :=
  bif spec_StepBlock_a1 x0 x1 x2 x3 x4 x5 x6 then (0 : Int) else spec_l15Step_0 x0 x2 x3 x4 x5 x6

def spec_StepBlock_1 (x0 : Int) (x1 : ByteArray) (x2 : Int) (x3 : Int) (x4 : Int) (x5 : Int) (x6 : List Int) : Int :=
  bif spec_StepBlock_a1 x0 x1 x2 x3 x4 x5 x6 then (0 : Int) else spec_l15Step_1 x0 x2 x3 x4 x5 x6

def spec_StepBlock_2 (x0 : Int) (x1 : ByteArray) (x2 : Int) (x3 : Int) (x4 : Int) (x5 : Int) (x6 : List Int) : Int :=
  bif spec_StepBlock_a1 x0 x1 x2 x3 x4 x5 x6 then (0 : Int) else spec_l15Step_2 x0 x4 x5 x6

def spec_StepBlock_3 (x0 : Int) (x1 : ByteArray) (x2 : Int) (x3 : Int) (x4 : Int) (x5 : Int) (x6 : List Int) : Int :=
  bif spec_StepBlock_a1 x0 x1 x2 x3 x4 x5 x6 then (0 : Int) else spec_l15Step_3 x0 x2 x3 x5 x6

def spec_StepBlock_4 (x0 : Int) (x1 : ByteArray) (x2 : Int) (x3 : Int) (x4 : Int) (x5 : Int) (x6 : List Int) : Int :=
  bif spec_StepBlock_a1 x0 x1 x2 x3 x4 x5 x6 then spec_StepBlock_a0 x0 x1 x2 x3 x4 x5 x6 else (0 : Int)

def spec_StepBlock_5 (x0 : Int) (x1 : ByteArray) (x2 : Int) (x3 : Int) (x4 : Int) (x5 : Int) (x6 : List Int) : Bool :=
  allT
  [leN (ByteArray.size x1) (9223372036854775807 : Nat) && leN (List.length x6) (9223372036854775807 : Nat),
    spec_StepBlock_a1 x0 x1 x2 x3 x4 x5 x6 || spec_l15Step_4 x6]

def F_spec_StepBlock : List SV → List Entry → Option Out
  | [.one ⟨true, [.val (.int .i64 x0), .val (.string x1), .val (.int .i64 x2)]⟩, .one ⟨true, [.val (.int .i64 x3), .val (.int .i64 x4), .val (.int .i64 x5)]⟩, .one ⟨false, [.ref 0]⟩], [.row false 2 (.int .i64) x6] => some ⟨(.tup [⟨false, [(.val (.int IntKind.i64 (spec_StepBlock_0 x0 x1 x2 x3 x4 x5 x6)))]⟩, ⟨true, [(.val (.int IntKind.i64 (spec_StepBlock_1 x0 x1 x2 x3 x4 x5 x6))), (.val (.int IntKind.i64 (spec_StepBlock_2 x0 x1 x2 x3 x4 x5 x6))), (.val (.int IntKind.i64 (spec_StepBlock_3 x0 x1 x2 x3 x4 x5 x6)))]⟩, ⟨false, [(.val (.int IntKind.i64 (spec_StepBlock_4 x0 x1 x2 x3 x4 x5 x6)))]⟩]), [(.row false 2 (CTy.int IntKind.i64) x6)], [], [(spec_StepBlock_5 x0 x1 x2 x3 x4 x5 x6)]⟩
  | _, _ => none

def p_spec_StepBlock : PF Tryd.prog := PF.ofG Tryd.prog [n_spec_l15Code, PF.lend n_spec_l15Code, PF.fz n_spec_l15Code, p_spec_l15Step, PF.lend p_spec_l15Step, PF.fz p_spec_l15Step] [] hmix 11 Tryd.f11 Tryd.func11 (fun c _ => LOk.nil c) F_spec_StepBlock (by
  intro vs es r h; unfold F_spec_StepBlock at h; split at h
  · cases h; kernel_rfl
  · cases h)

def impl_StepBlock_a0 (x0 : Int) (x1 : ByteArray) (x2 : Int) (x3 : Int) (x4 : Int) (x5 : Int) (x6 : List Int) : Int :=
  codeV x0 x1 x2 x3 x4 x5 [x6]

def impl_StepBlock_a1 (x0 : Int) (x1 : ByteArray) (x2 : Int) (x3 : Int) (x4 : Int) (x5 : Int) (x6 : List Int) : Bool :=
  impl_StepBlock_a0 x0 x1 x2 x3 x4 x5 x6 != (0 : Int)

def impl_StepBlock_0 (x0 : Int) (x1 : ByteArray) (x2 : Int) (x3 : Int) (x4 : Int) (x5 : Int) (x6 : List Int) : Int :=
  bif impl_StepBlock_a1 x0 x1 x2 x3 x4 x5 x6 then (0 : Int) else impl_step_0 x0 x2 x3 x4 x5 x6

def impl_StepBlock_1 (x0 : Int) (x1 : ByteArray) (x2 : Int) (x3 : Int) (x4 : Int) (x5 : Int) (x6 : List Int) : Int :=
  bif impl_StepBlock_a1 x0 x1 x2 x3 x4 x5 x6 then (0 : Int) else impl_step_1 x0 x2 x3 x4 x5 x6

def impl_StepBlock_2 (x0 : Int) (x1 : ByteArray) (x2 : Int) (x3 : Int) (x4 : Int) (x5 : Int) (x6 : List Int) : Int :=
  bif impl_StepBlock_a1 x0 x1 x2 x3 x4 x5 x6 then (0 : Int) else impl_step_2 x0 x4 x5 x6

def impl_StepBlock_3 (x0 : Int) (x1 : ByteArray) (x2 : Int) (x3 : Int) (x4 : Int) (x5 : Int) (x6 : List Int) : Int :=
  bif impl_StepBlock_a1 x0 x1 x2 x3 x4 x5 x6 then (0 : Int) else impl_step_3 x0 x2 x3 x4 x5 x6

def impl_StepBlock_4 (x0 : Int) (x1 : ByteArray) (x2 : Int) (x3 : Int) (x4 : Int) (x5 : Int) (x6 : List Int) : Int :=
  bif impl_StepBlock_a1 x0 x1 x2 x3 x4 x5 x6 then impl_StepBlock_a0 x0 x1 x2 x3 x4 x5 x6 else (0 : Int)

def impl_StepBlock_5 (x0 : Int) (x1 : ByteArray) (x2 : Int) (x3 : Int) (x4 : Int) (x5 : Int) (x6 : List Int) : Bool :=
  allT [ssOk (9223372036854775807 : Nat) [x6], impl_StepBlock_a1 x0 x1 x2 x3 x4 x5 x6 || impl_step_4 x6]

def F_impl_StepBlock : List SV → List Entry → Option Out
  | [.one ⟨true, [.val (.int .i64 x0), .val (.string x1), .val (.int .i64 x2)]⟩, .one ⟨true, [.val (.int .i64 x3), .val (.int .i64 x4), .val (.int .i64 x5)]⟩, .one ⟨false, [.ref 0]⟩], [.row false 2 (.int .i64) x6] => some ⟨(.tup [⟨false, [(.val (.int IntKind.i64 (impl_StepBlock_0 x0 x1 x2 x3 x4 x5 x6)))]⟩, ⟨true, [(.val (.int IntKind.i64 (impl_StepBlock_1 x0 x1 x2 x3 x4 x5 x6))), (.val (.int IntKind.i64 (impl_StepBlock_2 x0 x1 x2 x3 x4 x5 x6))), (.val (.int IntKind.i64 (impl_StepBlock_3 x0 x1 x2 x3 x4 x5 x6)))]⟩, ⟨false, [(.val (.int IntKind.i64 (impl_StepBlock_4 x0 x1 x2 x3 x4 x5 x6)))]⟩]), [(.row false 2 (CTy.int IntKind.i64) x6)], [], [(impl_StepBlock_5 x0 x1 x2 x3 x4 x5 x6)]⟩
  | _, _ => none

def p_impl_StepBlock : PF Tryd.prog := PF.ofG Tryd.prog [n_impl_stepCode, PF.lend n_impl_stepCode, PF.fz n_impl_stepCode, p_impl_step, PF.lend p_impl_step, PF.fz p_impl_step] [] hmix 15 Tryd.f15 Tryd.func15 (fun c _ => LOk.nil c) F_impl_StepBlock (by
  intro vs es r h; unfold F_impl_StepBlock at h; split at h
  · cases h; kernel_rfl
  · cases h)

end Go.SX

/- What functions of the program come to, row by row (made by a program of the workplace). -/
import Derived.Test.YtepaifhehlpbaaaDoorTXh
import Derived.Test.YtepaifhehlpbaaaDoorProg
namespace Go.SX
open Go.Proofs
set_option maxRecDepth 100000
theorem hmix : Tryd.prog.follows .mixedOrders = true := by kernel_rfl

def spec_l01In_0 (x0 : Int) (x1 : Int) (x2 : Int) : Bool :=
  bif leI x1 x0 then leI x0 x2 else false

def F_spec_l01In : List SV → List Entry → Option Out
  | [.one ⟨false, [.val (.int .i64 x0)]⟩, .one ⟨false, [.val (.int .i64 x1)]⟩, .one ⟨false, [.val (.int .i64 x2)]⟩], [] => some ⟨(.one ⟨false, [(.val (.bool (spec_l01In_0 x0 x1 x2)))]⟩), [], [], []⟩
  | _, _ => none

def p_spec_l01In : PF Tryd.prog := PF.ofG Tryd.prog [] [] hmix 108 Tryd.f108 Tryd.func108 (fun c _ => LOk.nil c) F_spec_l01In (by
  intro vs es r h; unfold F_spec_l01In at h; split at h
  · cases h; kernel_rfl
  · cases h)

def impl_within_0 (x0 : Int) (x1 : Int) (x2 : Int) : Bool :=
  bif leI x1 x0 then leI x0 x2 else false

def F_impl_within : List SV → List Entry → Option Out
  | [.one ⟨false, [.val (.int .i64 x0)]⟩, .one ⟨false, [.val (.int .i64 x1)]⟩, .one ⟨false, [.val (.int .i64 x2)]⟩], [] => some ⟨(.one ⟨false, [(.val (.bool (impl_within_0 x0 x1 x2)))]⟩), [], [], []⟩
  | _, _ => none

def p_impl_within : PF Tryd.prog := PF.ofG Tryd.prog [] [] hmix 109 Tryd.f109 Tryd.func109 (fun c _ => LOk.nil c) F_impl_within (by
  intro vs es r h; unfold F_impl_within at h; split at h
  · cases h; kernel_rfl
  · cases h)

end Go.SX

/- What functions of the program come to, row by row (made by a program of the workplace). -/
import Derived.Test.YtofbpbijfhfnoaaDoorTXh
import Derived.Test.YtofbpbijfhfnoaaDoorProg
namespace Go.SX
open Go.Proofs
set_option maxRecDepth 100000
theorem hmix : Tryd.prog.follows .mixedOrders = true := by kernel_rfl

def spec_l01In_0 (x0 : Int) (x1 : Int) (x2 : Int) : Bool :=
  bif leI x1 x0 then leI x0 x2 else false

def F_spec_l01In : List SV → List Entry → Option Out
  | [.one ⟨false, [.val (.int .i64 x0)]⟩, .one ⟨false, [.val (.int .i64 x1)]⟩, .one ⟨false, [.val (.int .i64 x2)]⟩], [] => some ⟨(.one ⟨false, [(.val (.bool (spec_l01In_0 x0 x1 x2)))]⟩), [], [], []⟩
  | _, _ => none

def p_spec_l01In : PF Tryd.prog := PF.ofG Tryd.prog [] [] hmix 6 Tryd.f6 Tryd.func6 (fun c _ => LOk.nil c) F_spec_l01In (by
  intro vs es r h; unfold F_spec_l01In at h; split at h
  · cases h; kernel_rfl
  · cases h)

def spec_l34Names_0  : List ByteArray :=
  [{ data := #[(100 : UInt8), (111 : UInt8), (110 : UInt8), (101 : UInt8)] }, { data := #[(109 : UInt8), (111 : UInt8), (100 : UInt8), (101 : UInt8)] },
  { data := #[(98 : UInt8), (108 : UInt8), (111 : UInt8), (99 : UInt8), (107 : UInt8), (101 : UInt8), (100 : UInt8)] },
  { data := #[(111 : UInt8), (112 : UInt8), (101 : UInt8), (110 : UInt8)] },
  { data := #[(112 : UInt8), (108 : UInt8), (97 : UInt8), (99 : UInt8), (101 : UInt8)] },
  { data := #[(115 : UInt8), (116 : UInt8), (117 : UInt8), (99 : UInt8), (107 : UInt8)] },
  { data := #[(114 : UInt8), (101 : UInt8), (102 : UInt8), (117 : UInt8), (115 : UInt8), (101 : UInt8), (100 : UInt8)] },
  { data := #[(99 : UInt8), (108 : UInt8), (111 : UInt8), (115 : UInt8), (101 : UInt8), (100 : UInt8)] }]

def F_spec_l34Names : List SV → List Entry → Option Out
  | [], [] => some ⟨(.one ⟨false, [(.ref 0)]⟩), [], [(.row true 9 (CTy.str) (spec_l34Names_0))], []⟩
  | _, _ => none

def p_spec_l34Names : PF Tryd.prog := PF.ofG Tryd.prog [] [] hmix 7 Tryd.f7 Tryd.func7 (fun c _ => LOk.nil c) F_spec_l34Names (by
  intro vs es r h; unfold F_spec_l34Names at h; split at h
  · cases h; kernel_rfl
  · cases h)

def spec_VerdictName_a0 (x0 : Int) : Bool :=
  !spec_l01In_0 x0 (0 : Int) (7 : Int)

def spec_VerdictName_0 (x0 : Int) : ByteArray :=
  bif spec_VerdictName_a0 x0 then { data := #[] } else Option.getD spec_l34Names_0[Int.toNat x0]? ByteArray.empty

def spec_VerdictName_1 (x0 : Int) : Bool :=
  allT
  [spec_VerdictName_a0 x0 || leI (0 : Int) x0, spec_VerdictName_a0 x0 || ltI x0 (↑(List.length spec_l34Names_0) : Int),
    spec_VerdictName_a0 x0 || ltN (Int.toNat x0) (List.length spec_l34Names_0)]

def F_spec_VerdictName : List SV → List Entry → Option Out
  | [.one ⟨false, [.val (.int .i64 x0)]⟩], [] => some ⟨(.one ⟨false, [(.val (.string (spec_VerdictName_0 x0)))]⟩), [], [], [(spec_VerdictName_1 x0)]⟩
  | _, _ => none

def p_spec_VerdictName : PF Tryd.prog := PF.ofG Tryd.prog [p_spec_l01In, p_spec_l34Names] [] hmix 4 Tryd.f4 Tryd.func4 (fun c _ => LOk.nil c) F_spec_VerdictName (by
  intro vs es r h; unfold F_spec_VerdictName at h; split at h
  · cases h; kernel_rfl
  · cases h)

def impl_within_0 (x0 : Int) (x1 : Int) (x2 : Int) : Bool :=
  bif leI x1 x0 then leI x0 x2 else false

def F_impl_within : List SV → List Entry → Option Out
  | [.one ⟨false, [.val (.int .i64 x0)]⟩, .one ⟨false, [.val (.int .i64 x1)]⟩, .one ⟨false, [.val (.int .i64 x2)]⟩], [] => some ⟨(.one ⟨false, [(.val (.bool (impl_within_0 x0 x1 x2)))]⟩), [], [], []⟩
  | _, _ => none

def p_impl_within : PF Tryd.prog := PF.ofG Tryd.prog [] [] hmix 8 Tryd.f8 Tryd.func8 (fun c _ => LOk.nil c) F_impl_within (by
  intro vs es r h; unfold F_impl_within at h; split at h
  · cases h; kernel_rfl
  · cases h)

def impl_VerdictName_a0 (x0 : Int) : Bool :=
  !impl_within_0 x0 (0 : Int) (7 : Int)

def impl_VerdictName_0 (x0 : Int) : ByteArray :=
  bif impl_VerdictName_a0 x0 then { data := #[] } else Option.getD tab0[Int.toNat x0]? ByteArray.empty

def impl_VerdictName_1 (x0 : Int) : Bool :=
  allT
  [impl_VerdictName_a0 x0 || leI (0 : Int) x0, impl_VerdictName_a0 x0 || ltI x0 (↑(List.length tab0) : Int),
    impl_VerdictName_a0 x0 || ltN (Int.toNat x0) (List.length tab0)]

def F_impl_VerdictName : List SV → List Entry → Option Out
  | [.one ⟨false, [.val (.int .i64 x0)]⟩], [] => some ⟨(.one ⟨false, [(.val (.string (impl_VerdictName_0 x0)))]⟩), [], [], [(impl_VerdictName_1 x0)]⟩
  | _, _ => none

def p_impl_VerdictName : PF Tryd.prog := PF.ofG Tryd.prog [p_impl_within] [] hmix 5 Tryd.f5 Tryd.func5 (fun c _ => LOk.nil c) F_impl_VerdictName (by
  intro vs es r h; unfold F_impl_VerdictName at h; split at h
  · cases h; kernel_rfl
  · cases h)

def laws_FnExactVerdictName_0 (x0 : Int) : Bool :=
  bif !ByteArray.toList (impl_VerdictName_0 x0) == ByteArray.toList (spec_VerdictName_0 x0) then false else true

def laws_FnExactVerdictName_1 (x0 : Int) : Bool :=
  allT [spec_VerdictName_1 x0, impl_VerdictName_1 x0]

def F_laws_FnExactVerdictName : List SV → List Entry → Option Out
  | [.one ⟨false, [.val (.int .i64 x0)]⟩], [] => some ⟨(.one ⟨false, [(.val (.bool (laws_FnExactVerdictName_0 x0)))]⟩), [], [], [(laws_FnExactVerdictName_1 x0)]⟩
  | _, _ => none

def p_laws_FnExactVerdictName : PF Tryd.prog := PF.ofG Tryd.prog [p_spec_VerdictName, p_impl_VerdictName] [] hmix 3 Tryd.f3 Tryd.func3 (fun c _ => LOk.nil c) F_laws_FnExactVerdictName (by
  intro vs es r h; unfold F_laws_FnExactVerdictName at h; split at h
  · cases h; kernel_rfl
  · cases h)


end Go.SX

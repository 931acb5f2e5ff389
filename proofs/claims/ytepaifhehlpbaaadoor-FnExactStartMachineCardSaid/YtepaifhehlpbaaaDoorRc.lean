/- What functions of the program come to, row by row (made by a program of the workplace). -/
import Derived.Test.YtepaifhehlpbaaaDoorTXh
import Derived.Test.YtepaifhehlpbaaaDoorProg
import Derived.Test.YtepaifhehlpbaaaDoorNb
namespace Go.SX
open Go.Proofs
set_option maxRecDepth 100000

def spec_l13Counts_0 (x0 : Int) : Bool :=
  bif bif bif x0 == (7 : Int) then true else x0 == (8 : Int) then true else x0 == (11 : Int) then true else x0 == (12 : Int)

def F_spec_l13Counts : List SV → List Entry → Option Out
  | [.one ⟨false, [.val (.int .i64 x0)]⟩], [] => some ⟨(.one ⟨false, [(.val (.bool (spec_l13Counts_0 x0)))]⟩), [], [], []⟩
  | _, _ => none

def p_spec_l13Counts : PF Tryd.prog := PF.ofG Tryd.prog [] [] hmix 107 Tryd.f107 Tryd.func107 (fun c _ => LOk.nil c) F_spec_l13Counts (by
  intro vs es r h; unfold F_spec_l13Counts at h; split at h
  · cases h; kernel_rfl
  · cases h)

def spec_l13Kind_0 (x0 : Int) : Bool :=
  spec_l01In_0 x0 (1 : Int) (12 : Int)

def F_spec_l13Kind : List SV → List Entry → Option Out
  | [.one ⟨false, [.val (.int .i64 x0)]⟩], [] => some ⟨(.one ⟨false, [(.val (.bool (spec_l13Kind_0 x0)))]⟩), [], [], []⟩
  | _, _ => none

def p_spec_l13Kind : PF Tryd.prog := PF.ofG Tryd.prog [p_spec_l01In] [] hmix 112 Tryd.f112 Tryd.func112 (fun c _ => LOk.nil c) F_spec_l13Kind (by
  intro vs es r h; unfold F_spec_l13Kind at h; split at h
  · cases h; kernel_rfl
  · cases h)

def spec_l13Name_0 (x0 : ByteArray) : Bool :=
  bif wordB x0 then ltI (spec_l12Keyword_0 x0) (0 : Int) else false

def spec_l13Name_1 (x0 : ByteArray) : Bool :=
  allT [leN (ByteArray.size x0) (9223372036854775807 : Nat), !(wordB x0 && true) || spec_l12Keyword_1 x0]

def F_spec_l13Name : List SV → List Entry → Option Out
  | [.one ⟨false, [.val (.string x0)]⟩], [] => some ⟨(.one ⟨false, [(.val (.bool (spec_l13Name_0 x0)))]⟩), [], [], [(spec_l13Name_1 x0)]⟩
  | _, _ => none

def p_spec_l13Name : PF Tryd.prog := PF.ofG Tryd.prog [n_spec_l12Word, p_spec_l12Keyword] [] hmix 113 Tryd.f113 Tryd.func113 (fun c _ => LOk.nil c) F_spec_l13Name (by
  intro vs es r h; unfold F_spec_l13Name at h; split at h
  · cases h; kernel_rfl
  · cases h)

def spec_l13Term_a0 (x0 : Int) (x2 : Int) : Bool :=
  bif bif !spec_l13Kind_0 x0 then true else !spec_l01In_0 x2 (0 : Int) (9999 : Int) then true
  else bif !spec_l13Counts_0 x0 then x2 != (0 : Int) else false

def spec_l13Term_0 (x0 : Int) (x1 : ByteArray) (x2 : Int) : Bool :=
  bif spec_l13Term_a0 x0 x2 then false else bif x0 == (1 : Int) then spec_l13Name_0 x1 else ByteArray.toList x1 == ByteArray.toList { data := #[] }

def spec_l13Term_1 (x0 : Int) (x1 : ByteArray) (x2 : Int) : Bool :=
  allT [spec_l13Term_a0 x0 x2 || (!x0 == (1 : Int) || spec_l13Name_1 x1)]

def F_spec_l13Term : List SV → List Entry → Option Out
  | [.one ⟨true, [.val (.int .i64 x0), .val (.string x1), .val (.int .i64 x2)]⟩], [] => some ⟨(.one ⟨false, [(.val (.bool (spec_l13Term_0 x0 x1 x2)))]⟩), [], [], [(spec_l13Term_1 x0 x1 x2)]⟩
  | _, _ => none

def p_spec_l13Term : PF Tryd.prog := PF.ofG Tryd.prog [p_spec_l13Counts, p_spec_l01In, p_spec_l13Kind, p_spec_l13Name] [] hmix 67 Tryd.f67 Tryd.func67 (fun c _ => LOk.nil c) F_spec_l13Term (by
  intro vs es r h; unfold F_spec_l13Term at h; split at h
  · cases h; kernel_rfl
  · cases h)

def spec_IsBlock_0 (x0 : Int) (x1 : ByteArray) (x2 : Int) : Bool :=
  bif spec_l13Term_0 x0 x1 x2 then leI (7 : Int) x0 else false

def spec_IsBlock_1 (x0 : Int) (x1 : ByteArray) (x2 : Int) : Bool :=
  allT [spec_l13Term_1 x0 x1 x2]

def F_spec_IsBlock : List SV → List Entry → Option Out
  | [.one ⟨true, [.val (.int .i64 x0), .val (.string x1), .val (.int .i64 x2)]⟩], [] => some ⟨(.one ⟨false, [(.val (.bool (spec_IsBlock_0 x0 x1 x2)))]⟩), [], [], [(spec_IsBlock_1 x0 x1 x2)]⟩
  | _, _ => none

def p_spec_IsBlock : PF Tryd.prog := PF.ofG Tryd.prog [p_spec_l13Term] [] hmix 26 Tryd.f26 Tryd.func26 (fun c _ => LOk.nil c) F_spec_IsBlock (by
  intro vs es r h; unfold F_spec_IsBlock at h; split at h
  · cases h; kernel_rfl
  · cases h)

def spec_l15Possible_0 (x0 : Int) (x2 : Int) (x3 : Int) (x4 : Int) (x5 : Int) : Bool :=
  bif bif x0 == (9 : Int) then x0 == (9 : Int) else x0 == (10 : Int) then
  bif bif spec_l01In_0 x3 (0 : Int) (1 : Int) then x4 == (0 : Int) else false then x5 == (0 : Int) else false
  else
  bif x0 == (11 : Int) then bif bif spec_l01In_0 x3 (0 : Int) x2 then spec_l01In_0 x4 (0 : Int) (1 : Int) else false then x5 == (0 : Int) else false
  else
    bif x0 == (12 : Int) then
      bif x4 == (0 : Int) then
        bif bif spec_l01In_0 x3 (0 : Int) x2 then x5 == (0 : Int) else false then true
        else bif x3 == IntKind.wrap IntKind.i64 (x2 + (1 : Int)) then x5 == (1 : Int) else false
      else false
    else bif bif spec_l01In_0 x3 (0 : Int) x2 then x4 == (0 : Int) else false then x5 == (0 : Int) else false

def F_spec_l15Possible : List SV → List Entry → Option Out
  | [.one ⟨true, [.val (.int .i64 x0), .val (.string _x1), .val (.int .i64 x2)]⟩, .one ⟨true, [.val (.int .i64 x3), .val (.int .i64 x4), .val (.int .i64 x5)]⟩], [] => some ⟨(.one ⟨false, [(.val (.bool (spec_l15Possible_0 x0 x2 x3 x4 x5)))]⟩), [], [], []⟩
  | _, _ => none

def p_spec_l15Possible : PF Tryd.prog := PF.ofG Tryd.prog [p_spec_l01In] [] hmix 71 Tryd.f71 Tryd.func71 (fun c _ => LOk.nil c) F_spec_l15Possible (by
  intro vs es r h; unfold F_spec_l15Possible at h; split at h
  · cases h; kernel_rfl
  · cases h)

def impl_isNumbered_0 (x0 : Int) : Bool :=
  bif bif bif x0 == (7 : Int) then true else x0 == (8 : Int) then true else x0 == (11 : Int) then true else x0 == (12 : Int)

def F_impl_isNumbered : List SV → List Entry → Option Out
  | [.one ⟨false, [.val (.int .i64 x0)]⟩], [] => some ⟨(.one ⟨false, [(.val (.bool (impl_isNumbered_0 x0)))]⟩), [], [], []⟩
  | _, _ => none

def p_impl_isNumbered : PF Tryd.prog := PF.ofG Tryd.prog [] [] hmix 110 Tryd.f110 Tryd.func110 (fun c _ => LOk.nil c) F_impl_isNumbered (by
  intro vs es r h; unfold F_impl_isNumbered at h; split at h
  · cases h; kernel_rfl
  · cases h)

def impl_isName_0 (x0 : ByteArray) : Bool :=
  bif wordB x0 then !keyB x0 else false

def F_impl_isName : List SV → List Entry → Option Out
  | [.one ⟨false, [.val (.string x0)]⟩], [] => some ⟨(.one ⟨false, [(.val (.bool (impl_isName_0 x0)))]⟩), [], [], []⟩
  | _, _ => none

def p_impl_isName : PF Tryd.prog := PF.ofG Tryd.prog [n_impl_isWord, n_impl_IsKeyword] [] hmix 111 Tryd.f111 Tryd.func111 (fun c _ => LOk.nil c) F_impl_isName (by
  intro vs es r h; unfold F_impl_isName at h; split at h
  · cases h; kernel_rfl
  · cases h)

def impl_isTerm_0 (x0 : Int) (x1 : ByteArray) (x2 : Int) : Bool :=
  bif bif !impl_within_0 x0 (1 : Int) (12 : Int) then true else !(x0 == (1 : Int)) == !ByteArray.toList x1 == ByteArray.toList { data := #[] } then
  false
  else
  bif impl_isNumbered_0 x0 then impl_within_0 x2 (0 : Int) (9999 : Int)
  else bif x2 == (0 : Int) then bif x0 != (1 : Int) then true else impl_isName_0 x1 else false

def F_impl_isTerm : List SV → List Entry → Option Out
  | [.one ⟨true, [.val (.int .i64 x0), .val (.string x1), .val (.int .i64 x2)]⟩], [] => some ⟨(.one ⟨false, [(.val (.bool (impl_isTerm_0 x0 x1 x2)))]⟩), [], [], []⟩
  | _, _ => none

def p_impl_isTerm : PF Tryd.prog := PF.ofG Tryd.prog [p_impl_within, p_impl_isNumbered, p_impl_isName] [] hmix 66 Tryd.f66 Tryd.func66 (fun c _ => LOk.nil c) F_impl_isTerm (by
  intro vs es r h; unfold F_impl_isTerm at h; split at h
  · cases h; kernel_rfl
  · cases h)

def impl_IsBlock_0 (x0 : Int) (x1 : ByteArray) (x2 : Int) : Bool :=
  bif impl_isTerm_0 x0 x1 x2 then leI (7 : Int) x0 else false

def F_impl_IsBlock : List SV → List Entry → Option Out
  | [.one ⟨true, [.val (.int .i64 x0), .val (.string x1), .val (.int .i64 x2)]⟩], [] => some ⟨(.one ⟨false, [(.val (.bool (impl_IsBlock_0 x0 x1 x2)))]⟩), [], [], []⟩
  | _, _ => none

def p_impl_IsBlock : PF Tryd.prog := PF.ofG Tryd.prog [p_impl_isTerm] [] hmix 25 Tryd.f25 Tryd.func25 (fun c _ => LOk.nil c) F_impl_IsBlock (by
  intro vs es r h; unfold F_impl_IsBlock at h; split at h
  · cases h; kernel_rfl
  · cases h)

def impl_isPossible_0 (x0 : Int) (x2 : Int) (x3 : Int) (x4 : Int) (x5 : Int) : Bool :=
  bif bif x0 == (7 : Int) then x0 == (7 : Int) else x0 == (8 : Int) then
  bif bif impl_within_0 x3 (0 : Int) x2 then x4 == (0 : Int) else false then x5 == (0 : Int) else false
  else
  bif x0 == (11 : Int) then bif bif impl_within_0 x3 (0 : Int) x2 then impl_within_0 x4 (0 : Int) (1 : Int) else false then x5 == (0 : Int) else false
  else
    bif x0 == (12 : Int) then
      bif x4 == (0 : Int) then
        bif bif impl_within_0 x3 (0 : Int) x2 then x5 == (0 : Int) else false then true
        else bif x3 == IntKind.wrap IntKind.i64 (x2 + (1 : Int)) then x5 == (1 : Int) else false
      else false
    else bif bif impl_within_0 x3 (0 : Int) (1 : Int) then x4 == (0 : Int) else false then x5 == (0 : Int) else false

def F_impl_isPossible : List SV → List Entry → Option Out
  | [.one ⟨true, [.val (.int .i64 x0), .val (.string _x1), .val (.int .i64 x2)]⟩, .one ⟨true, [.val (.int .i64 x3), .val (.int .i64 x4), .val (.int .i64 x5)]⟩], [] => some ⟨(.one ⟨false, [(.val (.bool (impl_isPossible_0 x0 x2 x3 x4 x5)))]⟩), [], [], []⟩
  | _, _ => none

def p_impl_isPossible : PF Tryd.prog := PF.ofG Tryd.prog [p_impl_within] [] hmix 68 Tryd.f68 Tryd.func68 (fun c _ => LOk.nil c) F_impl_isPossible (by
  intro vs es r h; unfold F_impl_isPossible at h; split at h
  · cases h; kernel_rfl
  · cases h)

end Go.SX

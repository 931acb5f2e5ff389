/- Steps and runs of blocks: rows in plain words. -/
import Derived.Test.YtepaifhehlpbaaaDoorNi
namespace Go.SX
open Go.Proofs
set_option maxRecDepth 100000

def sbCode (k : Int) (s : ByteArray) (n a b c : Int) (l : List Int) : Int := codeV k s n a b c [l]
def sbV (k : Int) (s : ByteArray) (n a b c : Int) (l : List Int) : Int := bif sbCode k s n a b c l == 0 then valB k n l (a, b, c) else 0
def sbS (k : Int) (s : ByteArray) (n a b c : Int) (l : List Int) : BS := bif sbCode k s n a b c l == 0 then nextB k n l (a, b, c) else (0, 0, 0)

theorem specStepB_ok (k : Int) (s : ByteArray) (n a b c : Int) (l : List Int) (h : (leN s.size 9223372036854775807 && leN l.length 9223372036854775807) = true) :
    spec_StepBlock_0 k s n a b c l = sbV k s n a b c l ∧ spec_StepBlock_1 k s n a b c l = (sbS k s n a b c l).1 ∧ spec_StepBlock_2 k s n a b c l = (sbS k s n a b c l).2.1 ∧ spec_StepBlock_3 k s n a b c l = (sbS k s n a b c l).2.2 ∧
    spec_StepBlock_4 k s n a b c l = sbCode k s n a b c l ∧ spec_StepBlock_5 k s n a b c l = true := by
  simp only [Bool.and_eq_true, leN_iff] at h
  refine ⟨?_, ?_, ?_, ?_, ?_, (stepB_nd k s n a b c l h.1 h.2).2⟩ <;> simp only [spec_StepBlock_a0, spec_StepBlock_a1, spec_StepBlock_0, spec_StepBlock_1, spec_StepBlock_2, spec_StepBlock_3, spec_StepBlock_4, spec_StepBlock_5, sbV, sbS, sbCode, valB, nextB] <;> (cases h0 : codeV k s n a b c [l] == 0 <;> simp [bne, h0] <;> simp_all)

theorem implStepB_ok (k : Int) (s : ByteArray) (n a b c : Int) (l : List Int) (h : (leN s.size 9223372036854775807 && leN l.length 9223372036854775807) = true) :
    impl_StepBlock_0 k s n a b c l = sbV k s n a b c l ∧ impl_StepBlock_1 k s n a b c l = (sbS k s n a b c l).1 ∧ impl_StepBlock_2 k s n a b c l = (sbS k s n a b c l).2.1 ∧ impl_StepBlock_3 k s n a b c l = (sbS k s n a b c l).2.2 ∧
    impl_StepBlock_4 k s n a b c l = sbCode k s n a b c l ∧ impl_StepBlock_5 k s n a b c l = true := by
  obtain ⟨e0, e1, e2, e3, e4, _⟩ := specStepB_ok k s n a b c l h
  obtain ⟨f0, f1, f2, f3, f4⟩ := stepB_eq k s n a b c l
  simp only [Bool.and_eq_true, leN_iff] at h
  exact ⟨f0.trans e0, f1.trans e1, f2.trans e2, f3.trans e3, f4.trans e4, (stepB_nd k s n a b c l h.1 h.2).1⟩

def N_spec_StepBlock : List SV → List Entry → Option Out
  | [.one ⟨true, [.val (.int .i64 x0), .val (.string x1), .val (.int .i64 x2)]⟩, .one ⟨true, [.val (.int .i64 x3), .val (.int .i64 x4), .val (.int .i64 x5)]⟩, .one ⟨false, [.ref 0]⟩], [.row false 2 (.int .i64) x6] => some ⟨(.tup [⟨false, [(.val (.int IntKind.i64 (sbV x0 x1 x2 x3 x4 x5 x6)))]⟩, ⟨true, [(.val (.int IntKind.i64 ((sbS x0 x1 x2 x3 x4 x5 x6).1))), (.val (.int IntKind.i64 ((sbS x0 x1 x2 x3 x4 x5 x6).2.1))), (.val (.int IntKind.i64 ((sbS x0 x1 x2 x3 x4 x5 x6).2.2)))]⟩, ⟨false, [(.val (.int IntKind.i64 (sbCode x0 x1 x2 x3 x4 x5 x6)))]⟩]), [(.row false 2 (CTy.int IntKind.i64) x6)], [], [leN x1.size 9223372036854775807 && leN x6.length 9223372036854775807]⟩
  | _, _ => none

def n_spec_StepBlock : PF Tryd.prog := PF.alt p_spec_StepBlock N_spec_StepBlock (by
  intro args es o h hnd; unfold N_spec_StepBlock at h; split at h
  · rename_i x0 x1 x2 x3 x4 x5 x6
    cases h
    have hnd := nd_fst hnd
    have hh := specStepB_ok x0 x1 x2 x3 x4 x5 x6 hnd
    obtain ⟨e0, e1, e2, e3, e4, en⟩ := hh
    exact altok rfl (nd_one en) (by simp only [e0, e1, e2, e3, e4] <;> rfl) rfl rfl
  · cases h)

def N_impl_StepBlock : List SV → List Entry → Option Out
  | [.one ⟨true, [.val (.int .i64 x0), .val (.string x1), .val (.int .i64 x2)]⟩, .one ⟨true, [.val (.int .i64 x3), .val (.int .i64 x4), .val (.int .i64 x5)]⟩, .one ⟨false, [.ref 0]⟩], [.row false 2 (.int .i64) x6] => some ⟨(.tup [⟨false, [(.val (.int IntKind.i64 (sbV x0 x1 x2 x3 x4 x5 x6)))]⟩, ⟨true, [(.val (.int IntKind.i64 ((sbS x0 x1 x2 x3 x4 x5 x6).1))), (.val (.int IntKind.i64 ((sbS x0 x1 x2 x3 x4 x5 x6).2.1))), (.val (.int IntKind.i64 ((sbS x0 x1 x2 x3 x4 x5 x6).2.2)))]⟩, ⟨false, [(.val (.int IntKind.i64 (sbCode x0 x1 x2 x3 x4 x5 x6)))]⟩]), [(.row false 2 (CTy.int IntKind.i64) x6)], [], [leN x1.size 9223372036854775807 && leN x6.length 9223372036854775807]⟩
  | _, _ => none

def n_impl_StepBlock : PF Tryd.prog := PF.alt p_impl_StepBlock N_impl_StepBlock (by
  intro args es o h hnd; unfold N_impl_StepBlock at h; split at h
  · rename_i x0 x1 x2 x3 x4 x5 x6
    cases h
    have hnd := nd_fst hnd
    have hh := implStepB_ok x0 x1 x2 x3 x4 x5 x6 hnd
    obtain ⟨e0, e1, e2, e3, e4, en⟩ := hh
    exact altok rfl (nd_one en) (by simp only [e0, e1, e2, e3, e4] <;> rfl) rfl rfl
  · cases h)

end Go.SX

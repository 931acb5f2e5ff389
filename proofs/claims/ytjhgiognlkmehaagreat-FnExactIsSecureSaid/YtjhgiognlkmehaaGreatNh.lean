/- Traffic, in plain words: the program's safe traffics. -/
import Derived.Test.YtjhgiognlkmehaaGreatRh
namespace Go.SX
open Go.Proofs
set_option maxRecDepth 100000

theorem isSafe_ok (n : Int) (ps : List Int) (h : isT n ps = true) : loop_example_g00916_impl_Traffic_isSafe_0 n ps = safeL n ps ∧ loop_example_g00916_impl_Traffic_isSafe_1 n ps = true := by
  have h1 := (isT_iff.1 h).1
  have e1 : leN 1 (usesTo n ps).length = true := leN_t (by rw [usesTo_length]; omega)
  have e2 : leN (usesTo n ps).length 1048576 = true := leN_t (by rw [usesTo_length]; omega)
  refine ⟨?_, ?_⟩
  · simp only [loop_example_g00916_impl_Traffic_isSafe_0, loop_example_g00916_impl_Traffic_isSafe_1, safe_max n ps h]
  · simp only [loop_example_g00916_impl_Traffic_isSafe_0, loop_example_g00916_impl_Traffic_isSafe_1, h, e1, e2, allT, cond_true, Bool.and_self]

def N_loop_example_g00916_impl_Traffic_isSafe : List SV → List Entry → Option Out
  | [.one ⟨true, [.val (.int .i64 x0), .ref 0]⟩], [.row false 2 (.int .i64) x1] => some ⟨(.one ⟨false, [(.val (.bool (safeL x0 x1)))]⟩), [(.row false 2 (CTy.int IntKind.i64) x1)], [], [isT x0 x1]⟩
  | _, _ => none

def n_loop_example_g00916_impl_Traffic_isSafe : PF Tryz.prog := PF.alt p_loop_example_g00916_impl_Traffic_isSafe N_loop_example_g00916_impl_Traffic_isSafe (by
  intro args es o h hnd; unfold N_loop_example_g00916_impl_Traffic_isSafe at h; split at h
  · rename_i x0 x1
    cases h
    have hnd := nd_fst hnd
    have hh := isSafe_ok x0 x1 hnd
    obtain ⟨e0, en⟩ := hh
    exact altok rfl (nd_one en) (by simp only [e0] <;> rfl) rfl rfl
  · cases h)

end Go.SX

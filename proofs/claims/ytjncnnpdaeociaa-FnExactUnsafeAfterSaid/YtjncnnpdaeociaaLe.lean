/- The program's UnsafeAfter answers as the reference's: in plain words. -/
import Derived.Test.YtjncnnpdaeociaaRs
namespace Go.SX
open Go.Proofs
set_option maxRecDepth 100000

theorem szE_small {k : Int} {es : List (Int × Int × Int)} (h0 : 0 ≤ k) (h1 : k ≤ 1048576) (hn : es.length ≤ 9223372036854775807) (h : ltI (laws_szReplayEventS_0 k es) 0 = false) : (es.length : Int) ≤ 1048576 := by
  simp only [laws_szReplayEventS_0, laws_szReplayEventS_a0] at h
  rw [wrap_i64 (by omega) (by omega)] at h
  cases hq : ltI (k - (es.length : Int)) 0 with
  | true => rw [hq] at h; cases h
  | false => have := ltI_not.1 hq; omega

theorem eqFls_same (xs : List (Int × Int × Int)) : eqFls xs xs = true := by simp [eqFls]

theorem law_UnsafeAfter (n : Int) (ps : List Int) (es : List (Int × Int × Int)) (hn : ps.length ≤ 9223372036854775807) (hn2 : es.length ≤ 9223372036854775807) :
    laws_FnExactUnsafeAfter_0 n ps es = true ∧ laws_FnExactUnsafeAfter_1 n ps es = true := by
  have l0 : leN ps.length 9223372036854775807 = true := leN_t hn
  have l9 : leN es.length 9223372036854775807 = true := leN_t hn2
  cases ha : ltI (szV 1048576 ps) 0 with
  | true => simp [laws_FnExactUnsafeAfter_a0, laws_FnExactUnsafeAfter_a1, laws_FnExactUnsafeAfter_a2, laws_FnExactUnsafeAfter_a3, laws_FnExactUnsafeAfter_a4, laws_FnExactUnsafeAfter_0, laws_FnExactUnsafeAfter_1, ha, allT, l0]
  | false =>
    have h1 := szV_small ha
    have h2 := ltI_not.1 ha
    have h3 : szV 1048576 ps ≤ 1048576 := by unfold szV; cases ltI (1048576 - (ps.length : Int)) 0 <;> simp <;> omega
    cases hc : ltI (laws_szReplayEventS_0 (szV 1048576 ps) es) 0 with
    | true => simp [laws_FnExactUnsafeAfter_a0, laws_FnExactUnsafeAfter_a1, laws_FnExactUnsafeAfter_a2, laws_FnExactUnsafeAfter_a3, laws_FnExactUnsafeAfter_a4, laws_FnExactUnsafeAfter_0, laws_FnExactUnsafeAfter_1, ha, hc, allT, l0]
    | false =>
      have h4 := szE_small h2 h3 hn2 hc
      have l1 : leN ps.length 1048576 = true := leN_t (by omega)
      have l2 : leN es.length 1048576 = true := leN_t (by omega)
      simp only [laws_FnExactUnsafeAfter_a0, laws_FnExactUnsafeAfter_a1, laws_FnExactUnsafeAfter_a2, laws_FnExactUnsafeAfter_a3, laws_FnExactUnsafeAfter_a4, laws_FnExactUnsafeAfter_0, laws_FnExactUnsafeAfter_1, spec_UnsafeAfter_0, spec_UnsafeAfter_1, ha, hc, l0, l1, l2, l9, eqT_refl, eqFls_same, allT, Bool.cond_self, bne_self_eq_false, Bool.not_true, Bool.not_false, cond_true, cond_false, Bool.or_true, Bool.true_or, Bool.false_or, Bool.and_true, Bool.true_and]
      simp

end Go.SX

/- The program's FirstCollision answers as the reference's: in plain words. -/
import Derived.Test.YtjncnnpdaeociaaRo
namespace Go.SX
open Go.Proofs
set_option maxRecDepth 100000

theorem szF_small {k : Int} {fs : List (Int × Int × Int)} (h0 : 0 ≤ k) (h1 : k ≤ 1048576) (hn : fs.length ≤ 9223372036854775807) (h : ltI (laws_szSensorFaultS_0 k fs) 0 = false) : (fs.length : Int) ≤ 1048576 := by
  simp only [laws_szSensorFaultS_0, laws_szSensorFaultS_a0] at h
  rw [wrap_i64 (by omega) (by omega)] at h
  cases hq : ltI (k - (fs.length : Int)) 0 with
  | true => rw [hq] at h; cases h
  | false => have := ltI_not.1 hq; omega

theorem eqFls_refl (xs : List (Int × Int × Int)) : eqFls xs xs = true := by simp [eqFls]

theorem law_FirstCollision (n : Int) (ps : List Int) (fs : List (Int × Int × Int)) (ts : List Int) (hn : ps.length ≤ 9223372036854775807) (hn2 : fs.length ≤ 9223372036854775807) (_hn3 : ts.length ≤ 9223372036854775807) :
    laws_FnExactFirstCollision_0 n ps fs ts = true ∧ laws_FnExactFirstCollision_1 n ps fs ts = true := by
  have l0 : leN ps.length 9223372036854775807 = true := leN_t hn
  have l9 : leN fs.length 9223372036854775807 = true := leN_t hn2
  cases hb : ltI 1048576 (ts.length : Int) with
  | true => simp [laws_FnExactFirstCollision_a0, laws_FnExactFirstCollision_a1, laws_FnExactFirstCollision_a2, laws_FnExactFirstCollision_a3, laws_FnExactFirstCollision_a4, laws_FnExactFirstCollision_a5, laws_FnExactFirstCollision_a6, laws_FnExactFirstCollision_a7, laws_FnExactFirstCollision_0, laws_FnExactFirstCollision_1, hb, allT]
  | false =>
    have h0 := ltI_not.1 hb
    cases ha : ltI (szV 1048576 ps) 0 with
    | true => simp [laws_FnExactFirstCollision_a0, laws_FnExactFirstCollision_a1, laws_FnExactFirstCollision_a2, laws_FnExactFirstCollision_a3, laws_FnExactFirstCollision_a4, laws_FnExactFirstCollision_a5, laws_FnExactFirstCollision_a6, laws_FnExactFirstCollision_a7, laws_FnExactFirstCollision_0, laws_FnExactFirstCollision_1, ha, hb, allT, l0]
    | false =>
      have h1 := szV_small ha
      have h2 := ltI_not.1 ha
      have h3 : szV 1048576 ps ≤ 1048576 := by unfold szV; cases ltI (1048576 - (ps.length : Int)) 0 <;> simp <;> omega
      cases hc : ltI (laws_szSensorFaultS_0 (szV 1048576 ps) fs) 0 with
      | true => simp [laws_FnExactFirstCollision_a0, laws_FnExactFirstCollision_a1, laws_FnExactFirstCollision_a2, laws_FnExactFirstCollision_a3, laws_FnExactFirstCollision_a4, laws_FnExactFirstCollision_a5, laws_FnExactFirstCollision_a6, laws_FnExactFirstCollision_a7, laws_FnExactFirstCollision_0, laws_FnExactFirstCollision_1, ha, hb, hc, allT, l0]
      | false =>
        have h4 := szF_small h2 h3 hn2 hc
        have l1 : leN ps.length 1048576 = true := leN_t (by omega)
        have l2 : leN fs.length 1048576 = true := leN_t (by omega)
        have l4 : leN ts.length 1048576 = true := leN_t (by omega)
        have l5 : leN ts.length 9223372036854775807 = true := leN_t (by omega)
        simp only [laws_FnExactFirstCollision_a0, laws_FnExactFirstCollision_a1, laws_FnExactFirstCollision_a2, laws_FnExactFirstCollision_a3, laws_FnExactFirstCollision_a4, laws_FnExactFirstCollision_a5, laws_FnExactFirstCollision_a6, laws_FnExactFirstCollision_a7, laws_FnExactFirstCollision_0, laws_FnExactFirstCollision_1, spec_FirstCollision_0, spec_FirstCollision_1, spec_FirstCollision_2, ha, hb, hc, l0, l1, l2, l4, l5, l9, eqT_refl, eqL_refl, eqFls_refl, allT, Bool.cond_self, bne_self_eq_false, Bool.not_true, Bool.not_false, cond_true, cond_false, Bool.or_true, Bool.true_or, Bool.false_or, Bool.and_true, Bool.true_and]
        simp

end Go.SX

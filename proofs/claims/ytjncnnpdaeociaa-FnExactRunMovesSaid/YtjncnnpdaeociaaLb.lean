/- The program's AllowedMoves and RunMoves answer as the reference's: in plain words. -/
import Derived.Test.YtjncnnpdaeociaaRj
namespace Go.SX
open Go.Proofs
set_option maxRecDepth 100000

theorem law_AllowedMoves (n : Int) (ps : List Int) (hn : ps.length ≤ 9223372036854775807) : laws_FnExactAllowedMoves_0 n ps = true ∧ laws_FnExactAllowedMoves_1 n ps = true := by
  have l0 : leN ps.length 9223372036854775807 = true := leN_t hn
  cases ha : ltI (szV 1048576 ps) 0 with
  | true => simp [laws_FnExactAllowedMoves_a0, laws_FnExactAllowedMoves_a1, laws_FnExactAllowedMoves_a2, laws_FnExactAllowedMoves_a3, laws_FnExactAllowedMoves_a4, laws_FnExactAllowedMoves_a5, laws_FnExactAllowedMoves_a6, laws_FnExactAllowedMoves_a7, laws_FnExactAllowedMoves_a8, laws_FnExactAllowedMoves_0, laws_FnExactAllowedMoves_1, ha, allT, hn]
  | false =>
    have h1 := szV_small ha
    have h2 := alList_length n ps
    have m1 : mkOk 1 ps.length = true := mkOk_iff.2 (by omega)
    have m2 : mkOk 1 (alList n ps).length = true := mkOk_iff.2 (by omega)
    have e1 : ltI (1 + (ps.length : Int)) 0 = false := ltI_f (by omega)
    have e2 : ltI (1 + ((alList n ps).length : Int)) 0 = false := ltI_f (by omega)
    have l1 : leN ps.length 1048576 = true := leN_t (by omega)
    have l2 : leN (alList n ps).length 9223372036854775807 = true := leN_t (by omega)
    have l3 : leN (upFrom 1 (alList n ps).length).length 9223372036854775807 = true := by rw [upFrom_length]; exact l2
    simp only [laws_FnExactAllowedMoves_a0, laws_FnExactAllowedMoves_a1, laws_FnExactAllowedMoves_a2, laws_FnExactAllowedMoves_a3, laws_FnExactAllowedMoves_a4, laws_FnExactAllowedMoves_a5, laws_FnExactAllowedMoves_a6, laws_FnExactAllowedMoves_a7, laws_FnExactAllowedMoves_a8, laws_FnExactAllowedMoves_0, laws_FnExactAllowedMoves_1, ha, l0, l1, l2, l3, m1, m2, e1, e2, eqT_refl, eqL_refl, heldV_up 1 _ m2, allT, Bool.cond_self, bne_self_eq_false, Bool.not_true, Bool.not_false, cond_true, cond_false, Bool.or_true, Bool.true_or, Bool.false_or, Bool.and_true, Bool.true_and]
    simp

theorem rmP_length (n : Int) (ps ts : List Int) : (rmP n ps ts).length ≤ 4 := by
  unfold rmP
  cases h : rmOk n ps ts with
  | false => simp
  | true =>
    simp only [rmOk, Bool.and_eq_true] at h
    have := (isT_iff.1 h.1).2.1
    simp only [cond_true, runM_length]; omega

theorem law_RunMoves (n : Int) (ps ts : List Int) (hn : ps.length ≤ 9223372036854775807) (_hn2 : ts.length ≤ 9223372036854775807) : laws_FnExactRunMoves_0 n ps ts = true ∧ laws_FnExactRunMoves_1 n ps ts = true := by
  have l0 : leN ps.length 9223372036854775807 = true := leN_t hn
  cases hb : ltI 1048576 (ts.length : Int) with
  | true => simp [laws_FnExactRunMoves_a0, laws_FnExactRunMoves_a1, laws_FnExactRunMoves_a2, laws_FnExactRunMoves_a3, laws_FnExactRunMoves_a4, laws_FnExactRunMoves_a5, laws_FnExactRunMoves_a6, laws_FnExactRunMoves_a7, laws_FnExactRunMoves_a8, laws_FnExactRunMoves_a9, laws_FnExactRunMoves_a10, laws_FnExactRunMoves_a11, laws_FnExactRunMoves_a12, laws_FnExactRunMoves_0, laws_FnExactRunMoves_1, hb, allT]
  | false =>
    have h0 := ltI_not.1 hb
    cases ha : ltI (szV 1048576 ps) 0 with
    | true => simp [laws_FnExactRunMoves_a0, laws_FnExactRunMoves_a1, laws_FnExactRunMoves_a2, laws_FnExactRunMoves_a3, laws_FnExactRunMoves_a4, laws_FnExactRunMoves_a5, laws_FnExactRunMoves_a6, laws_FnExactRunMoves_a7, laws_FnExactRunMoves_a8, laws_FnExactRunMoves_a9, laws_FnExactRunMoves_a10, laws_FnExactRunMoves_a11, laws_FnExactRunMoves_a12, laws_FnExactRunMoves_0, laws_FnExactRunMoves_1, ha, hb, allT, hn]
    | false =>
      have h1 := szV_small ha
      have h2 := rmP_length n ps ts
      have m1 : mkOk 1 ps.length = true := mkOk_iff.2 (by omega)
      have m2 : mkOk 1 (rmP n ps ts).length = true := mkOk_iff.2 (by omega)
      have m3 : mkOk (1 + (ps.length : Int)) ts.length = true := mkOk_iff.2 (by omega)
      have e1 : ltI (1 + (ps.length : Int) + (ts.length : Int)) 0 = false := ltI_f (by omega)
      have e2 : ltI (1 + ((rmP n ps ts).length : Int)) 0 = false := ltI_f (by omega)
      have l1 : leN ps.length 1048576 = true := leN_t (by omega)
      have l4 : leN ts.length 1048576 = true := leN_t (by omega)
      have l5 : leN ts.length 9223372036854775807 = true := leN_t (by omega)
      have l2 : leN (rmP n ps ts).length 9223372036854775807 = true := leN_t (by omega)
      have l3 : leN (upFrom 1 (rmP n ps ts).length).length 9223372036854775807 = true := by rw [upFrom_length]; exact l2
      simp only [laws_FnExactRunMoves_a0, laws_FnExactRunMoves_a1, laws_FnExactRunMoves_a2, laws_FnExactRunMoves_a3, laws_FnExactRunMoves_a4, laws_FnExactRunMoves_a5, laws_FnExactRunMoves_a6, laws_FnExactRunMoves_a7, laws_FnExactRunMoves_a8, laws_FnExactRunMoves_a9, laws_FnExactRunMoves_a10, laws_FnExactRunMoves_a11, laws_FnExactRunMoves_a12, laws_FnExactRunMoves_0, laws_FnExactRunMoves_1, ha, hb, l0, l1, l2, l3, l4, l5, m1, m2, m3, e1, e2, eqT_refl, eqL_refl, heldV1_up 1 _ m2, allT, Bool.cond_self, bne_self_eq_false, Bool.not_true, Bool.not_false, cond_true, cond_false, Bool.or_true, Bool.true_or, Bool.false_or, Bool.and_true, Bool.true_and]
      simp

end Go.SX

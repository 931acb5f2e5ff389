/- The program's MovedTrain answers as the reference's: in plain words. -/
import Derived.Test.YtjncnnpdaeociaaRc
namespace Go.SX
open Go.Proofs
set_option maxRecDepth 100000

theorem law_MovedTrain (n : Int) (ps : List Int) (t : Int) (hn : ps.length ≤ 9223372036854775807) : laws_FnExactMovedTrain_0 n t ps = true ∧ laws_FnExactMovedTrain_1 n t ps = true := by
  have l0 : leN ps.length 9223372036854775807 = true := leN_t hn
  cases ha : ltI (szV 1048576 ps) 0 with
  | true => simp [laws_FnExactMovedTrain_a0, laws_FnExactMovedTrain_a1, laws_FnExactMovedTrain_a2, laws_FnExactMovedTrain_a3, laws_FnExactMovedTrain_a4, laws_FnExactMovedTrain_a5, laws_FnExactMovedTrain_a6, laws_FnExactMovedTrain_a7, laws_FnExactMovedTrain_a8, laws_FnExactMovedTrain_a9, laws_FnExactMovedTrain_0, laws_FnExactMovedTrain_1, ha, l0, allT, hn]
  | false =>
    have h1 := szV_small ha
    have h2 := mvP_length n ps t
    have m1 : mkOk 1 ps.length = true := mkOk_iff.2 (by omega)
    have m2 : mkOk 1 (mvP n ps t).length = true := mkOk_iff.2 (by omega)
    have e1 : ltI (1 + (ps.length : Int)) 0 = false := ltI_f (by omega)
    have e2 : ltI (1 + ((mvP n ps t).length : Int)) 0 = false := ltI_f (by omega)
    have l1 : leN ps.length 1048576 = true := leN_t (by omega)
    have l2 : leN (mvP n ps t).length 9223372036854775807 = true := leN_t (by omega)
    have l3 : leN (upFrom 1 (mvP n ps t).length).length 9223372036854775807 = true := by rw [upFrom_length]; exact l2
    simp only [laws_FnExactMovedTrain_a0, laws_FnExactMovedTrain_a1, laws_FnExactMovedTrain_a2, laws_FnExactMovedTrain_a3, laws_FnExactMovedTrain_a4, laws_FnExactMovedTrain_a5, laws_FnExactMovedTrain_a6, laws_FnExactMovedTrain_a7, laws_FnExactMovedTrain_a8, laws_FnExactMovedTrain_a9, laws_FnExactMovedTrain_0, laws_FnExactMovedTrain_1, ha, l0, l1, l2, l3, m1, m2, e1, e2, eqT_refl, heldV1_up 1 _ m2, allT, Bool.cond_self, bne_self_eq_false, Bool.not_true, Bool.not_false, cond_true, cond_false, Bool.or_true, Bool.true_or, Bool.false_or, Bool.and_true, Bool.true_and]
    simp

end Go.SX

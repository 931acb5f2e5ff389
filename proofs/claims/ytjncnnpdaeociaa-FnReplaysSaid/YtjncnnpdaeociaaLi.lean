/- With tolerated sensor faults, permitted moves never lead from a safe traffic to one that is not; and replays without a blind block: in plain words. -/
import Derived.Test.YtjncnnpdaeociaaRx
import Derived.Test.YtjncnnpdaeociaaLh
namespace Go.SX
open Go.Proofs
set_option maxRecDepth 100000

theorem implSafeQ (n : Int) (ps : List Int) : impl_IsSafeTraffic_q2400_0 n ps = isSf n ps ∧ impl_IsSafeTraffic_q2400_1 n ps = true := by
  simp only [impl_IsSafeTraffic_q2400_0, impl_IsSafeTraffic_q2400_1, isSf, allT]
  cases isT n ps <;> simp

theorem rvEnd_length (n : Int) : ∀ (es : List (Int × Int × Int)) (s : List Int × List Int), (rvEnd n es s).1.length = s.1.length ∧ (rvEnd n es s).2.length = s.2.length
  | [], s => ⟨rfl, rfl⟩
  | e :: es, s => by
    obtain ⟨h1, h2⟩ := rvEnd_length n es (rvN n s e)
    show (rvEnd n es (rvN n s e)).1.length = _ ∧ (rvEnd n es (rvN n s e)).2.length = _
    rw [h1, h2]
    unfold rvN
    cases e.1 == 0 <;> simp [movL_length]

theorem law_Replays (c : List Int) (hb : ∀ (i : Nat) (x : Int), c[i]? = some x → 0 ≤ x ∧ x ≤ 255) :
    laws_FnReplays_0 c = true ∧ laws_FnReplays_1 c = true := by
  cases hbig : laws_big_0 c with
  | true => simp [laws_FnReplays_0, laws_FnReplays_1, allT, hbig]
  | false =>
    have hsrc := src_of hb hbig
    obtain ⟨_, hl1, hl2⟩ := drawRunReplay_ok c hsrc
    generalize hN : spec_DrawRunReplay_0 c = n
    generalize hP : spec_DrawRunReplay_1 c = ps at hl1
    generalize hE : spec_DrawRunReplay_2 c = es at hl2
    have hrl : (rvP n ps es).length ≤ 9 := by
      unfold rvP
      cases rvGood n ps es with
      | true => rw [cond_true, (rvEnd_length n es _).1]; exact hl1
      | false => simp
    have hrs : (rvS n ps es).length ≤ 8 := by
      unfold rvS
      cases hg : rvGood n ps es with
      | true =>
        have hn := (isT_iff.1 (rvGood_ok hg).1).1
        rw [cond_true, (rvEnd_length n es _).2]
        simp only [rv0, List.length_replicate]; omega
      | false => simp
    have m1 : leN (rvP n ps es).length 9223372036854775807 = true := leN_t (by omega)
    have m2 : leN (rvS n ps es).length 9223372036854775807 = true := leN_t (by omega)
    have a0 : laws_FnReplays_a0 c = false := by simp only [laws_FnReplays_a0, hN, hP, hE, spec_RunReplay_1, bne_self_eq_false]
    have a1 : laws_FnReplays_a1 c = false := by simp only [laws_FnReplays_a1, a0, hN, hP, hE, spec_RunReplay_0, spec_RunReplay_2, eqT_refl, cond_false, Bool.not_true]
    have a2 : laws_FnReplays_a2 c = false := by
      simp only [laws_FnReplays_a2, a1, hN, hP, hE, spec_RunReplay_3, spec_UnsafeAfter_0, spec_UnsafeAfter_1, eqL_refl, bne_self_eq_false, cond_false, Bool.not_true]
    have a3 : laws_FnReplays_a3 c = (rvCode n ps es != 0) := by simp only [laws_FnReplays_a3, hN, hP, hE]
    have a4 : laws_FnReplays_a4 c = rvS n ps es := by simp only [laws_FnReplays_a4, hN, hP, hE, spec_RunReplay_3, Bool.cond_self]
    have a5 : laws_FnReplays_a5 c = (bif rvCode n ps es != 0 then true else hasI 3 (rvS n ps es)) := by simp only [laws_FnReplays_a5, a3, a4]
    have a6 : laws_FnReplays_a6 c = (rvF n ps es == -1) := by simp only [laws_FnReplays_a6, hN, hP, hE]
    simp only [laws_FnReplays_0, laws_FnReplays_1, allT, hbig, hsrc, a0, a1, a2, a3, a4, a5, a6, hN, hP, hE, m1, m2, (implSafeQ _ _).1, (implSafeQ _ _).2, Bool.or_true, Bool.true_or, Bool.false_or, cond_true, cond_false, and_true]
    cases hg : rvGood n ps es with
    | false =>
      have h1 : (rvCode n ps es != 0) = true := by simp only [rvGood] at hg; simpa using eqI_not.1 hg
      simp [h1]
    | true =>
      have h1 : (rvCode n ps es != 0) = false := by simp only [rvGood] at hg; simpa using eqI_iff.1 hg
      obtain ⟨hT, hl, he, hok⟩ := rvGood_ok hg
      cases h3 : hasI 3 (rvS n ps es) with
      | true => simp [h1]
      | false =>
        cases hsf : isSf n ps with
        | false => simp [h1]
        | true =>
          have hn := isT_iff.1 hT
          have hs := (isSf_iff.1 hsf).2
          have hbl : 3 ∉ (rvEnd n es (rv0 n ps)).2 := by
            intro hm
            have : hasI 3 (rvS n ps es) = true := hasI_iff.2 (by simp only [rvS, hg, cond_true]; exact hm)
            rw [h3] at this; cases this
          obtain ⟨q1, q2⟩ := ok_replay (ps0 := ps) es (rv0 n ps) hT rfl (by simp only [rv0, List.length_replicate]; omega) hs he hok hbl
          have e1 : rvF n ps es = -1 := by simp only [rvF, hg, cond_true]; exact fst_none (rvTr_isT es _ hT) q1
          have e2 : rvNn n ps es = n := by simp only [rvNn, hg, cond_true]
          have e3 : rvP n ps es = (rvEnd n es (rv0 n ps)).1 := by simp only [rvP, hg, cond_true]
          simp [h1, e1, e2, e3, q2]

end Go.SX

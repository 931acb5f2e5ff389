/- With tolerated sensor faults, permitted moves never lead from a safe traffic to one that is not; and replays without a blind block: in plain words. -/
import Derived.Test.YtjncnnpdaeociaaRx
import Derived.Test.YtjncnnpdaeociaaLh
namespace Go.SX
open Go.Proofs
set_option maxRecDepth 100000

theorem implSafeQ (n : Int) (ps : List Int) : impl_IsSafeTraffic_q2400_0 n ps = isSf n ps ∧ impl_IsSafeTraffic_q2400_1 n ps = true := by
  simp only [impl_IsSafeTraffic_q2400_0, impl_IsSafeTraffic_q2400_1, isSf, allT]
  cases isT n ps <;> simp

theorem endL_length (n : Int) : ∀ (ts ps : List Int), (endL n ts ps).length = ps.length
  | [], ps => rfl
  | t :: ts, ps => by show (endL n ts (movL n ps t)).length = _; rw [endL_length n ts, movL_length]

theorem ctP_length (n : Int) (ps : List Int) (fs : List (Int × Int × Int)) (ts : List Int) : (ctP n ps fs ts).length ≤ ps.length := by
  unfold ctP
  cases ctOk n ps fs ts with
  | true => simp only [cond_true, endL_length]; omega
  | false => simp

theorem rm_ok {n : Int} {ps ts : List Int} (hT : isT n ps = true) (hl : ts.length ≤ 200) (ht : ∀ t ∈ ts, hasT ps t = true) (hs : isSf n (runM n ts ps) = true) :
    rmCode n ps ts = 0 ∧ rmN n ps ts = n ∧ rmP n ps ts = runM n ts ps := by
  have h1 : leN ts.length 200 = true := leN_t hl
  have h2 : ts.all (hasT ps) = true := List.all_eq_true.2 ht
  have h3 : rmOk n ps ts = true := by simp only [rmOk, hT, h1, h2, hs, Bool.and_self]
  refine ⟨?_, by simp only [rmN, h3, cond_true], by simp only [rmP, h3, cond_true]⟩
  simp only [rmCode, hT, h1, h2, hs, cond_true]

theorem law_Interlock (c : List Int) (hb : ∀ (i : Nat) (x : Int), c[i]? = some x → 0 ≤ x ∧ x ≤ 255) :
    laws_FnInterlock_0 c = true ∧ laws_FnInterlock_1 c = true := by
  cases hbig : laws_big_0 c with
  | true => simp [laws_FnInterlock_0, laws_FnInterlock_1, allT, hbig]
  | false =>
    have hsrc := src_of hb hbig
    obtain ⟨_, hl1, hl2, hl3⟩ := drawFirst_ok c hsrc
    generalize hN : spec_DrawFirstCollision_0 c = n
    generalize hP : spec_DrawFirstCollision_1 c = ps at hl1
    generalize hF : spec_DrawFirstCollision_2 c = fs at hl2
    generalize hU : spec_DrawFirstCollision_3 c = ts at hl3
    have m1 : leN fs.length 9223372036854775807 = true := leN_t (by omega)
    have m2 : leN (ctP n ps fs ts).length 9223372036854775807 = true := leN_t (by have := ctP_length n ps fs ts; omega)
    have m3 : spec_FirstCollision_2 fs = true := by simp only [spec_FirstCollision_2, allT, m1, cond_true]
    have m4 : spec_ControlledRun_3 fs = true := by simp only [spec_ControlledRun_3, allT, m1, cond_true]
    have a0 : laws_FnInterlock_a0 c = false := by
      simp only [laws_FnInterlock_a0, hN, hP, hF, hU, spec_FirstCollision_0, spec_FirstCollision_1, spec_ControlledRun_1, bne_self_eq_false, cond_false]
    have a1 : laws_FnInterlock_a1 c = false := by
      simp only [laws_FnInterlock_a1, a0, hN, hP, hF, hU, spec_ControlledRun_0, spec_ControlledRun_2, eqT_refl, cond_false, Bool.not_true]
    have a2 : laws_FnInterlock_a2 c = (ctCode n ps fs ts != 0) := by simp only [laws_FnInterlock_a2, hN, hP, hF, hU]
    have a3 : laws_FnInterlock_a3 c = (bif (bif ctCode n ps fs ts != 0 then true else !isSf n ps) then true else !(inR n 2 8 && (okFs n fs && tolF fs))) := by
      simp only [laws_FnInterlock_a3, a2, hN, hP, hF, (implSafeQ _ _).1]
    have a4 : laws_FnInterlock_a4 c = (ctF n ps fs ts == -1) := by simp only [laws_FnInterlock_a4, hN, hP, hF, hU]
    have a5 : laws_FnInterlock_a5 c = (bif (bif ctF n ps fs ts == -1 then isSf (ctN n ps fs ts) (ctP n ps fs ts) else false) then rmCode n ps ts == 0 else false) := by
      simp only [laws_FnInterlock_a5, a4, hN, hP, hF, hU, (implSafeQ _ _).1]
    have a6 : laws_FnInterlock_a6 c = true := by simp only [laws_FnInterlock_a6, hF, m1]
    simp only [laws_FnInterlock_0, laws_FnInterlock_1, allT, hbig, hsrc, a0, a1, a2, a3, a4, a5, a6, hN, hP, hF, hU, m2, m3, m4, (implSafeQ _ _).1, (implSafeQ _ _).2, Bool.or_true, Bool.true_or, Bool.false_or, cond_true, cond_false]
    have l1 : leN ps.length 9223372036854775807 = true := leN_t (by omega)
    have l2 : leN (rmP n ps ts).length 9223372036854775807 = true := leN_t (by
      unfold rmP
      cases rmOk n ps ts with
      | true => rw [cond_true, runM_length]; omega
      | false => simp)
    simp only [l1, l2, Bool.or_true, cond_true, and_true]
    cases hg : ctOk n ps fs ts with
    | false =>
      have h1 : (ctCode n ps fs ts != 0) = true := by simp only [ctOk] at hg; simpa using eqI_not.1 hg
      simp [h1]
    | true =>
      have h1 : (ctCode n ps fs ts != 0) = false := by simp only [ctOk] at hg; simpa using eqI_iff.1 hg
      obtain ⟨hT, hl, hFo, ht, hok⟩ := ctOk_ok hg
      cases hsf : isSf n ps with
      | false => simp [h1]
      | true =>
        cases htol : tolF fs with
        | false => simp [h1]
        | true =>
          have hn := (isT_iff.1 hT).1
          have hs := (isSf_iff.1 hsf).2
          obtain ⟨q1, q2, q3⟩ := ok_run (fun f hf => ((okFs_in hn hFo).2 f hf).1.1) htol ts ps hT hs ht hok
          have e1 : ctF n ps fs ts = -1 := by simp only [ctF, hg, cond_true]; exact fst_none (trL_isT ts ps hT) q1
          have e2 : ctN n ps fs ts = n := by simp only [ctN, hg, cond_true]
          have e3 : ctP n ps fs ts = endL n ts ps := by simp only [ctP, hg, cond_true]
          obtain ⟨r1, r2, r3⟩ := rm_ok hT hl ht (by rw [q3]; exact q2)
          simp [h1, inR_iff.2 hn, hFo, e1, e2, e3, q2, r1, r2, r3, q3, eqT_refl]

end Go.SX

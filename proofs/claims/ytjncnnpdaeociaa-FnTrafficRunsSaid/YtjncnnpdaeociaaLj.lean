/- Running moves in two parts is running them at once, and the traffic stays safe: in plain words. -/
import Derived.Test.YtjncnnpdaeociaaRy
import Derived.Test.YtjncnnpdaeociaaLh
namespace Go.SX
open Go.Proofs
set_option maxRecDepth 100000

theorem rmCode_ok {n : Int} {ps ts : List Int} (h : rmCode n ps ts = 0) : isT n ps = true ∧ ts.length ≤ 200 ∧ (∀ t ∈ ts, hasT ps t = true) ∧ isSf n (runM n ts ps) = true := by
  simp only [rmCode] at h
  cases h1 : isT n ps with
  | false => simp [h1] at h
  | true =>
    cases h2 : leN ts.length 200 with
    | false => simp [h1, h2] at h
    | true =>
      cases h3 : ts.all (hasT ps) with
      | false => simp only [h1, h2, h3, cond_true, cond_false] at h; cases h
      | true =>
        cases h4 : isSf n (runM n ts ps) with
        | false => simp only [h1, h2, h3, h4, cond_true, cond_false] at h; cases h
        | true => exact ⟨rfl, leN_iff.1 h2, List.all_eq_true.1 h3, rfl⟩

theorem rm_all {n : Int} {ps ts : List Int} (hT : isT n ps = true) (hl : ts.length ≤ 200) (ht : ∀ t ∈ ts, hasT ps t = true) (hs : isSf n (runM n ts ps) = true) :
    rmCode n ps ts = 0 ∧ rmN n ps ts = n ∧ rmP n ps ts = runM n ts ps := by
  have h1 : leN ts.length 200 = true := leN_t hl
  have h2 : ts.all (hasT ps) = true := List.all_eq_true.2 ht
  have h3 : rmOk n ps ts = true := by simp only [rmOk, hT, h1, h2, hs, Bool.and_self]
  refine ⟨?_, by simp only [rmN, h3, cond_true], by simp only [rmP, h3, cond_true]⟩
  simp only [rmCode, hT, h1, h2, hs, cond_true]

theorem law_TrafficRuns (c : List Int) (hb : ∀ (i : Nat) (x : Int), c[i]? = some x → 0 ≤ x ∧ x ≤ 255) :
    laws_FnTrafficRuns_0 c = true ∧ laws_FnTrafficRuns_1 c = true := by
  cases hbig : laws_big_0 c with
  | true => simp [laws_FnTrafficRuns_0, laws_FnTrafficRuns_1, laws_FnTrafficRuns_a12, laws_FnTrafficRuns_a13, allT, hbig]
  | false =>
    have hsrc := src_of hb hbig
    obtain ⟨_, hl1, hl2⟩ := drawRunMoves_ok c hsrc
    have hcl := (src_iff.1 hsrc).2.2
    generalize hN : spec_DrawRunMoves_0 c = n
    generalize hP : spec_DrawRunMoves_1 c = ps at hl1
    generalize hU : spec_DrawRunMoves_2 c = ts at hl2
    have e3 : laws_FnTrafficRuns_a3 c = (ts.length : Int) + 1 := by simp only [laws_FnTrafficRuns_a3, hU]; rw [wrap_i64 (by omega) (by omega)]
    have hk := below_in (n := (ts.length : Int) + 1) (a := 0) (s := rlS 1001 c) (code := c) (by omega) hcl.2
    have e4 : laws_FnTrafficRuns_a4 c = blV ((ts.length : Int) + 1) 0 (rlS 1001 c) c := by simp only [laws_FnTrafficRuns_a4, e3]
    generalize blV ((ts.length : Int) + 1) 0 (rlS 1001 c) c = K at hk e4
    have hlen : ∀ us : List Int, (rmP n ps us).length ≤ 9 := fun us => by
      unfold rmP
      cases rmOk n ps us with
      | true => rw [cond_true, runM_length]; exact hl1
      | false => simp
    have hlen2 : ∀ (m : Int) (us vs : List Int), (rmP m (rmP n ps us) vs).length ≤ 9 := fun m us vs => by
      have := hlen us
      unfold rmP
      cases rmOk m _ vs with
      | true => rw [cond_true, runM_length]; exact this
      | false => simp
    have m1 : leN (rmP n ps ts).length 9223372036854775807 = true := leN_t (by have := hlen ts; omega)
    have m2 : leN c.length 4096 = true := leN_t hcl.1
    have m3 : leI 1 ((ts.length : Int) + 1) = true := leI_t (by omega)
    have m4 : leI 0 K = true := leI_t hk.1
    have m5 : leI K (ts.length : Int) = true := leI_t (by omega)
    have a0 : laws_FnTrafficRuns_a0 c = false := by simp only [laws_FnTrafficRuns_a0, bne_self_eq_false]
    have a1 : laws_FnTrafficRuns_a1 c = false := by simp only [laws_FnTrafficRuns_a1, a0, eqT_refl, cond_false, Bool.not_true]
    have a2 : laws_FnTrafficRuns_a2 c = (rmCode n ps ts != 0) := by simp only [laws_FnTrafficRuns_a2, hN, hP, hU]
    have a5 : laws_FnTrafficRuns_a5 c = ts.take K.toNat := by simp only [laws_FnTrafficRuns_a5, e4, hU, Int.toNat_zero, List.drop_zero]
    have a6 : laws_FnTrafficRuns_a6 c = ts.drop K.toNat := by simp only [laws_FnTrafficRuns_a6, e4, hU, Int.toNat_natCast, List.take_length]
    have a7 : laws_FnTrafficRuns_a7 c = (bif rmCode n ps (ts.take K.toNat) == 0 then rmCode (rmN n ps (ts.take K.toNat)) (rmP n ps (ts.take K.toNat)) (ts.drop K.toNat) == 0 else false) := by
      simp only [laws_FnTrafficRuns_a7, a5, a6, hN, hP]
    have a8 : laws_FnTrafficRuns_a8 c = rmP (rmN n ps (ts.take K.toNat)) (rmP n ps (ts.take K.toNat)) (ts.drop K.toNat) := by simp only [laws_FnTrafficRuns_a8, a5, a6, hN, hP]
    have a9 : laws_FnTrafficRuns_a9 c = rmP n ps ts := by simp only [laws_FnTrafficRuns_a9, hN, hP, hU, Bool.cond_self]
    have a10 : laws_FnTrafficRuns_a10 c = (bif laws_FnTrafficRuns_a7 c then eqT (rmN (rmN n ps (ts.take K.toNat)) (rmP n ps (ts.take K.toNat)) (ts.drop K.toNat)) (rmN n ps ts) (laws_FnTrafficRuns_a8 c) (rmP n ps ts) else false) := by
      simp only [laws_FnTrafficRuns_a10, a5, a6, a9, hN, hP, hU]
    have a11 : laws_FnTrafficRuns_a11 c = (bif laws_FnTrafficRuns_a10 c then isSf (rmN n ps (ts.take K.toNat)) (rmP n ps (ts.take K.toNat)) else false) := by
      simp only [laws_FnTrafficRuns_a11, a5, hN, hP, (implSafe_ok _ _).1]
    have m6 : leN (laws_FnTrafficRuns_a8 c).length 9223372036854775807 = true := leN_t (by rw [a8]; have := hlen2 (rmN n ps (ts.take K.toNat)) (ts.take K.toNat) (ts.drop K.toNat); omega)
    have m7 : leN (rmP n ps (ts.take K.toNat)).length 9223372036854775807 = true := leN_t (by have := hlen (ts.take K.toNat); omega)
    refine ⟨?_, ?_⟩
    · simp only [laws_FnTrafficRuns_0, hbig, a1, a2, a9, hN, hP, hU, (implSafe_ok _ _).1, Bool.cond_self, cond_false]
      by_cases hc : rmCode n ps ts = 0
      · obtain ⟨hT, hl, ht, hs⟩ := rmCode_ok hc
        have hcat : ts.take K.toNat ++ ts.drop K.toNat = ts := List.take_append_drop _ _
        have hs1 : isSf n (runM n (ts.take K.toNat) ps) = true := runM_pre n _ (ts.drop K.toNat) ps (by rw [hcat]; exact hs)
        have hap : runM n ts ps = runM n (ts.drop K.toNat) (runM n (ts.take K.toNat) ps) := by
          have := runM_append n (ts.take K.toNat) (ts.drop K.toNat) ps hs1
          rwa [hcat] at this
        obtain ⟨b1, b2, b3⟩ := rm_all hT (by rw [List.length_take]; omega) (fun t h => ht t (List.mem_of_mem_take h)) hs1
        obtain ⟨d1, d2, d3⟩ := rm_all (n := n) (ps := runM n (ts.take K.toNat) ps) (ts := ts.drop K.toNat) (isSf_iff.1 hs1).1 (by rw [List.length_drop]; omega)
          (fun t h => by have := hasT_iff.1 (ht t (List.mem_of_mem_drop h)); exact hasT_iff.2 (by rw [runM_length]; omega)) (by rw [← hap]; exact hs)
        obtain ⟨f1, f2, f3⟩ := rm_all hT hl ht hs
        simp [a11, a10, a8, a7, b1, b2, b3, d1, d2, d3, f1, f2, f3, ← hap, hs, hs1, eqT_refl]
      · have h1 : (rmCode n ps ts != 0) = true := by simpa using hc
        simp [h1]
    · have a12 : laws_FnTrafficRuns_a12 c = true := by simp only [laws_FnTrafficRuns_a12, e4, m4, Bool.or_true]
      have a13 : laws_FnTrafficRuns_a13 c = true := by simp only [laws_FnTrafficRuns_a13, e4, hU, m5, Bool.or_true]
      have z0 : leI 0 0 = true := by decide
      simp only [laws_FnTrafficRuns_1, allT, hsrc, hN, hP, hU, e3, m1, m2, m3, m6, a12, a13, z0, leI_self, (implSafe_ok _ _).2, Bool.and_self, Bool.or_true, cond_true]

end Go.SX

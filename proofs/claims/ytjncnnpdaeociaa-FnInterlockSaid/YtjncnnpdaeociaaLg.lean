/- Permitted moves and tolerated faults, plain: what is safe stays safe. -/
import Derived.Test.YtjncnnpdaeociaaLd
import Derived.Test.YtjncnnpdaeociaaNr
namespace Go.SX
open Go.Proofs
set_option maxRecDepth 100000

theorem fold_zero (ch : Int) (b : Nat) : ∀ (fs : List (Int × Int × Int)) (l : List Int), (fs.foldl (setF ch) l)[b]?.getD 0 = 0 →
    l[b]?.getD 0 = 0 ∨ ∃ f ∈ fs, f.2.1 = ch ∧ f.1.toNat = b ∧ f.2.2 = 0
  | [], l, h => .inl h
  | f :: fs, l, h => by
    rcases fold_zero ch b fs (setF ch l f) h with h1 | ⟨g, hg, h2⟩
    · unfold setF at h1
      cases hc : f.2.1 == ch with
      | false => rw [hc] at h1; exact .inl h1
      | true =>
        rw [hc, cond_true, List.getElem?_set] at h1
        by_cases hb : f.1.toNat = b
        · rw [if_pos hb] at h1
          by_cases hl : f.1.toNat < l.length
          · rw [if_pos hl] at h1
            exact .inr ⟨f, by simp, by simpa using hc, hb, by simpa using h1⟩
          · left
            rw [List.getElem?_eq_none (by omega)]; rfl
        · rw [if_neg hb] at h1; exact .inl h1
    · exact .inr ⟨g, by simp [hg], h2⟩

theorem base_zero {n : Int} {ps : List Int} {b : Nat} (hb : b < n.toNat) (h : (baseL n ps)[b]?.getD 0 = 0) : cntB n ps (b : Int) = 0 := by
  simp only [baseL, List.getElem?_map, List.getElem?_range hb, Option.map_some, Option.getD_some, occ] at h
  cases hl : ltI (cntB n ps (b : Int) : Int) 1 with
  | true => rw [hl] at h; simp at h; exact h
  | false => rw [hl] at h; simp at h

theorem tolA_spec : ∀ (fs : List (Int × Int × Int)) (a : List Int), tolA fs a = true →
    (∀ f ∈ fs, f.2.2 = 0 → f.1 ∉ a) ∧ fs.Pairwise (fun f g => f.2.2 = 0 → g.2.2 = 0 → f.1 ≠ g.1)
  | [], a, _ => ⟨by simp, List.Pairwise.nil⟩
  | f :: fs, a, h => by
    simp only [tolA] at h
    cases hz : f.2.2 == 0 with
    | false =>
      rw [hz, cond_false] at h
      obtain ⟨h1, h2⟩ := tolA_spec fs a h
      have hne : f.2.2 ≠ 0 := by simpa using hz
      exact ⟨fun g hg => by
        rcases List.mem_cons.1 hg with rfl | hg
        · exact fun h => absurd h hne
        · exact h1 g hg, List.Pairwise.cons (fun g _ h => absurd h hne) h2⟩
    | true =>
      rw [hz, cond_true, Bool.and_eq_true] at h
      obtain ⟨h1, h2⟩ := tolA_spec fs (a ++ [f.1]) h.2
      have hf : f.1 ∉ a := fun hm => by
        have h0 := h.1
        simp only [Bool.not_eq_true', hasI, List.any_eq_false] at h0
        exact h0 f.1 hm (by simp)
      refine ⟨fun g hg hg0 => ?_, List.Pairwise.cons (fun g hg _ hg0 he => ?_) h2⟩
      · rcases List.mem_cons.1 hg with rfl | hg
        · exact hf
        · exact fun hm => h1 g hg hg0 (by simp [hm])
      · exact h1 g hg hg0 (by simp [he])

theorem pw_of {C : Type} {R : C → C → Prop} (hs : ∀ a b, R a b → R b a) : ∀ (l : List C), l.Pairwise R → ∀ a ∈ l, ∀ b ∈ l, a ≠ b → R a b
  | [], _, a, ha, _, _ => by cases ha
  | x :: l, h, a, ha, b, hb => by
    rw [List.pairwise_cons] at h
    intro hne
    rcases List.mem_cons.1 ha with rfl | ha' <;> rcases List.mem_cons.1 hb with rfl | hb'
    · exact absurd rfl hne
    · exact h.1 b hb'
    · exact hs _ _ (h.1 a ha')
    · exact pw_of hs l h.2 a ha' b hb' hne

/-- Where both channels say that a block is clear and faults are tolerated, no train uses it. -/
theorem chan_free {n b : Int} {ps : List Int} {fs : List (Int × Int × Int)} (hF : ∀ f ∈ fs, 0 ≤ f.1) (htol : tolF fs = true) (hb : 0 ≤ b ∧ b < n)
    (h0 : (chanL n ps fs 0)[b.toNat]?.getD 0 = 0) (h1 : (chanL n ps fs 1)[b.toNat]?.getD 0 = 0) : cntB n ps b = 0 := by
  have hn : b.toNat < n.toNat := by omega
  have hbb : ((b.toNat : Nat) : Int) = b := by omega
  rcases fold_zero 0 b.toNat fs _ h0 with h | ⟨f, hf, f1, f2, f3⟩
  · have := base_zero hn h; rwa [hbb] at this
  · rcases fold_zero 1 b.toNat fs _ h1 with h | ⟨g, hg, g1, g2, g3⟩
    · have := base_zero hn h; rwa [hbb] at this
    · exfalso
      have hne : f ≠ g := fun h => by rw [h, g1] at f1; exact absurd f1 (by decide)
      have := pw_of (fun a b h ha hb he => h hb ha he.symm) fs (tolA_spec fs [] htol).2 f hf g hg hne f3 g3
      have a1 := hF f hf
      have a2 := hF g hg
      omega

/-- A permitted move keeps a traffic safe where faults are tolerated. -/
theorem okMv_safe {n t : Int} {ps : List Int} {fs : List (Int × Int × Int)} (hT : isT n ps = true) (hs : safeL n ps = true) (ht : hasT ps t = true) (hF : ∀ f ∈ fs, 0 ≤ f.1) (htol : tolF fs = true) (hm : okMv n fs ps t = true) :
    safeL n (movL n ps t) = true := by
  refine safe_mov hT hs ht fun hp => ?_
  have h1 := isT_iff.1 hT
  have h2 := hasT_iff.1 ht
  have hlt : t.toNat < ps.length := by omega
  have e0 : ps[t.toNat]?.getD 0 = ps[t.toNat] := by rw [List.getElem?_eq_getElem hlt]; rfl
  have h3 := h1.2.2 _ (List.getElem_mem hlt)
  have hb := blk_eq h3.1
  have hnb : 0 ≤ nextB n ps t ∧ nextB n ps t < n := by
    rw [nextB, e0, hb, Int.tmod_eq_emod_of_nonneg (by omega)]
    exact ⟨Int.emod_nonneg _ (by omega), Int.emod_lt_of_pos _ (by omega)⟩
  simp only [okMv, permB, Bool.or_eq_true, Bool.and_eq_true, bne_iff_ne, beq_iff_eq] at hm
  rcases hm with hm | ⟨a0, a1⟩
  · exact absurd hp hm
  · exact chan_free hF htol hnb a0 a1

theorem ok_run {n : Int} {fs : List (Int × Int × Int)} (hF : ∀ f ∈ fs, 0 ≤ f.1) (htol : tolF fs = true) : ∀ (ts ps : List Int), isT n ps = true → safeL n ps = true → (∀ t ∈ ts, hasT ps t = true) → okL n fs ts ps = true →
    (∀ p ∈ trL n ts ps, safeL n p = true) ∧ isSf n (endL n ts ps) = true ∧ runM n ts ps = endL n ts ps
  | [], ps, hT, hs, _, _ => ⟨fun p hp => by simp [trL] at hp; rw [hp]; exact hs, isSf_iff.2 ⟨hT, hs⟩, rfl⟩
  | t :: ts, ps, hT, hs, ht, h => by
    simp only [okL, Bool.and_eq_true] at h
    have h2 := okMv_safe hT hs (ht t (by simp)) hF htol h.1
    obtain ⟨a1, a2, a3⟩ := ok_run hF htol ts (movL n ps t) (isT_mov hT t) h2 (fun u hu => hasT_len (ht u (by simp [hu])) (movL_length n ps t)) h.2
    refine ⟨fun p hp => ?_, a2, ?_⟩
    · simp only [trL, List.mem_cons] at hp
      rcases hp with rfl | hp
      · exact hs
      · exact a1 p hp
    · simp only [runM, isSf_iff.2 ⟨hT, hs⟩, cond_true]
      exact a3

theorem fst_none {n : Int} {L : List (List Int)} (hT : ∀ p ∈ L, isT n p = true) (hs : ∀ p ∈ L, safeL n p = true) : fstL n L 0 (-1) = -1 := by
  rw [fstL_eq n L 0 (by omega) hT]
  have : ((L.map fun p => (n, p)).any fun x => !safeL x.1 x.2) = false := by
    simp only [List.any_eq_false, List.mem_map]
    rintro x ⟨p, hp, rfl⟩
    simp [hs p hp]
  rw [this]; rfl

/-! ### Replays -/

end Go.SX

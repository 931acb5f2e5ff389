/- Permitted moves and tolerated faults, plain: what is safe stays safe. -/
import Derived.Test.YtjncnnpdaeociaaLd
import Derived.Test.YtjncnnpdaeociaaNr
namespace Go.SX
open Go.Proofs
set_option maxRecDepth 100000

theorem fold_zero (ch : Int) (b : Nat) : ∀ (fs : List (Int × Int × Int)) (l : List Int), (fs.foldl (setF ch) l)[b]?.getD 0 = 0 →
    l[b]?.getD 0 = 0 ∨ ∃ f ∈ fs, f.2.1 = ch ∧ f.1.toNat = b ∧ f.2.2 = 0
  | [], l, h => .inl h
  | f :: fs, l, h => by
    rcases fold_zero ch b fs (setF ch l f) h with h1 | ⟨g, hg, h2⟩
    · unfold setF at h1
      cases hc : f.2.1 == ch with
      | false => rw [hc] at h1; exact .inl h1
      | true =>
        rw [hc, cond_true, List.getElem?_set] at h1
        by_cases hb : f.1.toNat = b
        · rw [if_pos hb] at h1
          by_cases hl : f.1.toNat < l.length
          · rw [if_pos hl] at h1
            exact .inr ⟨f, by simp, by simpa using hc, hb, by simpa using h1⟩
          · left
            rw [List.getElem?_eq_none (by omega)]; rfl
        · rw [if_neg hb] at h1; exact .inl h1
    · exact .inr ⟨g, by simp [hg], h2⟩

theorem base_zero {n : Int} {ps : List Int} {b : Nat} (hb : b < n.toNat) (h : (baseL n ps)[b]?.getD 0 = 0) : cntB n ps (b : Int) = 0 := by
  simp only [baseL, List.getElem?_map, List.getElem?_range hb, Option.map_some, Option.getD_some, occ] at h
  cases hl : ltI (cntB n ps (b : Int) : Int) 1 with
  | true => rw [hl] at h; simp at h; exact h
  | false => rw [hl] at h; simp at h

theorem tolA_spec : ∀ (fs : List (Int × Int × Int)) (a : List Int), tolA fs a = true →
    (∀ f ∈ fs, f.2.2 = 0 → f.1 ∉ a) ∧ fs.Pairwise (fun f g => f.2.2 = 0 → g.2.2 = 0 → f.1 ≠ g.1)
  | [], a, _ => ⟨by simp, List.Pairwise.nil⟩
  | f :: fs, a, h => by
    simp only [tolA] at h
    cases hz : f.2.2 == 0 with
    | false =>
      rw [hz, cond_false] at h
      obtain ⟨h1, h2⟩ := tolA_spec fs a h
      have hne : f.2.2 ≠ 0 := by simpa using hz
      exact ⟨fun g hg => by
        rcases List.mem_cons.1 hg with rfl | hg
        · exact fun h => absurd h hne
        · exact h1 g hg, List.Pairwise.cons (fun g _ h => absurd h hne) h2⟩
    | true =>
      rw [hz, cond_true, Bool.and_eq_true] at h
      obtain ⟨h1, h2⟩ := tolA_spec fs (a ++ [f.1]) h.2
      have hf : f.1 ∉ a := fun hm => by
        have h0 := h.1
        simp only [Bool.not_eq_true', hasI, List.any_eq_false] at h0
        exact h0 f.1 hm (by simp)
      refine ⟨fun g hg hg0 => ?_, List.Pairwise.cons (fun g hg _ hg0 he => ?_) h2⟩
      · rcases List.mem_cons.1 hg with rfl | hg
        · exact hf
        · exact fun hm => h1 g hg hg0 (by simp [hm])
      · exact h1 g hg hg0 (by simp [he])

theorem pw_of {C : Type} {R : C → C → Prop} (hs : ∀ a b, R a b → R b a) : ∀ (l : List C), l.Pairwise R → ∀ a ∈ l, ∀ b ∈ l, a ≠ b → R a b
  | [], _, a, ha, _, _ => by cases ha
  | x :: l, h, a, ha, b, hb => by
    rw [List.pairwise_cons] at h
    intro hne
    rcases List.mem_cons.1 ha with rfl | ha' <;> rcases List.mem_cons.1 hb with rfl | hb'
    · exact absurd rfl hne
    · exact h.1 b hb'
    · exact hs _ _ (h.1 a ha')
    · exact pw_of hs l h.2 a ha' b hb' hne

/-- Where both channels say that a block is clear and faults are tolerated, no train uses it. -/
theorem chan_free {n b : Int} {ps : List Int} {fs : List (Int × Int × Int)} (hF : ∀ f ∈ fs, 0 ≤ f.1) (htol : tolF fs = true) (hb : 0 ≤ b ∧ b < n)
    (h0 : (chanL n ps fs 0)[b.toNat]?.getD 0 = 0) (h1 : (chanL n ps fs 1)[b.toNat]?.getD 0 = 0) : cntB n ps b = 0 := by
  have hn : b.toNat < n.toNat := by omega
  have hbb : ((b.toNat : Nat) : Int) = b := by omega
  rcases fold_zero 0 b.toNat fs _ h0 with h | ⟨f, hf, f1, f2, f3⟩
  · have := base_zero hn h; rwa [hbb] at this
  · rcases fold_zero 1 b.toNat fs _ h1 with h | ⟨g, hg, g1, g2, g3⟩
    · have := base_zero hn h; rwa [hbb] at this
    · exfalso
      have hne : f ≠ g := fun h => by rw [h, g1] at f1; exact absurd f1 (by decide)
      have := pw_of (fun a b h ha hb he => h hb ha he.symm) fs (tolA_spec fs [] htol).2 f hf g hg hne f3 g3
      have a1 := hF f hf
      have a2 := hF g hg
      omega

/-- A permitted move keeps a traffic safe where faults are tolerated. -/
theorem okMv_safe {n t : Int} {ps : List Int} {fs : List (Int × Int × Int)} (hT : isT n ps = true) (hs : safeL n ps = true) (ht : hasT ps t = true) (hF : ∀ f ∈ fs, 0 ≤ f.1) (htol : tolF fs = true) (hm : okMv n fs ps t = true) :
    safeL n (movL n ps t) = true := by
  refine safe_mov hT hs ht fun hp => ?_
  have h1 := isT_iff.1 hT
  have h2 := hasT_iff.1 ht
  have hlt : t.toNat < ps.length := by omega
  have e0 : ps[t.toNat]?.getD 0 = ps[t.toNat] := by rw [List.getElem?_eq_getElem hlt]; rfl
  have h3 := h1.2.2 _ (List.getElem_mem hlt)
  have hb := blk_eq h3.1
  have hnb : 0 ≤ nextB n ps t ∧ nextB n ps t < n := by
    rw [nextB, e0, hb, Int.tmod_eq_emod_of_nonneg (by omega)]
    exact ⟨Int.emod_nonneg _ (by omega), Int.emod_lt_of_pos _ (by omega)⟩
  simp only [okMv, permB, Bool.or_eq_true, Bool.and_eq_true, bne_iff_ne, beq_iff_eq] at hm
  rcases hm with hm | ⟨a0, a1⟩
  · exact absurd hp hm
  · exact chan_free hF htol hnb a0 a1

theorem fst_none {n : Int} {L : List (List Int)} (hT : ∀ p ∈ L, isT n p = true) (hs : ∀ p ∈ L, safeL n p = true) : fstL n L 0 (-1) = -1 := by
  rw [fstL_eq n L 0 (by omega) hT]
  have : ((L.map fun p => (n, p)).any fun x => !safeL x.1 x.2) = false := by
    simp only [List.any_eq_false, List.mem_map]
    rintro x ⟨p, hp, rfl⟩
    simp [hs p hp]
  rw [this]; rfl

/-! ### Replays -/

theorem tol_fl : ∀ (sts : List Int) (b : Int) (a : List Int), (∀ x ∈ a, x < b) → (∀ s ∈ sts, s ≠ 3) → tolA (flA b sts) a = true
  | [], b, a, _, _ => rfl
  | s :: sts, b, a, ha, h => by
    have h3 : (s == 3) = false := by simpa using h s (by simp)
    have hr : ∀ x ∈ sts, x ≠ 3 := fun x hx => h x (by simp [hx])
    have hn : hasI b a = false := by
      simp only [hasI, List.any_eq_false, beq_iff_eq]
      intro x hx he; have := ha x hx; omega
    simp only [flA, stF, h3, cond_false]
    cases h1 : s == 1 with
    | true =>
      simp only [cond_true, List.singleton_append, tolA, beq_self_eq_true, hn, Bool.not_false, Bool.true_and]
      refine tol_fl sts (b + 1) (a ++ [b]) (fun x hx => ?_) hr
      rcases List.mem_append.1 hx with hx | hx
      · have := ha x hx; omega
      · simp at hx; omega
    | false =>
      cases h2 : s == 2 with
      | true =>
        simp only [cond_true, cond_false, List.singleton_append, tolA, Int.reduceBEq]
        exact tol_fl sts (b + 1) a (fun x hx => by have := ha x hx; omega) hr
      | false =>
        simp only [cond_false, List.nil_append]
        exact tol_fl sts (b + 1) a (fun x hx => by have := ha x hx; omega) hr

theorem blind_stays {n : Int} {s : List Int × List Int} {e : Int × Int × Int} (hb : rvB n s e = true) (h : 3 ∈ s.2) : 3 ∈ (rvN n s e).2 := by
  unfold rvN
  unfold rvB at hb
  cases hk : e.1 == 0 with
  | true => exact h
  | false =>
    rw [hk] at hb
    simp only [cond_false, beq_iff_eq] at hb ⊢
    obtain ⟨j, hj, he⟩ := List.getElem_of_mem h
    have hne : e.2.1.toNat ≠ j := by
      rintro rfl
      rw [List.getElem?_eq_getElem hj, Option.getD_some, he] at hb
      cases hv : e.2.2 == 3 <;> rw [hv] at hb <;> simp at hb
    have : (s.2.set e.2.1.toNat e.2.2)[j]? = some 3 := by
      rw [List.getElem?_set_ne hne, List.getElem?_eq_getElem hj, he]
    exact List.mem_of_getElem? this

theorem blind_end {n : Int} : ∀ (es : List (Int × Int × Int)) (s : List Int × List Int), rvOk n es s = true → 3 ∈ s.2 → 3 ∈ (rvEnd n es s).2
  | [], s, _, h => h
  | e :: es, s, hok, h => by
    simp only [rvOk, Bool.and_eq_true] at hok
    exact blind_end es (rvN n s e) hok.2 (blind_stays hok.1 h)

theorem ok_replay {n : Int} {ps0 : List Int} : ∀ (es : List (Int × Int × Int)) (s : List Int × List Int), isT n s.1 = true → s.1.length = ps0.length → (s.2.length : Int) = n → safeL n s.1 = true → (∀ e ∈ es, evOk n ps0 e = true) →
    rvOk n es s = true → 3 ∉ (rvEnd n es s).2 → (∀ p ∈ rvTr n es s, safeL n p = true) ∧ isSf n (rvEnd n es s).1 = true
  | [], s, hT, _, _, hs, _, _, _ => ⟨fun p hp => by simp [rvTr] at hp; rw [hp]; exact hs, isSf_iff.2 ⟨hT, hs⟩⟩
  | e :: es, s, hT, hl, hn, hs, he, hok, hb => by
    simp only [rvOk, Bool.and_eq_true] at hok
    have hb0 : 3 ∉ s.2 := fun h => hb (blind_end (e :: es) s (by simp only [rvOk, Bool.and_eq_true]; exact hok) h)
    have h8 := (isT_iff.1 hT).1
    have hsafe : safeL n (rvN n s e).1 = true ∧ ((rvN n s e).2.length : Int) = n := by
      obtain ⟨k, t, v⟩ := e
      have hb1 := hok.1
      rcases evOk_cases (he _ (List.mem_cons_self ..)) with ⟨rfl, ht, rfl⟩ | ⟨rfl, ht, hv⟩
      · simp only [rvB, beq_self_eq_true, cond_true] at hb1
        simp only [rvN, beq_self_eq_true, cond_true]
        have hin := flS_in (n := n) (sts := s.2) (by omega) (by omega)
        refine ⟨okMv_safe hT hs (hasT_len ht hl) (fun f hf => ((inFs_in hin).2 f hf).1.1) (tol_fl s.2 0 [] (by simp) (fun x hx h3 => hb0 (h3 ▸ hx))) hb1, hn⟩
      · simp only [rvN, Int.reduceBEq, cond_false, List.length_set]
        exact ⟨hs, hn⟩
    obtain ⟨q1, q2⟩ := rvN_T (ps0 := ps0) e hT hl
    obtain ⟨a1, a2⟩ := ok_replay es (rvN n s e) q1 q2 hsafe.2 hsafe.1 (fun f hf => he f (List.mem_cons_of_mem _ hf)) hok.2 hb
    refine ⟨fun p hp => ?_, a2⟩
    simp only [rvTr, List.mem_cons] at hp
    rcases hp with rfl | hp
    · exact hs
    · exact a1 p hp

end Go.SX

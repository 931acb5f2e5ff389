/- The drawn laws of blocks. -/
import Derived.Test.YtepaifhehlpbaaaDoorRk
namespace Go.SX
open Go.Proofs
set_option maxRecDepth 100000

theorem src_of {c : List Int} (hb : ∀ (i : Nat) (x : Int), c[i]? = some x → 0 ≤ x ∧ x ≤ 255) (h : laws_big_0 c = false) : srcOk 0 0 c = true := by
  have := ltI_not.1 h
  refine src_iff.2 ⟨by omega, by omega, by omega, fun x hx => ?_⟩
  obtain ⟨i, hi⟩ := List.getElem?_of_mem hx
  exact hb i x hi

theorem sb_ok {k n a b c : Int} {s : ByteArray} {l : List Int} (hB : blockB k s n = true) (hP : possB k n a b c = true) (hA : bitsB (takesK k) l = true) :
    sbCode k s n a b c l = 0 ∧ sbV k s n a b c l = valB k n l (a, b, c) ∧ sbS k s n a b c l = nextB k n l (a, b, c) ∧ possB k n (nextB k n l (a, b, c)).1 (nextB k n l (a, b, c)).2.1 (nextB k n l (a, b, c)).2.2 = true := by
  have h0 : sbCode k s n a b c l = 0 := by simp [sbCode, codeV, hB, hP, hA]
  exact ⟨h0, by simp [sbV, h0], by simp [sbS, h0], (nextB_eq hB hP hA).2⟩

/-! ### Pairs -/

theorem pair_step {n a b c : Int} {s : ByteArray} (hB : blockB 12 s n = true) (hP : possB 12 n a b c = true) : valB 12 n [1, 0] (a, b, c) = 0 ∧
    (c = 1 → (nextB 12 n [1, 0] (a, b, c)).2.2 = 1) ∧ (c = 0 → (nextB 12 n [1, 0] (a, b, c)).1 = a + 1) := by
  obtain ⟨hk, hn, _⟩ := blockB_iff hB
  obtain ⟨ha, hb, hc⟩ := poss_iff hP hn
  have hwa1 : IntKind.i64.wrap (a + 1) = a + 1 := wrap_i64 (by omega) (by omega)
  have n0 : IntKind.i64.wrap 0 = 0 := rfl
  have l12 : ltI 1 2 = true := rfl
  rcases hc with rfl | rfl <;> simp only [nextB, valB, spec_l15Step_a0, spec_l15Step_a1, spec_l15Step_a2, spec_l15Step_a3, spec_l15Step_a4, spec_l15Step_a5, spec_l15Step_a6, spec_l15Step_a7, spec_l15Step_a8, spec_l15Step_0, spec_l15Step_1, spec_l15Step_2, spec_l15Step_3, spec_l15Step_4, spec_l15Pair_a0, spec_l15Pair_a1, spec_l15Pair_a2, spec_l15Pair_a3, spec_l15Pair_a4, spec_l15Pair_0, spec_l15Pair_1, spec_l15Pair_2, spec_l15Pair_3, spec_l15Bit_0] <;> simp [hwa1, n0, l12]

theorem pair_both {n a b : Int} {s : ByteArray} (hB : blockB 12 s n = true) (hP : possB 12 n a b 1 = true) : valB 12 n [1, 1] (a, b, 1) = 0 := by
  have l12 : ltI 1 2 = true := rfl
  simp only [nextB, valB, spec_l15Step_a0, spec_l15Step_a1, spec_l15Step_a2, spec_l15Step_a3, spec_l15Step_a4, spec_l15Step_a5, spec_l15Step_a6, spec_l15Step_a7, spec_l15Step_a8, spec_l15Step_0, spec_l15Step_1, spec_l15Step_2, spec_l15Step_3, spec_l15Step_4, spec_l15Pair_a0, spec_l15Pair_a1, spec_l15Pair_a2, spec_l15Pair_a3, spec_l15Pair_a4, spec_l15Pair_0, spec_l15Pair_1, spec_l15Pair_2, spec_l15Pair_3, spec_l15Bit_0]; simp [l12]

theorem bits10 : bitsB (takesK 12) [1, 0] = true := by decide
theorem bits11 : bitsB (takesK 12) [1, 1] = true := by decide

theorem pair_iff {n a b c : Int} (hn : 0 ≤ n ∧ n ≤ 9999) (h : possB 12 n a b c = true) : c = 1 ∨ (c = 0 ∧ a ≤ n) := by
  obtain ⟨ha, hb, hc⟩ := poss_iff h hn
  have hw : IntKind.i64.wrap (n + 1) = n + 1 := wrap_i64 (by omega) (by omega)
  rcases hc with rfl | rfl
  · refine .inr ⟨rfl, ?_⟩
    simp [possB, spec_l15Possible_0, spec_l01In_0, Bool.cond_eq_ite, hw] at h
    omega
  · exact .inl rfl

theorem pairs_loop {n a b c : Int} {s : ByteArray} (hB : blockB 12 s n = true) (hs : s.size ≤ 1) (hn : n ≤ 50) (hP : possB 12 n a b c = true) :
    lp_laws_FnPairs_l0.fin (0, 12, s, n, a, b, c) = true ∧
    ∃ j r, lp_laws_FnPairs_l0.res (0, 12, s, n, a, b, c) = (j, r) ∧ (j = 1 ∧ possB 12 n r.2.2.2.2.1 r.2.2.2.2.2.1 r.2.2.2.2.2.2 = true ∧ r.2.2.2.2.2.2 = 1) := by
  obtain ⟨hk, hn0, _⟩ := blockB_iff hB
  have hstart : c = 1 ∨ 0 ≤ a := .inr (poss_iff hP hn0).1.1
  refine lp_laws_FnPairs_l0.inv (fun m x => ((m : Int) ≤ n + 1 ∧ x.1 = n + 1 - m ∧ x.2.1 = 12 ∧ x.2.2.1 = s ∧ x.2.2.2.1 = n) ∧ possB 12 n x.2.2.2.2.1 x.2.2.2.2.2.1 x.2.2.2.2.2.2 = true ∧ (x.2.2.2.2.2.2 = 1 ∨ n + 1 - m ≤ x.2.2.2.2.1))
    (fun j r => j = 1 ∧ possB 12 n r.2.2.2.2.1 r.2.2.2.2.2.1 r.2.2.2.2.2.2 = true ∧ r.2.2.2.2.2.2 = 1)
    (fun m x hx => .inr ?_) (fun x hx => ?_) (n + 1).toNat _ (by omega) ⟨⟨by omega, by simp only; omega, rfl, rfl, rfl⟩, hP, by simp only; rcases hstart with h | h; exact .inl h; exact .inr (by omega)⟩
  · obtain ⟨y0, y1, y2, y3, y4, y5, y6⟩ := x
    obtain ⟨⟨hm, h0, h1, h2, h3⟩, hp, hq⟩ := hx
    simp only at hm h0 h1 h2 h3 hp hq
    subst h1 h2 h3
    obtain ⟨c0, c1, c2, c3⟩ := sb_ok hB hp bits10
    obtain ⟨v0, v1, v2⟩ := pair_step hB hp
    have t1 : leI y0 y3 = true := leI_t (by omega)
    have t4 : leN y2.size 9223372036854775807 = true := leN_t (by omega)
    have t5 : leN [(1 : Int), 0].length 9223372036854775807 = true := rfl
    refine ⟨(y0 + 1, 12, y2, y3, (nextB 12 y3 [1, 0] (y4, y5, y6)).1, (nextB 12 y3 [1, 0] (y4, y5, y6)).2.1, (nextB 12 y3 [1, 0] (y4, y5, y6)).2.2), ?_, ?_⟩
    rotate_left
    · refine ⟨⟨by omega, by simp only; omega, rfl, rfl, rfl⟩, c3, ?_⟩
      · rcases pair_iff hn0 hp with h | ⟨h, _⟩
        · exact .inl (v1 h)
        · exact .inr (by simp only; rw [v2 h]; rcases hq with hq | hq <;> omega)
    · simp only [lp_laws_FnPairs_l0, lt_laws_FnPairs_l0, LT.out, laws_FnPairs_l0_0, laws_FnPairs_l0_1, laws_FnPairs_l0_2, laws_FnPairs_l0_3, laws_FnPairs_l0_4, laws_FnPairs_l0_5, laws_FnPairs_l0_6, laws_FnPairs_l0_a0, c0, c1, c2, v0, t1, t4, t5, allT, cond_true]
      rw [wrap_i64 (by omega) (by omega)]
      simp
  · obtain ⟨y0, y1, y2, y3, y4, y5, y6⟩ := x
    obtain ⟨⟨hm, h0, h1, h2, h3⟩, hp, hq⟩ := hx
    simp only at hm h0 h1 h2 h3 hp hq
    subst h1 h2 h3
    refine ⟨1, ?_, rfl, hp, ?_⟩
    · simp [lp_laws_FnPairs_l0, lt_laws_FnPairs_l0, LT.out, laws_FnPairs_l0_0, show leI y0 y3 = false from leI_f (by omega)]
    · rcases pair_iff hn0 hp with h | ⟨_, h⟩
      · exact h
      · rcases hq with hq | hq
        · exact hq
        · omega

theorem sb_zero {k n a b c : Int} {s : ByteArray} {l : List Int} (h : sbCode k s n a b c l = 0) : blockB k s n = true ∧ possB k n a b c = true := by
  simp only [sbCode, codeV] at h
  cases hB : blockB k s n <;> cases hP : possB k n a b c <;> simp [hB, hP] at h ⊢

theorem law_Pairs (c : List Int) (w : wfD (.sl 5 (.int .u8)) c) : laws_FnPairs_0 c = true ∧ laws_FnPairs_1 c = true := by
  have hb : ∀ (i : Nat) (x : Int), c[i]? = some x → 0 ≤ x ∧ x ≤ 255 := fun i x hx => wf_u8 (w.2 x (List.mem_of_getElem? hx))
  cases hbig : laws_big_0 c with
  | true => simp [laws_FnPairs_0, laws_FnPairs_1, laws_FnPairs_a11, allT, hbig]
  | false =>
    have hsrc := src_of hb hbig
    obtain ⟨_, hs, hl⟩ := drawStep_ok hsrc
    generalize hK : spec_DrawStepBlock_0 c = k
    generalize hS : spec_DrawStepBlock_1 c = s at hs
    generalize hN : spec_DrawStepBlock_2 c = n
    generalize h3 : spec_DrawStepBlock_3 c = s0
    generalize h4 : spec_DrawStepBlock_4 c = s1
    generalize h5 : spec_DrawStepBlock_5 c = s2
    generalize hL : spec_DrawStepBlock_6 c = l at hl
    have t1 : leN s.size 9223372036854775807 = true := leN_t (by omega)
    have t2 : leN l.length 9223372036854775807 = true := leN_t (by omega)
    have t3 : leN [(1 : Int), 1].length 9223372036854775807 = true := rfl
    have a6 : laws_FnPairs_a6 c = false := by simp [laws_FnPairs_a6]
    have a7 : laws_FnPairs_a7 c = (bif sbCode k s n s0 s1 s2 l != 0 then true else bif k != 12 then true else ltI 50 n) := by
      simp only [laws_FnPairs_a7, laws_FnPairs_a0, hK, hS, hN, h3, h4, h5, hL]
      cases sbCode k s n s0 s1 s2 l != 0 <;> cases k != 12 <;> rfl
    have a8 : laws_FnPairs_a8 c = (0, k, s, n, s0, s1, s2) := by simp only [laws_FnPairs_a8, hK, hS, hN, h3, h4, h5]
    simp only [laws_FnPairs_0, laws_FnPairs_1, laws_FnPairs_a9, laws_FnPairs_a10, laws_FnPairs_a11, allT, hbig, hsrc, a6, a7, a8, hK, hS, hN, hL, t1, t2, t3]
    by_cases h0 : sbCode k s n s0 s1 s2 l = 0
    · obtain ⟨hB, hP⟩ := sb_zero h0
      by_cases hk : k = 12
      · subst hk
        by_cases hn : n ≤ 50
        · obtain ⟨r1, j, r, r2, r3, r4, r5⟩ := pairs_loop hB hs hn hP
          have e50 : ltI 50 n = false := ltI_f (by omega)
          have q1 : fbCode 12 s n r.2.2.2.2.1 r.2.2.2.2.2.1 r.2.2.2.2.2.2 = 0 := by simp [fbCode, codeV, hB, r4]
          have q2 : fbV 12 s n r.2.2.2.2.1 r.2.2.2.2.2.1 r.2.2.2.2.2.2 = true := by simp only [fbV, q1, r5]; rw [r5] at q1; rw [q1]; rfl
          obtain ⟨c0, c1, _, _⟩ := sb_ok hB r4 bits11
          have q3 : sbV 12 s n r.2.2.2.2.1 r.2.2.2.2.2.1 r.2.2.2.2.2.2 [1, 1] = 0 := by
            rw [c1, r5]; exact pair_both hB (by rw [r5] at r4; exact r4)
          simp only [h0, e50, r1, r2, r3, q1, q2, q3, c0]
          simp [Nat.beq]
        · have e50 : ltI 50 n = true := ltI_t (by omega)
          simp [h0, e50]
      · simp [h0, hk]
    · simp [h0]

end Go.SX

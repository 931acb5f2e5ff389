/- The exact law of machines that start. -/
import Derived.Test.YtepaifhehlpbaaaDoorRn
namespace Go.SX
open Go.Proofs
set_option maxRecDepth 100000

/-- A machine's slices marked, and found as they were marked. -/
theorem machine_marks (a b c : List Int) (d : List BS3) (h : (a.length : Int) + b.length + c.length + 3 * d.length ≤ 900000000) :
    laws_markMachine_5 1 a b c d = true ∧ ltI (laws_markMachine_0 1 a b c d) 0 = false ∧
    laws_heldMachine_0 1 (laws_markMachine_1 1 a) (laws_markMachine_2 1 a b) (laws_markMachine_3 1 a b c) (laws_markMachine_4 1 a b c d) = laws_markMachine_0 1 a b c d ∧
    laws_heldMachine_1 1 (laws_markMachine_1 1 a) (laws_markMachine_2 1 a b) (laws_markMachine_3 1 a b c) (laws_markMachine_4 1 a b c d) = true := by
  have m1 : mkOk 1 a.length = true := mkOk_iff.2 (by omega)
  have m2 : mkOk (1 + (a.length : Int)) b.length = true := mkOk_iff.2 (by omega)
  have m3 : mkOk (1 + (a.length : Int) + b.length) c.length = true := mkOk_iff.2 (by omega)
  have m4 : mkOk3 3 (1 + (a.length : Int) + b.length + c.length) d.length = true := mkOk3_iff.2 (by omega)
  have l1 : leN a.length 9223372036854775807 = true := leN_t (by omega)
  have l2 : leN b.length 9223372036854775807 = true := leN_t (by omega)
  have l3 : leN c.length 9223372036854775807 = true := leN_t (by omega)
  have l4 : leN d.length 9223372036854775807 = true := leN_t (by omega)
  have v1 := heldV_up 1 a.length m1
  have v2 := heldV_up _ b.length m2
  have v3 := heldV_up _ c.length m3
  have v4 := heldB_up _ d.length ((Bool.and_eq_true _ _).mpr ⟨m4, l4⟩)
  have t1 : ltI (1 + (a.length : Int)) 0 = false := ltI_f (by omega)
  have t2 : ltI (1 + (a.length : Int) + b.length) 0 = false := ltI_f (by omega)
  have t3 : ltI (1 + (a.length : Int) + b.length + c.length) 0 = false := ltI_f (by omega)
  have t4 : ltI (1 + (a.length : Int) + b.length + c.length + 3 * (d.length : Int)) 0 = false := ltI_f (by omega)
  refine ⟨?_, ?_, ?_, ?_⟩
  · simp only [laws_markMachine_5, laws_markMachine_a0, laws_markMachine_a1, laws_markMachine_a2, m1, m2, m3, m4, l4, allT, Bool.and_self, cond_true]
  · simp only [laws_markMachine_0, laws_markMachine_a0, laws_markMachine_a1, laws_markMachine_a2, t4]
  · simp only [laws_heldMachine_0, laws_heldMachine_a0, laws_markMachine_0, laws_markMachine_1, laws_markMachine_2, laws_markMachine_3, laws_markMachine_4, laws_markMachine_a0, laws_markMachine_a1, laws_markMachine_a2, v1, v2, v3, v4, t1, t2, t3, t4, cond_false]
  · simp only [laws_heldMachine_1, laws_heldMachine_a0, laws_markMachine_1, laws_markMachine_2, laws_markMachine_3, laws_markMachine_4, laws_markMachine_a0, laws_markMachine_a1, laws_markMachine_a2, v1, v2, v3, t1, t2, t3, upFrom_length, upG_length, l1, l2, l3, l4, allT, Bool.or_true, cond_true]

theorem eqMachine_same (k : Int) (a b c : List Int) (d : List BS3) (h1 : a.length ≤ 9223372036854775807) (h2 : b.length ≤ 9223372036854775807) (h3 : c.length ≤ 9223372036854775807) (h4 : d.length ≤ 9223372036854775807) :
    laws_eqMachine_0 k k a b c d a b c d = true ∧ laws_eqMachine_1 k k a b c d a b c = true := by
  simp [laws_eqMachine_0, laws_eqMachine_1, eqL_refl, eqBs_refl, allT, h1, h2, h3, h4]

theorem szCode_small {k : Int} {bs : List TM} {st : List IN} (hb : bs.length ≤ 9223372036854775807) (hst : st.length ≤ 9223372036854775807) (hs : ∀ t ∈ bs, t.2.1.size ≤ 9223372036854775807) (h0 : -1 ≤ k) (hk : k ≤ 1048576) :
    laws_szCode_1 k bs st = true ∧ (ltI (laws_szCode_0 k bs st) 0 = false → (0 ≤ laws_szCode_0 k bs st ∧ laws_szCode_0 k bs st ≤ k) ∧ (bs.length : Int) + totT bs + st.length + laws_szCode_0 k bs st = k) := by
  have t1 : leN bs.length 9223372036854775807 = true := leN_t hb
  have t2 : leN st.length 9223372036854775807 = true := leN_t hst
  have t3 : leI (-1) k = true := leI_t h0
  have t4 : leI k 1048576 = true := leI_t hk
  simp only [laws_szCode_0, laws_szCode_1, t1, t2, t3, t4, allT]
  cases h1 : ltI (szTs k bs) 0 with
  | true => exact ⟨rfl, fun h => absurd (show ltI (-1) 0 = false from h) (by decide)⟩
  | false =>
    obtain ⟨q1, q2⟩ := szTs_small hs hk h1
    have u3 : leI (-1) (szTs k bs) = true := leI_t (by omega)
    have u4 : leI (szTs k bs) 1048576 = true := leI_t (by omega)
    refine ⟨by rw [u3, u4]; rfl, fun h => ?_⟩
    simp only [cond_false] at h ⊢
    cases h2 : ltI (szL (szTs k bs) st.length) 0 with
    | true => rw [h2] at h; exact absurd (show ltI (-1) 0 = false from h) (by decide)
    | false =>
      obtain ⟨r1, r2⟩ := szL_small h2
      simp only [cond_false]
      omega

theorem szMem_small {k : Int} {xs : List Int} {ss : List BS3} (hx : xs.length ≤ 9223372036854775807) (hs : ss.length ≤ 9223372036854775807) (h0 : -1 ≤ k) (hk : k ≤ 1048576) :
    laws_szMemory_1 k xs ss = true ∧ (ltI (laws_szMemory_0 k xs ss) 0 = false → (0 ≤ laws_szMemory_0 k xs ss ∧ laws_szMemory_0 k xs ss ≤ k) ∧ (xs.length : Int) + ss.length + laws_szMemory_0 k xs ss = k) := by
  have t1 : leN xs.length 9223372036854775807 = true := leN_t hx
  have t2 : leN ss.length 9223372036854775807 = true := leN_t hs
  have t3 : leI (-1) k = true := leI_t h0
  have t4 : leI k 1048576 = true := leI_t hk
  have e : szV k xs = szL k xs.length := rfl
  simp only [laws_szMemory_0, laws_szMemory_1, t1, t2, t3, t4, e, allT]
  cases h1 : ltI (szL k xs.length) 0 with
  | true => exact ⟨rfl, fun h => absurd (show ltI (-1) 0 = false from h) (by decide)⟩
  | false =>
    obtain ⟨q1, q2⟩ := szL_small h1
    have u3 : leI (-1) (szL k xs.length) = true := leI_t (by omega)
    have u4 : leI (szL k xs.length) 1048576 = true := leI_t (by omega)
    refine ⟨by rw [u3, u4]; rfl, fun h => ?_⟩
    simp only [cond_false] at h ⊢
    cases h2 : ltI (szL (szL k xs.length) ss.length) 0 with
    | true => rw [h2] at h; exact absurd (show ltI (-1) 0 = false from h) (by decide)
    | false =>
      obtain ⟨r1, r2⟩ := szL_small h2
      simp only [cond_false]
      omega

theorem sm_len (i v o : Int) (bs : List TM) (st : List IN) (xs : List Int) (ss : List BS3) : (smV i v o bs st xs ss).length ≤ xs.length ∧ (smO i v o bs st xs ss).length ≤ 20 ∧ (smS i v o bs st xs ss).length ≤ ss.length := by
  simp only [smV, smO, smS]
  cases hz : smCode i v o bs st xs ss == 0 with
  | false => simp
  | true =>
    have hc : codeB i v o bs st = true := by
      have hz := (by simpa using hz : smCode i v o bs st xs ss = 0)
      simp only [smCode] at hz
      cases hc : codeB i v o bs st with
      | true => rfl
      | false => rw [hc] at hz; cases hz
    have ho := (code_rng hc).1.2.2.1
    simp
    omega

theorem code_marks (bs : List TM) (st : List IN) (h : (bs.length : Int) + st.length ≤ 1048576) : laws_markCode_3 1 bs st = true ∧ 0 ≤ laws_markCode_0 1 bs st ∧ laws_markCode_0 1 bs st ≤ 5000000 := by
  have l1 : leN bs.length 9223372036854775807 = true := leN_t (by omega)
  have l2 : leN st.length 9223372036854775807 = true := leN_t (by omega)
  have m1 : mkOk3 3 1 bs.length = true := mkOk3_iff.2 (by omega)
  have m2 : mkOk3 2 (1 + 3 * (bs.length : Int)) st.length = true := mkOk3_iff.2 (by omega)
  refine ⟨by simp only [laws_markCode_3, laws_markCode_a0, m1, m2, l1, l2, allT, Bool.and_self, cond_true], ?_, ?_⟩ <;> simp only [laws_markCode_0, laws_markCode_a0] <;> omega

theorem mem_marks (k : Int) (xs : List Int) (ss : List BS3) (h0 : 0 ≤ k) (h1 : k ≤ 900000000) (h : (xs.length : Int) + ss.length ≤ 1048576) : laws_markMemory_3 k xs ss = true ∧ ltI (laws_markMemory_0 k xs ss) 0 = false := by
  have l2 : leN ss.length 9223372036854775807 = true := leN_t (by omega)
  have m1 : mkOk k xs.length = true := mkOk_iff.2 (by omega)
  have m2 : mkOk3 3 (k + (xs.length : Int)) ss.length = true := mkOk3_iff.2 (by omega)
  refine ⟨by simp only [laws_markMemory_3, laws_markMemory_a0, m1, m2, l2, allT, Bool.and_self, cond_true], ltI_f ?_⟩
  simp only [laws_markMemory_0, laws_markMemory_a0]
  omega

theorem law_StartMachine (x0 x1 x2 : Int) (x3 : List TM) (x4 : List IN) (x5 : List Int) (x6 : List BS3) (w3 : wfD (.sl 23 (.pair (.int .i64) (.pair (.str) (.int .i64)))) x3) (w4 : wfD (.sl 146 (.pair (.int .i64) (.int .i64))) x4) (w5 : wfD (.sl 2 (.int .i64)) x5) (w6 : wfD (.sl 25 (.pair (.int .i64) (.pair (.int .i64) (.int .i64)))) x6) :
    laws_FnExactStartMachine_0 x0 x1 x2 x3 x4 x5 x6 = true ∧ laws_FnExactStartMachine_1 x0 x1 x2 x3 x4 x5 x6 = true := by
  have l3 : x3.length ≤ 9223372036854775807 := w3.1
  have l4 : x4.length ≤ 9223372036854775807 := w4.1
  have l5 : x5.length ≤ 9223372036854775807 := w5.1
  have l6 : x6.length ≤ 9223372036854775807 := w6.1
  have hs : ∀ t ∈ x3, t.2.1.size ≤ 9223372036854775807 := fun t ht => (w3.2 t ht).2.1
  obtain ⟨s1, s2⟩ := szCode_small (k := 1048576) l3 l4 hs (by omega) (by omega)
  cases h1 : ltI (laws_szCode_0 1048576 x3 x4) 0 with
  | true => simp [laws_FnExactStartMachine_0, laws_FnExactStartMachine_1, laws_FnExactStartMachine_a0, laws_FnExactStartMachine_a18, laws_FnExactStartMachine_a19, laws_FnExactStartMachine_a20, h1, s1, allT]
  | false =>
    obtain ⟨⟨c0, c1⟩, c2⟩ := s2 h1
    obtain ⟨u1, u2⟩ := szMem_small (k := laws_szCode_0 1048576 x3 x4) l5 l6 (by omega) c1
    cases h2 : ltI (laws_szMemory_0 (laws_szCode_0 1048576 x3 x4) x5 x6) 0 with
    | true => simp [laws_FnExactStartMachine_0, laws_FnExactStartMachine_1, laws_FnExactStartMachine_a0, laws_FnExactStartMachine_a1, laws_FnExactStartMachine_a18, laws_FnExactStartMachine_a19, laws_FnExactStartMachine_a20, h1, h2, s1, u1, allT]
    | false =>
      obtain ⟨⟨d0, d1⟩, d2⟩ := u2 h2
      have k3 : leN x3.length 1048576 = true := leN_t (by omega)
      have k4 : leN x4.length 1048576 = true := leN_t (by omega)
      have k5 : leN x5.length 1048576 = true := leN_t (by omega)
      have k6 : leN x6.length 1048576 = true := leN_t (by omega)
      have m3 : leN x3.length 9223372036854775807 = true := leN_t l3
      have m4 : leN x4.length 9223372036854775807 = true := leN_t l4
      have m5 : leN x5.length 9223372036854775807 = true := leN_t l5
      have m6 : leN x6.length 9223372036854775807 = true := leN_t l6
      have hS : smNd x3 x5 x6 = true := by simp only [smNd, k5, k6, tsOk_iff.2 ⟨l3, hs⟩]; rfl
      obtain ⟨n1, n2, n3⟩ := sm_len x0 x1 x2 x3 x4 x5 x6
      generalize hA : smV x0 x1 x2 x3 x4 x5 x6 = A at n1
      generalize hB : smO x0 x1 x2 x3 x4 x5 x6 = B at n2
      generalize hC : smS x0 x1 x2 x3 x4 x5 x6 = C at n3
      generalize hD : smCode x0 x1 x2 x3 x4 x5 x6 = D
      obtain ⟨e1, e2⟩ := eqMachine_same 0 [] A B C (by simp) (by omega) (by omega) (by omega)
      obtain ⟨g1, g2, g3⟩ := code_marks x3 x4 (by omega)
      obtain ⟨g4, g5⟩ := mem_marks (laws_markCode_0 1 x3 x4) x5 x6 g2 (by omega) (by omega)
      obtain ⟨q1, q2, q3, q4⟩ := machine_marks [] A B C (by simp only [List.length_nil]; omega)
      have f1 : laws_eqCode_0 x0 x1 x2 x0 x1 x2 x3 x4 x3 x4 = true := by simp [laws_eqCode_0, eqTs_refl, eqIs_refl]
      have f2 : laws_eqCode_1 x0 x1 x2 x0 x1 x2 x3 x4 x3 = true := by simp [laws_eqCode_1, eqTs_refl, m3, m4, allT]
      have f3 : laws_eqMemory_0 x5 x6 x5 x6 = true := by simp [laws_eqMemory_0, eqL_refl, eqBs_refl]
      have f4 : laws_eqMemory_1 x5 x6 x5 = true := by simp [laws_eqMemory_1, eqL_refl, m5, m6, allT]
      have f5 : laws_toCode_0 x3 x4 = true := by simp only [laws_toCode_0, k3, k4, allT, cond_true]
      have f6 : laws_toMemory_0 x5 x6 = true := by simp only [laws_toMemory_0, k5, k6, allT, cond_true]
      have r0 : laws_FnExactStartMachine_a0 x3 x4 = false := h1
      have r1 : laws_FnExactStartMachine_a1 x3 x4 x5 x6 = false := h2
      have r2 : laws_FnExactStartMachine_a2 x0 x1 x2 x3 x4 x5 x6 = false := by simp only [laws_FnExactStartMachine_a2, hA, hB, hC, e1, Bool.not_true]
      have r3 : laws_FnExactStartMachine_a3 x0 x1 x2 x3 x4 x5 x6 = false := by simp only [laws_FnExactStartMachine_a3, hD, bne_self_eq_false]
      have r4 : laws_FnExactStartMachine_a4 x0 x1 x2 x3 x4 x5 x6 = false := by simp only [laws_FnExactStartMachine_a4, r2, r3, cond_false]
      have r5 : laws_FnExactStartMachine_a5 x3 x4 x5 x6 = false := g5
      have r6 : laws_FnExactStartMachine_a6 x0 x1 x2 x3 x4 x5 x6 = false := by simp only [laws_FnExactStartMachine_a6, r2, r3, r5, cond_false]
      have r7 : laws_FnExactStartMachine_a7 x3 x4 x5 x6 = [] := by simp only [laws_FnExactStartMachine_a7, Bool.cond_self]
      have r8 : laws_FnExactStartMachine_a8 x0 x1 x2 x3 x4 x5 x6 = A := by simp only [laws_FnExactStartMachine_a8, Bool.cond_self, hA]
      have r10 : laws_FnExactStartMachine_a10 x0 x1 x2 x3 x4 x5 x6 = B := by simp only [laws_FnExactStartMachine_a10, Bool.cond_self, hB]
      have r12 : laws_FnExactStartMachine_a12 x0 x1 x2 x3 x4 x5 x6 = C := by simp only [laws_FnExactStartMachine_a12, Bool.cond_self, hC]
      have r14 : laws_FnExactStartMachine_a14 x0 x1 x2 x3 x4 x5 x6 = laws_markMachine_0 1 [] A B C := by simp only [laws_FnExactStartMachine_a14, laws_FnExactStartMachine_a9, laws_FnExactStartMachine_a11, laws_FnExactStartMachine_a13, r7, r8, r10, r12, q3]
      have r15 : laws_FnExactStartMachine_a15 x0 x1 x2 x3 x4 x5 x6 = false := by simp only [laws_FnExactStartMachine_a15, r14, q2]
      have r16 : laws_FnExactStartMachine_a16 x0 x1 x2 x3 x4 x5 x6 = false := by simp only [laws_FnExactStartMachine_a16, r14, r7, r8, r10, r12, bne_self_eq_false]
      have r17 : laws_FnExactStartMachine_a17 x0 x1 x2 x3 x4 x5 x6 = false := by simp only [laws_FnExactStartMachine_a17, r3, r7, r8, r10, r12, hA, hB, hC, e1, Bool.not_true, cond_false]
      have r21 : laws_FnExactStartMachine_a21 x0 x1 x2 x3 x4 x5 x6 = true := by simp only [laws_FnExactStartMachine_a21, hA, hB, hC, e2]
      have r22 : laws_FnExactStartMachine_a22 x0 x1 x2 x3 x4 x5 x6 = true := by simp only [laws_FnExactStartMachine_a22, laws_FnExactStartMachine_a9, laws_FnExactStartMachine_a11, laws_FnExactStartMachine_a13, r7, r8, r10, r12, q4]
      simp only [laws_FnExactStartMachine_0, laws_FnExactStartMachine_1, laws_FnExactStartMachine_a18, laws_FnExactStartMachine_a19, laws_FnExactStartMachine_a20, r0, r1, r4, r5, r6, r7, r8, r10, r12, r15, r16, r17, r21, r22, f1, f2, f3, f4, f5, f6, hS, s1, u1, g1, g4, q1, e2, hA, hB, hC, allT, Bool.or_true, Bool.not_true, Bool.not_false, cond_true, cond_false, and_self]

end Go.SX

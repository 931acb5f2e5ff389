/- Allowed moves keep a traffic safe, others do not, and with fewer trains than blocks some move is allowed: in plain words. -/
import Derived.Test.YtjncnnpdaeociaaRv
import Derived.Test.YtjncnnpdaeociaaLg
namespace Go.SX
open Go.Proofs
set_option maxRecDepth 100000

theorem implSafe_ok (n : Int) (ps : List Int) : impl_IsSafeTraffic_0 n ps = isSf n ps ∧ impl_IsSafeTraffic_1 n ps = true := by
  simp only [impl_IsSafeTraffic_0, impl_IsSafeTraffic_1, isSf, allT]
  cases isT n ps <;> simp

theorem hasI_iff {x : Int} {l : List Int} : hasI x l = true ↔ x ∈ l := by simp [hasI]

theorem tm_loop (n : Int) (ps : List Int) (h : isSf n ps = true) :
    lp_laws_FnTrafficMoves_l0.fin ((0 : Int), n, alList n ps, ps) = true ∧ ∃ y, lp_laws_FnTrafficMoves_l0.res ((0 : Int), n, alList n ps, ps) = (1, y) := by
  obtain ⟨hT, hs⟩ := isSf_iff.1 h
  have h1 := isT_iff.1 hT
  have key := lp_laws_FnTrafficMoves_l0.inv (fun k x => x.1 = (ps.length : Int) - k ∧ k ≤ ps.length ∧ x.2.1 = n ∧ x.2.2.1 = alList n ps ∧ x.2.2.2 = ps) (fun j _ => j = 1)
    (fun k x hx => .inr ?_) (fun x hx => ?_) ps.length ((0 : Int), n, alList n ps, ps) (by omega) ⟨by simp, by omega, rfl, rfl, rfl⟩
  · obtain ⟨r1, j, y, r2, rfl⟩ := key
    exact ⟨r1, y, r2⟩
  · obtain ⟨y0, y1, y2, y3⟩ := x
    obtain ⟨h0, hk, q1, q2, q3⟩ := hx
    simp only at h0 q1 q2 q3
    rw [q1, q2, q3]
    have ht : hasT ps y0 = true := hasT_iff.2 (by omega)
    have hm : mvOk n ps y0 = true := mvOk_iff.2 ⟨hT, ht⟩
    have e1 : mvCode n ps y0 = 0 := by simp [mvCode, hT, ht]
    have e2 : mvN n ps y0 = n := by simp [mvN, hm]
    have e3 : mvP n ps y0 = movL n ps y0 := by simp [mvP, hm]
    have e4 : isSf n (movL n ps y0) = hasI y0 (alList n ps) := by
      rw [Bool.eq_iff_iff, hasI_iff]
      simp only [alList, h, cond_true]
      exact ⟨fun hq => mem_allow ht hq, fun hq => (allow_mem hq).2⟩
    have t1 : ltI y0 (ps.length : Int) = true := ltI_t (by omega)
    have t2 : leN ps.length 9223372036854775807 = true := leN_t (by omega)
    have t3 : leN (movL n ps y0).length 9223372036854775807 = true := leN_t (by rw [movL_length]; omega)
    have t4 : leN (alList n ps).length 9223372036854775807 = true := leN_t (by have := alList_length n ps; omega)
    have hw : IntKind.i64.wrap (y0 + 1) = y0 + 1 := wrap_i64 (by omega) (by omega)
    have a0 : laws_FnTrafficMoves_l0_a0 y0 n ps = false := by simp [laws_FnTrafficMoves_l0_a0, e1]
    have a1 : laws_FnTrafficMoves_l0_a1 y0 n ps = false := by simp only [laws_FnTrafficMoves_l0_a1, a0, cond_false, eqT_refl, Bool.not_true]
    have a2 : laws_FnTrafficMoves_l0_a2 y0 n ps = movL n ps y0 := by simp only [laws_FnTrafficMoves_l0_a2, Bool.cond_self, e3]
    refine ⟨((ps.length : Int) - k, n, alList n ps, ps), ?_, rfl, by omega, rfl, rfl, rfl⟩
    simp only [lp_laws_FnTrafficMoves_l0, lt_laws_FnTrafficMoves_l0, LT.out, allT, laws_FnTrafficMoves_l0_0, laws_FnTrafficMoves_l0_1, laws_FnTrafficMoves_l0_2, laws_FnTrafficMoves_l0_3, laws_FnTrafficMoves_l0_4, laws_FnTrafficMoves_l0_5, laws_FnTrafficMoves_l0_6, laws_FnTrafficMoves_l0_7, a0, a1, a2, e2, e3, e4, (implSafe_ok _ _).1, (implSafe_ok _ _).2, t1, t2, t3, t4, hw, beq_self_eq_true, Bool.not_true, Bool.not_false, Bool.or_true, Bool.cond_self, cond_true, cond_false]
    rw [show y0 + 1 = (ps.length : Int) - k by omega]
  · obtain ⟨y0, y1, y2, y3⟩ := x
    obtain ⟨h0, hk, q1, q2, q3⟩ := hx
    simp only at h0 q1 q2 q3
    rw [q1, q2, q3]
    refine ⟨1, ?_, rfl⟩
    have t1 : ltI y0 (ps.length : Int) = false := ltI_f (by omega)
    simp [lp_laws_FnTrafficMoves_l0, lt_laws_FnTrafficMoves_l0, LT.out, laws_FnTrafficMoves_l0_0, t1]

theorem src_of {c : List Int} (hb : ∀ (i : Nat) (x : Int), c[i]? = some x → 0 ≤ x ∧ x ≤ 255) (h : laws_big_0 c = false) : srcOk 0 0 c = true := by
  have := ltI_not.1 h
  refine src_iff.2 ⟨by omega, by omega, by omega, fun x hx => ?_⟩
  obtain ⟨i, hi⟩ := List.getElem?_of_mem hx
  exact hb i x hi

theorem law_TrafficMoves (c : List Int) (hb : ∀ (i : Nat) (x : Int), c[i]? = some x → 0 ≤ x ∧ x ≤ 255) :
    laws_FnTrafficMoves_0 c = true ∧ laws_FnTrafficMoves_1 c = true := by
  cases hbig : laws_big_0 c with
  | true => simp [laws_FnTrafficMoves_0, laws_FnTrafficMoves_1, allT, hbig]
  | false =>
    have hsrc := src_of hb hbig
    obtain ⟨_, hl⟩ := drawAllowed_ok c hsrc
    generalize hN : spec_DrawAllowedMoves_0 c = n
    generalize hP : spec_DrawAllowedMoves_1 c = ps at hl
    have l1 : leN (alList n ps).length 9223372036854775807 = true := leN_t (by have := alList_length n ps; omega)
    have a0 : laws_FnTrafficMoves_a0 c = false := by simp [laws_FnTrafficMoves_a0]
    have a1 : laws_FnTrafficMoves_a1 c = false := by simp only [laws_FnTrafficMoves_a1, a0, hN, hP, cond_false, eqL_refl, Bool.not_true]
    have a2 : laws_FnTrafficMoves_a2 c = false := by simp only [laws_FnTrafficMoves_a2, a1, hN, hP, cond_false, Bool.cond_self, beq_self_eq_true, Bool.not_true]
    have a3 : laws_FnTrafficMoves_a3 c = ps := by simp only [laws_FnTrafficMoves_a3, hP, Bool.cond_self]
    have a4 : laws_FnTrafficMoves_a4 c = false := by simp only [laws_FnTrafficMoves_a4, a2, a3, hN, (implSafe_ok _ _).1, cond_false, Bool.cond_self, beq_self_eq_true, Bool.not_true]
    have a5 : laws_FnTrafficMoves_a5 c = (alCode n ps != 0) := by simp only [laws_FnTrafficMoves_a5, hN, hP]
    have a6 : laws_FnTrafficMoves_a6 c = alList n ps := by simp only [laws_FnTrafficMoves_a6, hN, hP, Bool.cond_self]
    have a7 : laws_FnTrafficMoves_a7 c = ps := by simp only [laws_FnTrafficMoves_a7, a3, Bool.cond_self]
    have a8 : laws_FnTrafficMoves_a8 c = ((0 : Int), n, alList n ps, ps) := by simp only [laws_FnTrafficMoves_a8, a6, a7, hN]
    simp only [laws_FnTrafficMoves_0, laws_FnTrafficMoves_1, allT, hbig, hsrc, a0, a2, a3, a4, a5, a6, a7, a8, hN, hP, l1, (implSafe_ok _ _).2]
    cases hsf : isSf n ps with
    | false =>
      have : alCode n ps ≠ 0 := by
        simp only [isSf, Bool.and_eq_false_iff] at hsf
        simp only [alCode]
        cases h1 : isT n ps <;> cases h2 : safeL n ps <;> simp_all
      simp [this]
    | true =>
      obtain ⟨hT, hs⟩ := isSf_iff.1 hsf
      obtain ⟨r1, y, r2⟩ := tm_loop n ps hsf
      have e0 : alCode n ps = 0 := by simp [alCode, hT, hs]
      simp only [r1, r2, e0]
      by_cases hlt : (ps.length : Int) < n
      · have h5 := allow_some hT hs hlt
        have h6 : ltI 0 (((alList n ps).length : Nat) : Int) = true := ltI_t (by simp only [alList, hsf, cond_true]; omega)
        simp [h6, Nat.beq]
      · have h6 : leI n ((ps.length : Nat) : Int) = true := leI_t (by omega)
        simp [h6, Nat.beq]

end Go.SX

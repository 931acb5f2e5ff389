/- Traffics, plain: moves that keep a traffic safe, and that some move is allowed. -/
import Derived.Test.YtjncnnpdaeociaaNe
namespace Go.SX
open Go.Proofs
set_option maxRecDepth 100000

/-- A train's place behind its move. -/
theorem place_mov {n p : Int} (hn : 2 ≤ n) (h : 0 ≤ p ∧ p ≤ 3 * n - 1) :
    (phs p ≠ 2 → Int.tmod (p + 1) (3 * n) = p + 1 ∧ blk (p + 1) = blk p ∧ phs (p + 1) = phs p + 1) ∧
    (phs p = 2 → blk (Int.tmod (p + 1) (3 * n)) = Int.tmod (blk p + 1) n ∧ phs (Int.tmod (p + 1) (3 * n)) = 0) := by
  have e1 := phs_eq h.1
  have e2 := blk_eq h.1
  have e3 := phs_eq (show 0 ≤ p + 1 by omega)
  have e4 := blk_eq (show 0 ≤ p + 1 by omega)
  refine ⟨fun hp => ?_, fun hp => ?_⟩
  · have : p + 1 < 3 * n := by omega
    rw [Int.tmod_eq_emod_of_nonneg (by omega), Int.emod_eq_of_lt (by omega) this, e4, e3, e1, e2]
    omega
  · by_cases hq : p + 1 < 3 * n
    · rw [Int.tmod_eq_emod_of_nonneg (by omega), Int.emod_eq_of_lt (by omega) hq, e4, e3, e2, Int.tmod_eq_emod_of_nonneg (by omega), Int.emod_eq_of_lt (by omega) (by omega)]
      omega
    · have e5 : p + 1 = 3 * n := by omega
      have e6 : p / 3 + 1 = n := by omega
      rw [e5, e2, e6, Int.tmod_eq_emod_of_nonneg (by omega), Int.tmod_eq_emod_of_nonneg (by omega), Int.emod_self, Int.emod_self]
      decide

/-- A move uses no more than was used, or the next block. -/
theorem uses_mov {n p b : Int} (hn : 2 ≤ n) (h : 0 ≤ p ∧ p ≤ 3 * n - 1) (hu : usesB n (Int.tmod (p + 1) (3 * n)) b = true) :
    usesB n p b = true ∨ (phs p = 1 ∧ b = Int.tmod (blk p + 1) n) := by
  obtain ⟨h1, h2⟩ := place_mov hn h
  have e1 := phs_eq h.1
  by_cases hp : phs p = 2
  · obtain ⟨a1, a2⟩ := h2 hp
    simp only [usesB, a1, a2, Bool.or_eq_true, beq_iff_eq, Bool.and_eq_true] at hu
    left
    simp only [usesB, hp, Bool.or_eq_true, beq_iff_eq, Bool.and_eq_true]
    rcases hu with hu | hu
    · exact .inr ⟨trivial, hu⟩
    · exact absurd hu.1 (by decide)
  · obtain ⟨a1, a2, a3⟩ := h1 hp
    rw [a1] at hu
    simp only [usesB, a2, a3, Bool.or_eq_true, beq_iff_eq, Bool.and_eq_true] at hu
    rcases hu with hu | ⟨hu, hv⟩
    · left; simp only [usesB, Bool.or_eq_true, beq_iff_eq]; exact .inl hu
    · right; exact ⟨by omega, hv.symm⟩

theorem safe_iff {n : Int} {ps : List Int} : safeL n ps = true ↔ ∀ b : Nat, b < n.toNat → cntB n ps (b : Int) ≤ 1 := by
  simp only [safeL, List.all_eq_true, List.mem_range, leI_iff]
  constructor
  · intro h b hb; have := h b hb; omega
  · intro h b hb; have := h b hb; omega

/-- A move that enters no block that is used keeps a traffic safe. -/
theorem safe_mov {n t : Int} {ps : List Int} (hT : isT n ps = true) (hs : safeL n ps = true) (ht : hasT ps t = true)
    (hf : phs (ps[t.toNat]?.getD 0) = 1 → cntB n ps (Int.tmod (blk (ps[t.toNat]?.getD 0) + 1) n) = 0) : safeL n (movL n ps t) = true := by
  have h1 := isT_iff.1 hT
  have h2 := hasT_iff.1 ht
  have hlt : t.toNat < ps.length := by omega
  have e0 : ps[t.toNat]?.getD 0 = ps[t.toNat] := by rw [List.getElem?_eq_getElem hlt]; rfl
  have h3 := h1.2.2 _ (List.getElem_mem hlt)
  rw [e0] at hf
  refine safe_iff.2 fun b hb => ?_
  have h4 := safe_iff.1 hs b hb
  rw [movL, e0, cntB, List.countP_set hlt]
  cases hu : usesB n (Int.tmod (ps[t.toNat] + 1) (3 * n)) (b : Int) with
  | false => unfold cntB at h4; simp; omega
  | true =>
    rcases uses_mov h1.1.1 h3 hu with hv | ⟨hp, hb2⟩
    · unfold cntB at h4
      simp [hv]
      have : 0 < List.countP (fun p => usesB n p (b : Int)) ps := List.countP_pos_iff.2 ⟨_, List.getElem_mem hlt, hv⟩
      omega
    · have := hf hp
      rw [← hb2] at this
      unfold cntB at this
      rw [this]; simp

theorem isSf_iff {n : Int} {ps : List Int} : isSf n ps = true ↔ isT n ps = true ∧ safeL n ps = true := by simp [isSf]

theorem allow_mem {n : Int} {ps : List Int} {t : Int} (h : t ∈ allowL n ps) : hasT ps t = true ∧ isSf n (movL n ps t) = true := by
  simp only [allowL, List.mem_map, List.mem_filter, List.mem_range] at h
  obtain ⟨k, ⟨h1, h2⟩, rfl⟩ := h
  exact ⟨hasT_iff.2 (by omega), h2⟩

/-- Moves of which each is allowed, at once. -/
theorem runM_append (n : Int) : ∀ (ts us ps : List Int), isSf n (runM n ts ps) = true → runM n (ts ++ us) ps = runM n us (runM n ts ps)
  | [], us, ps, _ => rfl
  | t :: ts, us, ps, h => by
    simp only [List.cons_append, runM] at h ⊢
    cases hs : isSf n ps with
    | true => rw [hs] at h; simp only [cond_true] at h ⊢; exact runM_append n ts us _ h
    | false => rw [hs] at h; simp only [cond_false] at h; rw [hs] at h; cases h

/-- A run that ends safe was safe before. -/
theorem runM_pre (n : Int) : ∀ (ts us ps : List Int), isSf n (runM n (ts ++ us) ps) = true → isSf n (runM n ts ps) = true
  | [], us, ps, h => by
    cases us with
    | nil => exact h
    | cons u us =>
      simp only [List.nil_append, runM] at h ⊢
      cases hs : isSf n ps with
      | true => rfl
      | false => rw [hs] at h; simp only [cond_false] at h; rw [hs] at h; cases h
  | t :: ts, us, ps, h => by
    simp only [List.cons_append, runM] at h ⊢
    cases hs : isSf n ps with
    | true => rw [hs] at h; simp only [cond_true] at h ⊢; exact runM_pre n ts us _ h
    | false => rw [hs] at h; simp only [cond_false] at h; rw [hs] at h; cases h

end Go.SX

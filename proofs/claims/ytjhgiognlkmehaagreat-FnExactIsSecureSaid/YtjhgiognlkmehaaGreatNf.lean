/- Traffic, in plain words: the blocks that a train uses. -/
import Derived.Test.YtjhgiognlkmehaaGreatRf
namespace Go.SX
open Go.Proofs
set_option maxRecDepth 100000

/-- The blocks that a train in place p uses. -/
def usedL (n p : Int) : List Int := bif phs p != 2 then [blk p] else sortL [blk p, Int.tmod (blk p + 1) n]

theorem sort_two (a b : Int) : sortL [a, b] = bif leI a b then [a, b] else [b, a] := by
  unfold sortL
  have hp := List.mergeSort_perm [a, b] (fun x y => decide (x ≤ y))
  have hs := List.pairwise_mergeSort (le := fun (x y : Int) => decide (x ≤ y)) (fun x y z h1 h2 => by simp at h1 h2 ⊢; omega) (fun x y => by simp; omega) [a, b]
  generalize hm : List.mergeSort [a, b] (fun x y => decide (x ≤ y)) = l at hp hs
  have hl := hp.length_eq
  match l, hl with
  | [x, y], _ =>
    simp at hs
    have hx : x ∈ [a, b] := hp.subset (by simp)
    simp at hx
    rcases hx with rfl | rfl
    · have := (List.perm_cons x).1 hp
      rw [List.perm_singleton] at this
      simp at this; subst this
      rw [leI_t hs]; rfl
    · have h2 := hp.trans (List.Perm.swap x a [])
      have := (List.perm_cons x).1 h2
      rw [List.perm_singleton] at this
      simp at this; subst this
      cases hq : leI y x with
      | false => rfl
      | true => have := leI_iff.1 hq; have : x = y := by omega
                subst this; rfl

def atI (xs : List Int) (t : Int) : Int := xs[t.toNat]?.getD 0

theorem used_ok (n t : Int) (ps : List Int) (h : mvOk n ps t = true) : loop_example_g00916_impl_Traffic_used_0 n t ps = usedL n (atI ps t) ∧ loop_example_g00916_impl_Traffic_used_1 n t ps = true := by
  obtain ⟨e1, e2, e3, e4, e5, e6, e7, e8⟩ := mov_facts h
  obtain ⟨hT, ht⟩ := mvOk_iff.1 h
  obtain ⟨h1, h2, h3⟩ := isT_iff.1 hT
  have h4 := hasT_iff.1 ht
  have hlt : t.toNat < ps.length := by omega
  have hg : ps[t.toNat]?.getD 0 = ps[t.toNat] := by rw [List.getElem?_eq_getElem hlt]; rfl
  have h5 := h3 _ (List.getElem_mem hlt)
  rw [← hg] at h5
  have f1 : IntKind.i64.wrap (Int.tdiv (ps[t.toNat]?.getD 0) 3) = blk (ps[t.toNat]?.getD 0) := by
    rw [Int.tdiv_eq_ediv_of_nonneg h5.1, blk_eq h5.1, wrap_i64 (by omega) (by omega)]
  have f2 : IntKind.i64.wrap (blk (ps[t.toNat]?.getD 0) + 1) = blk (ps[t.toNat]?.getD 0) + 1 := by rw [blk_eq h5.1, wrap_i64 (by omega) (by omega)]
  have f3 : neI n 0 = true := neI_t (by omega)
  refine ⟨?_, ?_⟩
  · simp only [loop_example_g00916_impl_Traffic_used_a0, loop_example_g00916_impl_Traffic_used_a1, loop_example_g00916_impl_Traffic_used_a2, loop_example_g00916_impl_Traffic_used_0, loop_example_g00916_impl_Traffic_used_1, f1, f2, usedL, phs, atI]
  · simp [loop_example_g00916_impl_Traffic_used_a0, loop_example_g00916_impl_Traffic_used_a1, loop_example_g00916_impl_Traffic_used_a2, loop_example_g00916_impl_Traffic_used_0, loop_example_g00916_impl_Traffic_used_1, e4, e5, e6, f3, allT]

def N_loop_example_g00916_impl_Traffic_used : List SV → List Entry → Option Out
  | [.one ⟨true, [.val (.int .i64 x0), .ref 0]⟩, .one ⟨false, [.val (.int .i64 x1)]⟩], [.row false 2 (.int .i64) x2] => some ⟨(.one ⟨false, [(.ref 1)]⟩), [(.row false 2 (CTy.int IntKind.i64) x2)], [(.row true 2 (CTy.int IntKind.i64) (usedL x0 (atI x2 x1)))], [mvOk x0 x2 x1]⟩
  | _, _ => none

def n_loop_example_g00916_impl_Traffic_used : PF Tryz.prog := PF.alt p_loop_example_g00916_impl_Traffic_used N_loop_example_g00916_impl_Traffic_used (by
  intro args es o h hnd; unfold N_loop_example_g00916_impl_Traffic_used at h; split at h
  · rename_i x0 x1 x2
    cases h
    have hnd := nd_fst hnd
    have hh := used_ok x0 x1 x2 hnd
    obtain ⟨e0, en⟩ := hh
    exact altok rfl (nd_one en) rfl rfl (by simp only [e0] <;> rfl)
  · cases h)

theorem used_facts {n p : Int} (h : okP n p = true) : (∀ u ∈ usedL n p, 0 ≤ u ∧ u < n) ∧ (usedL n p).length ≤ 2 ∧ ∀ b : Nat, (usedL n p).count (b : Int) = bif usesB n p (b : Int) then 1 else 0 := by
  obtain ⟨⟨h1, h2⟩, h3, h4⟩ := okP_iff.1 h
  have hb := blk_eq h3
  have hm : Int.tmod (blk p + 1) n = (blk p + 1) % n := Int.tmod_eq_emod_of_nonneg (by rw [hb]; omega)
  have hb0 : 0 ≤ blk p ∧ blk p < n := by rw [hb]; omega
  have hm0 := Int.emod_nonneg (blk p + 1) (show n ≠ 0 by omega)
  have hm1 := Int.emod_lt_of_pos (blk p + 1) (show 0 < n by omega)
  have hne : (blk p + 1) % n ≠ blk p := by
    by_cases hq : blk p + 1 = n
    · rw [hq, Int.emod_self]; omega
    · rw [Int.emod_eq_of_lt (by omega) (by omega)]; omega
  unfold usedL usesB
  rw [hm, sort_two]
  generalize (blk p + 1) % n = q at *
  generalize blk p = a at *
  cases hp : phs p == 2 with
  | false =>
    simp only [bne, hp, Bool.not_false, cond_true, Bool.false_and, Bool.or_false]
    refine ⟨fun u hu => by simp at hu; omega, by simp, fun b => ?_⟩
    simp only [List.count_cons, List.count_nil]
    cases hab : a == (b : Int) <;> simp [hab]
  | true =>
    simp only [bne, hp, Bool.not_true, cond_false, Bool.true_and]
    have key : ∀ b : Nat, (if (a == (b : Int)) = true then 1 else 0) + (if (q == (b : Int)) = true then 1 else 0) = (bif a == (b : Int) || q == (b : Int) then 1 else 0 : Nat) := by
      intro b
      cases hab : a == (b : Int) <;> cases hqb : q == (b : Int) <;> simp
      have := eq_of_beq hab; have := eq_of_beq hqb; omega
    cases leI a q with
    | true =>
      refine ⟨fun u hu => by simp at hu; omega, by simp, fun b => ?_⟩
      rw [← key b]; simp [List.count_cons]; omega
    | false =>
      refine ⟨fun u hu => by simp at hu; omega, by simp, fun b => ?_⟩
      rw [← key b]; simp [List.count_cons]

end Go.SX

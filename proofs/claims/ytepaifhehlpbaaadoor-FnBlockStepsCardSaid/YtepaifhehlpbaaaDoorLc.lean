/- The drawn laws of blocks. -/
import Derived.Test.YtepaifhehlpbaaaDoorRk
namespace Go.SX
open Go.Proofs
set_option maxRecDepth 100000

theorem src_of {c : List Int} (hb : ∀ (i : Nat) (x : Int), c[i]? = some x → 0 ≤ x ∧ x ≤ 255) (h : laws_big_0 c = false) : srcOk 0 0 c = true := by
  have := ltI_not.1 h
  refine src_iff.2 ⟨by omega, by omega, by omega, fun x hx => ?_⟩
  obtain ⟨i, hi⟩ := List.getElem?_of_mem hx
  exact hb i x hi

theorem sb_ok {k n a b c : Int} {s : ByteArray} {l : List Int} (hB : blockB k s n = true) (hP : possB k n a b c = true) (hA : bitsB (takesK k) l = true) :
    sbCode k s n a b c l = 0 ∧ sbV k s n a b c l = valB k n l (a, b, c) ∧ sbS k s n a b c l = nextB k n l (a, b, c) ∧ possB k n (nextB k n l (a, b, c)).1 (nextB k n l (a, b, c)).2.1 (nextB k n l (a, b, c)).2.2 = true := by
  have h0 : sbCode k s n a b c l = 0 := by simp [sbCode, codeV, hB, hP, hA]
  exact ⟨h0, by simp [sbV, h0], by simp [sbS, h0], (nextB_eq hB hP hA).2⟩

theorem runG_pre (k n : Int) : ∀ (r : List (List Int)) (a : BS × List Int), ∃ t, (r.foldl (runG k n) a).2 = a.2 ++ t
  | [], a => ⟨[], by simp⟩
  | l :: r, a => by
    obtain ⟨t, ht⟩ := runG_pre k n r (runG k n a l)
    exact ⟨valB k n l a.1 :: t, by rw [List.foldl_cons, ht]; simp [runG]⟩

/-- The state before a step of a run. -/
def atB (k n : Int) (ll : List (List Int)) (i : Nat) : BS := ((ll.take i).foldl (runG k n) ((0, 0, 0), [])).1

theorem atB_next (k n : Int) (ll : List (List Int)) (i : Nat) (l : List Int) (h : ll[i]? = some l) : atB k n ll (i + 1) = nextB k n l (atB k n ll i) := by
  simp only [atB]
  rw [List.take_add_one, h, Option.toList_some, List.foldl_append]
  rfl

theorem atB_val (k n : Int) (ll : List (List Int)) (i : Nat) (l : List Int) (h : ll[i]? = some l) : (runB k n ll).2[i]? = some (valB k n l (atB k n ll i)) := by
  have e : ll = ll.take i ++ l :: ll.drop (i + 1) := by
    have hi := (List.getElem?_eq_some_iff.1 h)
    obtain ⟨hi, rfl⟩ := hi
    rw [List.getElem_cons_drop, List.take_append_drop]
  have hi := (List.getElem?_eq_some_iff.1 h).1
  have hl := runG_len k n (ll.take i) ((0, 0, 0), [])
  have key : (runB k n ll).2 = ((ll.drop (i + 1)).foldl (runG k n) (runG k n ((ll.take i).foldl (runG k n) ((0, 0, 0), [])) l)).2 := by
    conv => lhs; rw [runB, e]
    rw [List.foldl_append, List.foldl_cons]
  obtain ⟨t, ht⟩ := runG_pre k n (ll.drop (i + 1)) (runG k n ((ll.take i).foldl (runG k n) ((0, 0, 0), [])) l)
  have hl2 : ((ll.take i).foldl (runG k n) ((0, 0, 0), [])).2.length = i := by rw [hl]; simp; omega
  rw [key, ht]
  simp only [runG, List.append_assoc]
  rw [List.getElem?_append_right (by omega), hl2]
  simp [atB]

theorem atB_poss {k n : Int} {s : ByteArray} (hB : blockB k s n = true) (ll : List (List Int)) (i : Nat) (hA : ∀ x ∈ ll, bitsB (takesK k) x = true) : possB k n (atB k n ll i).1 (atB k n ll i).2.1 (atB k n ll i).2.2 = true :=
  runG_poss hB (ll.take i) ((0, 0, 0), []) (fun x hx => hA x (List.mem_of_mem_take hx)) (poss0 hB)

theorem steps_loop {k n : Int} {s : ByteArray} (hB : blockB k s n = true) (hs : s.size ≤ 1) (ll : List (List Int)) (hA : ∀ x ∈ ll, bitsB (takesK k) x = true) (hl : ll.length ≤ 200) (hl2 : ∀ x ∈ ll, x.length ≤ 2) :
    lp_laws_FnBlockSteps_l0.fin (0, ll, k, s, n, 0, 0, 0, (runB k n ll).2) = true ∧
    ∃ j r, lp_laws_FnBlockSteps_l0.res (0, ll, k, s, n, 0, 0, 0, (runB k n ll).2) = (j, r) ∧ (j = 1 ∧ r.2.2.2.2.2.1 = (runB k n ll).1.1 ∧ r.2.2.2.2.2.2.1 = (runB k n ll).1.2.1 ∧ r.2.2.2.2.2.2.2.1 = (runB k n ll).1.2.2) := by
  refine lp_laws_FnBlockSteps_l0.inv (fun m x => m ≤ ll.length ∧ x = (((ll.length - m : Nat) : Int), ll, k, s, n, (atB k n ll (ll.length - m)).1, (atB k n ll (ll.length - m)).2.1, (atB k n ll (ll.length - m)).2.2, (runB k n ll).2))
    (fun j r => j = 1 ∧ r.2.2.2.2.2.1 = (runB k n ll).1.1 ∧ r.2.2.2.2.2.2.1 = (runB k n ll).1.2.1 ∧ r.2.2.2.2.2.2.2.1 = (runB k n ll).1.2.2)
    (fun m x hx => .inr ?_) (fun x hx => ?_) ll.length _ (by omega) ⟨Nat.le_refl _, by simp [atB]⟩
  · obtain ⟨hm, rfl⟩ := hx
    have e : ll.length - m = (ll.length - (m + 1)) + 1 := by omega
    generalize hi : ll.length - (m + 1) = i at *
    have hlt : i < ll.length := by omega
    have hg : ll[i]? = some ll[i] := List.getElem?_eq_getElem hlt
    have hmem : ll[i] ∈ ll := List.getElem_mem hlt
    have a0 : laws_FnBlockSteps_l0_a0 (i : Int) ll = ll[i] := by simp only [laws_FnBlockSteps_l0_a0, Int.toNat_natCast, hg]; rfl
    have hp := atB_poss hB ll i hA
    obtain ⟨c0, c1, c2, c3⟩ := sb_ok hB hp (hA _ hmem)
    have hv := atB_val k n ll i _ hg
    have hn := atB_next k n ll i _ hg
    have hl3 : (runB k n ll).2.length = ll.length := by rw [runB, runG_len]; simp
    have t1 : ltI (i : Int) (ll.length : Int) = true := ltI_t (by omega)
    have t2 : leI 0 (i : Int) = true := leI_t (by omega)
    have t3 : ltN i ll.length = true := ltN_t hlt
    have t4 : leN s.size 9223372036854775807 = true := leN_t (by omega)
    have t5 : leN ll[i].length 9223372036854775807 = true := leN_t (by have := hl2 _ hmem; omega)
    have hpos : isPos k s n (nextB k n ll[i] (atB k n ll i)).1 (nextB k n ll[i] (atB k n ll i)).2.1 (nextB k n ll[i] (atB k n ll i)).2.2 = true := by simp only [isPos, hB, Bool.true_and]; exact c3
    have hw : IntKind.i64.wrap ((i : Int) + 1) = ((i + 1 : Nat) : Int) := by rw [wrap_i64 (by omega) (by omega)]; omega
    refine ⟨_, ?_, by omega, rfl⟩
    rw [e, hn]
    simp only [lp_laws_FnBlockSteps_l0, lt_laws_FnBlockSteps_l0, LT.out, laws_FnBlockSteps_l0_0, laws_FnBlockSteps_l0_1, laws_FnBlockSteps_l0_2, laws_FnBlockSteps_l0_3, laws_FnBlockSteps_l0_4, laws_FnBlockSteps_l0_5, laws_FnBlockSteps_l0_6, laws_FnBlockSteps_l0_7, laws_FnBlockSteps_l0_8, laws_FnBlockSteps_l0_9, laws_FnBlockSteps_l0_10, laws_FnBlockSteps_l0_11, laws_FnBlockSteps_l0_a1, laws_FnBlockSteps_l0_a2, laws_FnBlockSteps_l0_a3, laws_FnBlockSteps_l0_a4, a0, c0, c1, c2, t1, t2, t3, t4, t5, hl3, hv, hpos, hw, Int.toNat_natCast, Option.getD_some, allT, cond_true]
    simp [hpos]
  · obtain ⟨_, rfl⟩ := hx
    refine ⟨1, ?_, rfl, ?_, ?_, ?_⟩
    · simp [lp_laws_FnBlockSteps_l0, lt_laws_FnBlockSteps_l0, LT.out, laws_FnBlockSteps_l0_0, show ltI (ll.length : Int) (ll.length : Int) = false from ltI_f (by omega)]
    all_goals simp only [Nat.sub_zero, atB, List.take_length, runB]

theorem rb_zero {k n : Int} {s : ByteArray} {ll : List (List Int)} (h : rbCode k s n ll = 0) : blockB k s n = true ∧ ll.length ≤ 200 ∧ (∀ x ∈ ll, bitsB (takesK k) x = true) ∧ rbS k s n ll = (runB k n ll).1 ∧ rbV k s n ll = (runB k n ll).2 := by
  refine ⟨?_, ?_, ?_, by simp [rbS, h], by simp [rbV, h]⟩ <;> simp only [rbCode] at h <;> cases hB : blockB k s n <;> cases h2 : ltI 200 (ll.length : Int) <;> cases h3 : ll.all (bitsB (takesK k)) <;> simp [hB, h2, h3] at h ⊢
  · exact by have := ltI_not.1 h2; omega
  · exact List.all_eq_true.1 h3

theorem law_BlockSteps (c : List Int) (w : wfD (.sl 5 (.int .u8)) c) : laws_FnBlockSteps_0 c = true ∧ laws_FnBlockSteps_1 c = true := by
  have hb : ∀ (i : Nat) (x : Int), c[i]? = some x → 0 ≤ x ∧ x ≤ 255 := fun i x hx => wf_u8 (w.2 x (List.mem_of_getElem? hx))
  cases hbig : laws_big_0 c with
  | true => simp [laws_FnBlockSteps_0, laws_FnBlockSteps_1, allT, hbig]
  | false =>
    have hsrc := src_of hb hbig
    obtain ⟨_, hs, hl⟩ := drawRun_ok hsrc
    generalize hK : spec_DrawRunBlock_0 c = k
    generalize hS : spec_DrawRunBlock_1 c = s at hs
    generalize hN : spec_DrawRunBlock_2 c = n
    generalize hL : spec_DrawRunBlock_3 c = ll at hl
    have t1 : ssOk 9223372036854775807 ll = true := ss_iff.2 ⟨by have := hl.1; omega, fun x hx => by have := hl.2 x hx; omega⟩
    have t2 : leN s.size 9223372036854775807 = true := leN_t (by omega)
    have t3 : leN (rbV k s n ll).length 9223372036854775807 = true := leN_t (by have := rbV_len k s n ll; omega)
    have a0 : laws_FnBlockSteps_a0 c = false := by simp [laws_FnBlockSteps_a0]
    have a3 : laws_FnBlockSteps_a3 c = false := by simp [laws_FnBlockSteps_a3, a0, eqL_refl]
    have a4 : laws_FnBlockSteps_a4 c = false := by simp [laws_FnBlockSteps_a4, a3]
    have a5 : laws_FnBlockSteps_a5 c = (rbCode k s n ll != 0) := by simp only [laws_FnBlockSteps_a5, hK, hS, hN, hL]
    have a6 : laws_FnBlockSteps_a6 c = (0, ll, k, s, n, 0, 0, 0, rbV k s n ll) := by simp only [laws_FnBlockSteps_a6, hK, hS, hN, hL, Bool.cond_self]
    have a1 : laws_FnBlockSteps_a1 c = (rbS k s n ll).1 := by simp only [laws_FnBlockSteps_a1, hK, hS, hN, hL]
    have a2 : laws_FnBlockSteps_a2 c = (rbS k s n ll).2 := by simp only [laws_FnBlockSteps_a2, hK, hS, hN, hL]
    simp only [laws_FnBlockSteps_0, laws_FnBlockSteps_1, laws_FnBlockSteps_a7, allT, hbig, hsrc, a0, a1, a2, a3, a4, a5, a6, hK, hS, hN, hL, t1, t2, t3]
    by_cases h0 : rbCode k s n ll = 0
    · obtain ⟨hB, h200, hA, e1, e2⟩ := rb_zero h0
      obtain ⟨r1, j, r, r2, r3, r4, r5, r6⟩ := steps_loop hB hs ll hA h200 hl.2
      rw [e1, e2]
      simp only [r1, r2, r3, r4, r5, r6, h0]
      simp [Nat.beq]
    · simp [h0]

/-! ### Pairs -/

end Go.SX

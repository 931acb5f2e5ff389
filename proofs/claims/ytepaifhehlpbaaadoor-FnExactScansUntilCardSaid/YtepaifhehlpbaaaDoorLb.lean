/- The program's ScansUntil answers as the reference's: in plain words. -/
import Derived.Test.YtepaifhehlpbaaaDoorLa
namespace Go.SX
open Go.Proofs
set_option maxRecDepth 100000

/-- A block's state. -/
abbrev BS := Int × Int × Int

def nextB (k n : Int) (l : List Int) (s : BS) : BS := (spec_l15Step_1 k n s.1 s.2.1 s.2.2 l, spec_l15Step_2 k s.2.1 s.2.2 l, spec_l15Step_3 k n s.1 s.2.2 l)
def valB (k n : Int) (l : List Int) (s : BS) : Int := spec_l15Step_0 k n s.1 s.2.1 s.2.2 l

/-- How many scans there may still be before a state no longer changes. -/
def mu (k n : Int) (l : List Int) (s : BS) : Nat :=
  bif k == 7 && l == [1] then (n - s.1).toNat + 1
  else bif k == 12 && (s.2.2 == 0 && (l == [1, 0] || l == [0, 1])) then (n + 1 - s.1).toNat
  else bif decide (nextB k n l s = s) then 0 else 1

theorem mu_le {k n : Int} {l : List Int} {s : BS} (hn : 0 ≤ n ∧ n ≤ 9999) (hs : 0 ≤ s.1) : mu k n l s ≤ 10000 := by
  unfold mu
  cases (k == 7 && l == [1]) with
  | true => simp; omega
  | false =>
    cases (k == 12 && (s.2.2 == 0 && (l == [1, 0] || l == [0, 1]))) with
    | true => simp; omega
    | false => cases decide (nextB k n l s = s) <;> simp

theorem mu_step {k n a b c : Int} {s : ByteArray} {l : List Int} (hB : blockB k s n = true) (hP : possB k n a b c = true) (hA : bitsB (takesK k) l = true) (hv : valB k n l (a, b, c) ≠ 1) (hne : nextB k n l (a, b, c) ≠ (a, b, c)) :
    mu k n l (nextB k n l (a, b, c)) < mu k n l (a, b, c) := by
  obtain ⟨hk, hn, _⟩ := blockB_iff hB
  have hwa := (poss_iff hP hn).1
  have hb := (poss_iff hP hn).2.1
  have hc := (poss_iff hP hn).2.2
  have hw : IntKind.i64.wrap (n + 1) = n + 1 := wrap_i64 (by omega) (by omega)
  have hwa1 : IntKind.i64.wrap (a + 1) = a + 1 := wrap_i64 (by omega) (by omega)
  have hwa2 : IntKind.i64.wrap (a - 1) = a - 1 := wrap_i64 (by omega) (by omega)
  have hm : IntKind.i64.wrap (min (a + 1) n) = min (a + 1) n := wrap_i64 (by omega) (by omega)
  have hm2 : IntKind.i64.wrap (min n (a + 1)) = min n (a + 1) := wrap_i64 (by omega) (by omega)
  have h01 : IntKind.i64.wrap (0 + 1) = 1 := rfl
  have n0 : IntKind.i64.wrap 0 = 0 := rfl
  have w1 : IntKind.i64.wrap 1 = 1 := rfl
  have l12 : ltI 1 2 = true := rfl
  have hp := hP
  rcases kinds hk with rfl | rfl | rfl | rfl | rfl | rfl
  · obtain ⟨x, rfl, hx⟩ := args_one hA
    simp [possB, spec_l15Possible_0, spec_l01In_0] at hp
    rcases hx with rfl | rfl <;> revert hv hne <;> simp only [mu, nextB, valB, spec_l15Step_a0, spec_l15Step_a1, spec_l15Step_a2, spec_l15Step_a3, spec_l15Step_a4, spec_l15Step_a5, spec_l15Step_a6, spec_l15Step_a7, spec_l15Step_a8, spec_l15Step_0, spec_l15Step_1, spec_l15Step_2, spec_l15Step_3, spec_l15Step_4, spec_l15Pair_a0, spec_l15Pair_a1, spec_l15Pair_a2, spec_l15Pair_a3, spec_l15Pair_a4, spec_l15Pair_0, spec_l15Pair_1, spec_l15Pair_2, spec_l15Pair_3, spec_l15Bit_0, min_one, max_one] <;> simp [hw, hwa1, hwa2, hm, hm2, h01, n0, w1, l12, hp, Bool.cond_eq_ite] <;> (repeat' split) <;> omega
  · obtain ⟨x, rfl, hx⟩ := args_one hA
    simp [possB, spec_l15Possible_0, spec_l01In_0] at hp
    rcases hx with rfl | rfl <;> revert hv hne <;> simp only [mu, nextB, valB, spec_l15Step_a0, spec_l15Step_a1, spec_l15Step_a2, spec_l15Step_a3, spec_l15Step_a4, spec_l15Step_a5, spec_l15Step_a6, spec_l15Step_a7, spec_l15Step_a8, spec_l15Step_0, spec_l15Step_1, spec_l15Step_2, spec_l15Step_3, spec_l15Step_4, spec_l15Pair_a0, spec_l15Pair_a1, spec_l15Pair_a2, spec_l15Pair_a3, spec_l15Pair_a4, spec_l15Pair_0, spec_l15Pair_1, spec_l15Pair_2, spec_l15Pair_3, spec_l15Bit_0, min_one, max_one] <;> simp [hw, hwa1, hwa2, hm, hm2, h01, n0, w1, l12, hp, Bool.cond_eq_ite] <;> (repeat' split) <;> omega
  · obtain ⟨x, rfl, hx⟩ := args_one hA
    simp [possB, spec_l15Possible_0, spec_l01In_0] at hp
    rcases hx with rfl | rfl <;> revert hv hne <;> simp only [mu, nextB, valB, spec_l15Step_a0, spec_l15Step_a1, spec_l15Step_a2, spec_l15Step_a3, spec_l15Step_a4, spec_l15Step_a5, spec_l15Step_a6, spec_l15Step_a7, spec_l15Step_a8, spec_l15Step_0, spec_l15Step_1, spec_l15Step_2, spec_l15Step_3, spec_l15Step_4, spec_l15Pair_a0, spec_l15Pair_a1, spec_l15Pair_a2, spec_l15Pair_a3, spec_l15Pair_a4, spec_l15Pair_0, spec_l15Pair_1, spec_l15Pair_2, spec_l15Pair_3, spec_l15Bit_0, min_one, max_one] <;> simp [hw, hwa1, hwa2, hm, hm2, h01, n0, w1, l12, hp, Bool.cond_eq_ite] <;> (repeat' split) <;> omega
  · obtain ⟨x, y, rfl, hx, hy⟩ := args_two hA
    simp [possB, spec_l15Possible_0, spec_l01In_0] at hp
    rcases hx with rfl | rfl <;> rcases hy with rfl | rfl <;> revert hv hne <;> simp only [mu, nextB, valB, spec_l15Step_a0, spec_l15Step_a1, spec_l15Step_a2, spec_l15Step_a3, spec_l15Step_a4, spec_l15Step_a5, spec_l15Step_a6, spec_l15Step_a7, spec_l15Step_a8, spec_l15Step_0, spec_l15Step_1, spec_l15Step_2, spec_l15Step_3, spec_l15Step_4, spec_l15Pair_a0, spec_l15Pair_a1, spec_l15Pair_a2, spec_l15Pair_a3, spec_l15Pair_a4, spec_l15Pair_0, spec_l15Pair_1, spec_l15Pair_2, spec_l15Pair_3, spec_l15Bit_0, min_one, max_one] <;> simp [hw, hwa1, hwa2, hm, hm2, h01, n0, w1, l12, hp, Bool.cond_eq_ite] <;> (repeat' split) <;> omega
  · obtain ⟨x, y, rfl, hx, hy⟩ := args_two hA
    rcases hb with rfl | rfl <;> rcases hc with rfl | rfl <;> rcases hx with rfl | rfl <;> rcases hy with rfl | rfl <;> simp [possB, spec_l15Possible_0, spec_l01In_0, hw] at hp <;> revert hv hne <;> simp only [mu, nextB, valB, spec_l15Step_a0, spec_l15Step_a1, spec_l15Step_a2, spec_l15Step_a3, spec_l15Step_a4, spec_l15Step_a5, spec_l15Step_a6, spec_l15Step_a7, spec_l15Step_a8, spec_l15Step_0, spec_l15Step_1, spec_l15Step_2, spec_l15Step_3, spec_l15Step_4, spec_l15Pair_a0, spec_l15Pair_a1, spec_l15Pair_a2, spec_l15Pair_a3, spec_l15Pair_a4, spec_l15Pair_0, spec_l15Pair_1, spec_l15Pair_2, spec_l15Pair_3, spec_l15Bit_0, min_one, max_one] <;> simp [hw, hwa1, hwa2, hm, hm2, h01, n0, w1, l12, hp, Bool.cond_eq_ite] <;> (repeat' split) <;> omega
  · obtain ⟨x, y, rfl, hx, hy⟩ := args_two hA
    rcases hb with rfl | rfl <;> rcases hc with rfl | rfl <;> rcases hx with rfl | rfl <;> rcases hy with rfl | rfl <;> simp [possB, spec_l15Possible_0, spec_l01In_0, hw] at hp <;> revert hv hne <;> simp only [mu, nextB, valB, spec_l15Step_a0, spec_l15Step_a1, spec_l15Step_a2, spec_l15Step_a3, spec_l15Step_a4, spec_l15Step_a5, spec_l15Step_a6, spec_l15Step_a7, spec_l15Step_a8, spec_l15Step_0, spec_l15Step_1, spec_l15Step_2, spec_l15Step_3, spec_l15Step_4, spec_l15Pair_a0, spec_l15Pair_a1, spec_l15Pair_a2, spec_l15Pair_a3, spec_l15Pair_a4, spec_l15Pair_0, spec_l15Pair_1, spec_l15Pair_2, spec_l15Pair_3, spec_l15Bit_0, min_one, max_one] <;> simp [hw, hwa1, hwa2, hm, hm2, h01, n0, w1, l12, hp, Bool.cond_eq_ite] <;> (repeat' split) <;> omega

/-! ### The two loops -/

abbrev SX0 := Int × Int × ByteArray × Int × Int × Int × Int × List Int

theorem nextB_eq {k n a b c : Int} {s : ByteArray} {l : List Int} (hB : blockB k s n = true) (hP : possB k n a b c = true) (hA : bitsB (takesK k) l = true) :
    (impl_step_1 k n a b c l, impl_step_2 k b c l, impl_step_3 k n a b c l) = nextB k n l (a, b, c) ∧ possB k n (nextB k n l (a, b, c)).1 (nextB k n l (a, b, c)).2.1 (nextB k n l (a, b, c)).2.2 = true := by
  obtain ⟨_, e1, e2, e3, _, _, e6⟩ := step_eq hB hP hA
  exact ⟨by rw [e1, e2, e3]; rfl, e6⟩

theorem spec_out {k n a b c y0 : Int} {s : ByteArray} {l : List Int} (hB : blockB k s n = true) (hP : possB k n a b c = true) (hA : bitsB (takesK k) l = true) (h0 : 1 ≤ y0) (h1 : y0 ≤ 10002) :
    (lp_spec_ScansUntil_l0.lt (y0, k, s, n, a, b, c, l)).out = some (bif valB k n l (a, b, c) == 1 then .inl 0 else .inr (y0 + 1, k, s, n, (nextB k n l (a, b, c)).1, (nextB k n l (a, b, c)).2.1, (nextB k n l (a, b, c)).2.2, l)) := by
  obtain ⟨_, _, _, _, _, e5, _⟩ := step_eq hB hP hA
  have hw : IntKind.i64.wrap (y0 + 1) = y0 + 1 := wrap_i64 (by omega) (by omega)
  have hl : leI y0 10002 = true := leI_t h1
  show (lt_spec_ScansUntil_l0 (y0, k, s, n, a, b, c, l)).out = _
  simp only [lt_spec_ScansUntil_l0, LT.out, spec_ScansUntil_l0_0, spec_ScansUntil_l0_1, spec_ScansUntil_l0_2, spec_ScansUntil_l0_3, spec_ScansUntil_l0_4, spec_ScansUntil_l0_5, spec_ScansUntil_l0_6, hl, e5, hw, allT, cond_true, valB, nextB]
  cases spec_l15Step_0 k n a b c l == 1 <;> rfl

theorem impl_out {k n a b c y0 : Int} {s : ByteArray} {l : List Int} (hB : blockB k s n = true) (hP : possB k n a b c = true) (hA : bitsB (takesK k) l = true) (h0 : 1 ≤ y0) (h1 : y0 ≤ 10002) :
    (lp_impl_ScansUntil_l0.lt (y0, k, s, n, a, b, c, l)).out = some (bif valB k n l (a, b, c) == 1 then .inl 0 else bif decide (nextB k n l (a, b, c) = (a, b, c)) then .inl 1 else .inr (y0 + 1, k, s, n, (nextB k n l (a, b, c)).1, (nextB k n l (a, b, c)).2.1, (nextB k n l (a, b, c)).2.2, l)) := by
  obtain ⟨e0, e1, e2, e3, e4, _, _⟩ := step_eq hB hP hA
  have hw : IntKind.i64.wrap (y0 + 1) = y0 + 1 := wrap_i64 (by omega) (by omega)
  show (lt_impl_ScansUntil_l0 (y0, k, s, n, a, b, c, l)).out = _
  have hd : impl_ScansUntil_l0_2 k n a b c l = decide (nextB k n l (a, b, c) = (a, b, c)) := by
    simp only [impl_ScansUntil_l0_2, e1, e2, e3, nextB, Prod.mk.injEq]
    rw [Bool.eq_iff_iff]
    cases h1 : spec_l15Step_1 k n a b c l == a <;> cases h2 : spec_l15Step_2 k b c l == b <;> cases h3 : spec_l15Step_3 k n a c l == c <;> simp_all
  simp only [lt_impl_ScansUntil_l0, LT.out, impl_ScansUntil_l0_0, impl_ScansUntil_l0_1, impl_ScansUntil_l0_3, impl_ScansUntil_l0_4, impl_ScansUntil_l0_5, impl_ScansUntil_l0_6, hd, e0, e1, e2, e3, e4, hw, allT, cond_true, valB, nextB]
  have hap : ∀ (d e : Bool) (u v w : Nat ⊕ SX0), (bif d then some u else bif e then some v else some w) = some (bif d then u else bif e then v else w) := fun d e u v w => by cases d <;> cases e <;> rfl
  exact hap _ _ _ _ _

/-- A state that stays, and gives no 1. -/
theorem spec_stays {k n a b c : Int} {s : ByteArray} {l : List Int} (hB : blockB k s n = true) (hP : possB k n a b c = true) (hA : bitsB (takesK k) l = true) (hv : (valB k n l (a, b, c) == 1) = false) (hn : nextB k n l (a, b, c) = (a, b, c)) :
    ∀ (m : Nat) (y0 : Int), 1 ≤ y0 → y0 + m = 10003 → runL lp_spec_ScansUntil_l0.lt (m + 1) (y0, k, s, n, a, b, c, l) = some (1, (10003, k, s, n, a, b, c, l))
  | 0, y0, h0, h1 => by
    have : y0 = 10003 := by omega
    subst this
    refine runL_end _ ?_
    show (lt_spec_ScansUntil_l0 (10003, k, s, n, a, b, c, l)).out = _
    simp only [lt_spec_ScansUntil_l0, LT.out, spec_ScansUntil_l0_0, show leI 10003 10002 = false from rfl, cond_false]
  | m + 1, y0, h0, h1 => by
    have ho := spec_out hB hP hA h0 (by omega)
    rw [hv, cond_false, hn] at ho
    rw [runL_next _ ho]
    exact spec_stays hB hP hA hv hn m (y0 + 1) (by omega) (by omega)

theorem scans_run {k n : Int} {s : ByteArray} {l : List Int} (hB : blockB k s n = true) (hA : bitsB (takesK k) l = true) : ∀ (m : Nat) (a b c y0 : Int), possB k n a b c = true → mu k n l (a, b, c) ≤ m → 1 ≤ y0 → y0 + m ≤ 10002 →
    ∃ j y x x', j ≤ 1 ∧ runL lp_impl_ScansUntil_l0.lt (m + 1) (y0, k, s, n, a, b, c, l) = some (j, (y, x)) ∧ (∃ M : Nat, M + y0 ≤ 10004 ∧ runL lp_spec_ScansUntil_l0.lt M (y0, k, s, n, a, b, c, l) = some (j, x')) ∧ (j = 0 → x'.1 = y ∧ y0 ≤ y ∧ y ≤ y0 + m) := by
  intro m
  induction m with
  | zero =>
    intro a b c y0 hP hm h0 h1
    have ho := impl_out hB hP hA h0 (by omega)
    have hs := spec_out hB hP hA h0 (by omega)
    cases hv : (valB k n l (a, b, c) == 1) with
    | true =>
      rw [hv, cond_true] at ho hs
      exact ⟨0, y0, _, _, by omega, runL_end _ ho, ⟨1, by omega, runL_end _ hs⟩, fun _ => ⟨rfl, by omega, by omega⟩⟩
    | false =>
      by_cases hn : nextB k n l (a, b, c) = (a, b, c)
      · rw [hv, cond_false, decide_eq_true hn, cond_true] at ho
        obtain ⟨M, hM⟩ : ∃ M : Nat, y0 + M = 10003 := ⟨(10003 - y0).toNat, by omega⟩
        exact ⟨1, y0, _, _, by omega, runL_end _ ho, ⟨M + 1, by omega, spec_stays hB hP hA hv hn M y0 h0 hM⟩, fun h => by cases h⟩
      · have := mu_step hB hP hA (by simpa using hv) hn
        omega
  | succ m ih =>
    intro a b c y0 hP hm h0 h1
    have ho := impl_out hB hP hA h0 (by omega)
    have hs := spec_out hB hP hA h0 (by omega)
    cases hv : (valB k n l (a, b, c) == 1) with
    | true =>
      rw [hv, cond_true] at ho hs
      exact ⟨0, y0, _, _, by omega, runL_end _ ho, ⟨1, by omega, runL_end _ hs⟩, fun _ => ⟨rfl, by omega, by omega⟩⟩
    | false =>
      by_cases hn : nextB k n l (a, b, c) = (a, b, c)
      · rw [hv, cond_false, decide_eq_true hn, cond_true] at ho
        obtain ⟨M, hM⟩ : ∃ M : Nat, y0 + M = 10003 := ⟨(10003 - y0).toNat, by omega⟩
        exact ⟨1, y0, _, _, by omega, runL_end _ ho, ⟨M + 1, by omega, spec_stays hB hP hA hv hn M y0 h0 hM⟩, fun h => by cases h⟩
      · rw [hv, cond_false, decide_eq_false hn, cond_false] at ho
        rw [hv, cond_false] at hs
        have hlt : mu k n l ((nextB k n l (a, b, c)).1, (nextB k n l (a, b, c)).2.1, (nextB k n l (a, b, c)).2.2) < mu k n l (a, b, c) := mu_step hB hP hA (by simpa using hv) hn
        obtain ⟨j, y, x, x', q1, q2, ⟨M, q3, q4⟩, q5⟩ := ih _ _ _ (y0 + 1) (nextB_eq hB hP hA).2 (by omega) (by omega) (by omega)
        refine ⟨j, y, x, x', q1, by rw [runL_next _ ho]; exact q2, ?_, fun hj => ?_⟩
        · exact ⟨M + 1, by omega, by rw [runL_next _ hs]; exact q4⟩
        · obtain ⟨u1, u2, u3⟩ := q5 hj; exact ⟨u1, by omega, by omega⟩

/-- The program's ScansUntil and the reference's. -/
theorem scans_eq (k : Int) (s : ByteArray) (n a b c : Int) (l : List Int) (hs : s.size ≤ 9223372036854775807) (hl : l.length ≤ 9223372036854775807) :
    impl_ScansUntil_0 k s n a b c l = spec_ScansUntil_0 k s n a b c l ∧ impl_ScansUntil_1 k s n a b c l = spec_ScansUntil_1 k s n a b c l ∧ impl_ScansUntil_2 k s n a b c l = true ∧ spec_ScansUntil_2 k s n a b c l = true := by
  have l1 : leN s.size 9223372036854775807 = true := leN_t hs
  have l2 : leN l.length 9223372036854775807 = true := leN_t hl
  have l3 : ssOk 9223372036854775807 [l] = true := ss_iff.2 ⟨by simp, by simpa using hl⟩
  cases h : (codeV k s n a b c [l] != 0) with
  | true => simp [impl_ScansUntil_a0, impl_ScansUntil_a1, impl_ScansUntil_a2, impl_ScansUntil_a3, impl_ScansUntil_0, impl_ScansUntil_1, impl_ScansUntil_2, spec_ScansUntil_a0, spec_ScansUntil_a1, spec_ScansUntil_a2, spec_ScansUntil_a3, spec_ScansUntil_0, spec_ScansUntil_1, spec_ScansUntil_2, h, allT, l1, l2, l3]
  | false =>
    have h0 : codeV k s n a b c [l] = 0 := by simpa using h
    obtain ⟨h1, h2, h3⟩ := specCode_eq _ _ _ _ _ _ _ h0
    have hn := (blockB_iff h1).2.1
    have hm := mu_le (k := k) (l := l) (s := (a, b, c)) hn (poss_iff h2 hn).1.1
    obtain ⟨j, y, x, x', q1, q2, ⟨M, q3, q4⟩, q5⟩ := scans_run h1 h3 10000 a b c 1 h2 hm (by omega) (by omega)
    obtain ⟨i1, i2⟩ := lp_impl_ScansUntil_l0.run q2 (by rw [big_eq]; exact Nat.le_trans (show 10001 ≤ 1000 ^ 4 by decide) (Nat.pow_le_pow_left (by omega) 4))
    obtain ⟨j1, j2⟩ := lp_spec_ScansUntil_l0.run q4 (by rw [big_eq]; exact Nat.le_trans (Nat.le_trans (show M ≤ 10004 by omega) (show 10004 ≤ 1000 ^ 4 by decide)) (Nat.pow_le_pow_left (by omega) 4))
    simp only [impl_ScansUntil_a0, impl_ScansUntil_a1, impl_ScansUntil_a2, impl_ScansUntil_a3, impl_ScansUntil_0, impl_ScansUntil_1, impl_ScansUntil_2, spec_ScansUntil_a0, spec_ScansUntil_a1, spec_ScansUntil_a2, spec_ScansUntil_a3, spec_ScansUntil_0, spec_ScansUntil_1, spec_ScansUntil_2, h, allT, l1, l2, l3, i1, i2, j1, j2, cond_false, cond_true, Bool.and_self, Bool.false_or]
    match j, q1, q5 with
    | 0, _, q5 =>
      obtain ⟨u1, _, _⟩ := q5 rfl
      simp [Nat.beq, u1]
    | 1, _, _ => simp [Nat.beq]

theorem law_ScansUntil (x0 : Int) (x1 : ByteArray) (x2 x3 x4 x5 : Int) (x6 : List Int) (w1 : wfD .str x1) (w6 : wfD (.sl 2 (.int .i64)) x6) : laws_FnExactScansUntil_0 x0 x1 x2 x3 x4 x5 x6 = true ∧ laws_FnExactScansUntil_1 x0 x1 x2 x3 x4 x5 x6 = true := by
  have hs : x1.size ≤ 9223372036854775807 := w1
  have hl : x6.length ≤ 9223372036854775807 := w6.1
  obtain ⟨e0, e1, n1, n2⟩ := scans_eq x0 x1 x2 x3 x4 x5 x6 hs hl
  cases hb : ltI 1048576 (x6.length : Int) with
  | true => simp [laws_FnExactScansUntil_a0, laws_FnExactScansUntil_a1, laws_FnExactScansUntil_a2, laws_FnExactScansUntil_0, laws_FnExactScansUntil_1, hb, allT, leN_t hl]
  | false =>
    have hb' := ltI_not.1 hb
    have l1 : leN x6.length 1048576 = true := leN_t (by omega)
    have l2 : leN x6.length 9223372036854775807 = true := leN_t hl
    simp [laws_FnExactScansUntil_a0, laws_FnExactScansUntil_a1, laws_FnExactScansUntil_a2, laws_FnExactScansUntil_0, laws_FnExactScansUntil_1, hb, allT, l1, l2, e0, e1, n1, n2, eqL_refl]

end Go.SX

/- What is drawn: the source of numbers stays a source, and nothing that is drawn stops the program. -/
import Derived.Test.YtofbpbijfhfnoaaRb
namespace Go.SX
open Go.Proofs
set_option maxRecDepth 100000

/-- A source of numbers: where it stands, its seed, its code. -/
structure Src (at' seed : Int) (code : List Int) : Prop where
  h0 : 0 ≤ at'
  h1 : at' ≤ 4096
  s0 : 0 ≤ seed
  s1 : seed < 2147483647
  hn : code.length ≤ 4096
  hb : ∀ (i : Nat) (x : Int), code[i]? = some x → 0 ≤ x ∧ x ≤ 255

theorem tmod_pos {x n : Int} (h : 0 ≤ x) (hn : 0 < n) : 0 ≤ Int.tmod x n ∧ Int.tmod x n < n := by
  rw [Int.tmod_eq_emod_of_nonneg h]
  exact ⟨Int.emod_nonneg _ (by omega), Int.emod_lt_of_pos _ hn⟩

theorem code_get {code : List Int} (hb : ∀ (i : Nat) (x : Int), code[i]? = some x → 0 ≤ x ∧ x ≤ 255) (i : Nat) : 0 ≤ (code[i]?.getD 0) ∧ (code[i]?.getD 0) ≤ 255 := by
  cases h : code[i]? with
  | none => simp
  | some x => exact hb i x h

theorem next_ok (n : Int) {a s : Int} {code : List Int} (h : Src a s code) :
    spec_l01Next_3 n a code = true ∧ Src (spec_l01Next_1 n a code) (spec_l01Next_2 n a s code) code ∧ 0 ≤ spec_l01Next_0 n a s code ∧ (1 ≤ n → spec_l01Next_0 n a s code < n) := by
  obtain ⟨h0, h1, s0, s1, hn, hb⟩ := h
  have hw1 : IntKind.i64.wrap (s * 48271) = s * 48271 := wrap_i64 (by omega) (by omega)
  have hw2 : IntKind.i64.wrap (s * 48271 + 29) = s * 48271 + 29 := wrap_i64 (by omega) (by omega)
  have hw3 : IntKind.i64.wrap (a + 1) = a + 1 := wrap_i64 (by omega) (by omega)
  have hw4 : IntKind.i64.wrap (a + 1 - 1) = a := by rw [wrap_i64 (by omega) (by omega)]; omega
  obtain ⟨t0, t1⟩ := tmod_pos (x := s * 48271 + 29) (n := 2147483647) (by omega) (by omega)
  have hd0 : 0 ≤ Int.tdiv (Int.tmod (s * 48271 + 29) 2147483647) 31 := Int.tdiv_nonneg t0 (by omega)
  have hd1 : Int.tdiv (Int.tmod (s * 48271 + 29) 2147483647) 31 ≤ 2147483647 := by
    rw [Int.tdiv_eq_ediv_of_nonneg t0]; omega
  have hw7 : IntKind.i64.wrap (Int.tdiv (Int.tmod (s * 48271 + 29) 2147483647) 31) = Int.tdiv (Int.tmod (s * 48271 + 29) 2147483647) 31 := wrap_i64 (by omega) (by omega)
  by_cases hq : n ≤ 1
  · have d : decide (n ≤ 1) = true := decide_eq_true hq
    refine ⟨by simp [spec_l01Next_3, allT, d], ?_, by simp [spec_l01Next_0, d], fun h => by simp [spec_l01Next_0, d]; omega⟩
    simp only [spec_l01Next_1, spec_l01Next_2, d, cond_true]
    exact ⟨h0, h1, s0, s1, hn, hb⟩
  · have d : decide (n ≤ 1) = false := decide_eq_false hq
    by_cases hl : a < (code.length : Int)
    · have dl : decide (a < (code.length : Int)) = true := decide_eq_true hl
      obtain ⟨c0, c1⟩ := code_get hb a.toNat
      have hw5 : IntKind.i64.wrap (code[a.toNat]?.getD 0) = code[a.toNat]?.getD 0 := wrap_i64 (by omega) (by omega)
      have hw6 : IntKind.i64.wrap (Int.tdiv (Int.tmod (s * 48271 + 29) 2147483647) 31 + code[a.toNat]?.getD 0) = Int.tdiv (Int.tmod (s * 48271 + 29) 2147483647) 31 + code[a.toNat]?.getD 0 := wrap_i64 (by omega) (by omega)
      have dn : decide (a.toNat < code.length) = true := decide_eq_true (by omega)
      have dz : decide (0 ≤ a) = true := decide_eq_true h0
      refine ⟨?_, ?_, ?_⟩
      · have hwa : IntKind.i64.wrap a = a := wrap_i64 (by omega) (by omega)
        simp [spec_l01Next_3, allT, d, dl, dn, hw3, hw4, hwa, dz, hl, h0]
        omega
      · simp only [spec_l01Next_1, spec_l01Next_2, d, dl, cond_true, cond_false, hw1, hw2, hw3]
        exact ⟨by omega, by omega, t0, t1, hn, hb⟩
      · simp only [spec_l01Next_0, d, dl, cond_true, cond_false, hw1, hw2, hw3, hw4, hw5, hw7, hw6]
        cases (bif decide (n ≤ 256) then Int.tmod (a + 1) 2 == 0 else false) with
        | true =>
          obtain ⟨m0, m1⟩ := tmod_pos (x := code[a.toNat]?.getD 0) (n := n) c0 (by omega)
          exact ⟨m0, fun _ => m1⟩
        | false =>
          obtain ⟨m0, m1⟩ := tmod_pos (x := Int.tdiv (Int.tmod (s * 48271 + 29) 2147483647) 31 + code[a.toNat]?.getD 0) (n := n) (by omega) (by omega)
          exact ⟨m0, fun _ => m1⟩
    · have dl : decide (a < (code.length : Int)) = false := decide_eq_false hl
      have hw6 : IntKind.i64.wrap (Int.tdiv (Int.tmod (s * 48271 + 29) 2147483647) 31) = Int.tdiv (Int.tmod (s * 48271 + 29) 2147483647) 31 := wrap_i64 (by omega) (by omega)
      refine ⟨?_, ?_, ?_⟩
      · simp [spec_l01Next_3, allT, d, dl]
        omega
      · simp only [spec_l01Next_1, spec_l01Next_2, d, dl, cond_false, hw1, hw2]
        exact ⟨h0, h1, t0, t1, hn, hb⟩
      · simp only [spec_l01Next_0, d, dl, cond_false, hw1, hw2, hw6]
        obtain ⟨m0, m1⟩ := tmod_pos (x := Int.tdiv (Int.tmod (s * 48271 + 29) 2147483647) 31) (n := n) hd0 (by omega)
        exact ⟨m0, fun _ => m1⟩

theorem pick_ok {a s : Int} {l code : List Int} (h : Src a s code) (hl : 1 ≤ l.length) : spec_l01Pick_3 a s l code = true ∧ Src (spec_l01Pick_1 a l code) (spec_l01Pick_2 a s l code) code := by
  obtain ⟨n3, n1, n0, nl⟩ := next_ok (l.length : Int) h
  have nl := nl (by omega)
  refine ⟨?_, n1⟩
  simp [spec_l01Pick_3, allT, n3, n0, nl]

/-! ### The source -/

def fF (b : Int) (a : Nat × Int) : Nat ⊕ (Nat × Int) := bif decide (a.1 < 64) then .inr (a.1 + 1, Int.tmod (a.2 * 59 + b) 2147483647) else .inl 0

theorem from_ok (code : List Int) (hn : code.length ≤ 4096) (hb : ∀ (i : Nat) (x : Int), code[i]? = some x → 0 ≤ x ∧ x ≤ 255) : spec_l01From_1 code = true ∧ Src 0 (spec_l01From_0 code) code := by
  have key := runL_walk (lt := lt_spec_l01From_l0) (fun i (a : Nat × Int) => ((i : Int), code, (0 : Int), a.2)) fF 0 (fun i a => a.1 = i ∧ 0 ≤ a.2 ∧ a.2 < 2147483647) code (fun i b a he hI => ⟨?_, fun a' hf => ?_⟩) (fun a hI => ?_) code 0 (0, 52021) rfl (by simp) (by decide)
  · have hres := lp_spec_l01From_l0.run key (le_big (by simp only [lp_spec_l01From_l0]; omega))
    have r1 : lp_spec_l01From_l0.fin ((0 : Int), code, (0 : Int), (52021 : Int)) = true := hres.1
    have r2 : lp_spec_l01From_l0.res ((0 : Int), code, (0 : Int), (52021 : Int)) = _ := hres.2
    have inv : ∀ (r : List Int) (i : Nat) (a : Nat × Int), (∀ x ∈ r, 0 ≤ x ∧ x ≤ 255) → 0 ≤ a.2 ∧ a.2 < 2147483647 → 0 ≤ (walkL fF 0 r i a).2.2.2 ∧ (walkL fF 0 r i a).2.2.2 < 2147483647 := by
      intro r
      induction r with
      | nil => intro i a _ h; exact h
      | cons b r ih =>
        intro i a hx h
        simp only [walkL, fF]
        cases decide (a.1 < 64) with
        | false => exact h
        | true =>
          have hb := hx b (by simp)
          exact ih _ _ (fun x hm => hx x (by simp [hm])) (tmod_pos (by omega) (by omega))
    have hall : ∀ x ∈ code, 0 ≤ x ∧ x ≤ 255 := fun x hx => by
      obtain ⟨i, hi⟩ := List.getElem?_of_mem hx
      exact hb i x hi
    obtain ⟨q0, q1⟩ := inv code 0 (0, 52021) hall (by decide)
    refine ⟨by simp [spec_l01From_1, allT, r1], by decide, by decide, ?_, ?_, hn, hb⟩
    · simp only [spec_l01From_0, r2]; exact q0
    · simp only [spec_l01From_0, r2]; exact q1
  · obtain ⟨hlt, he⟩ := List.getElem?_eq_some_iff.1 he
    subst he
    obtain ⟨h1, h2, h3⟩ := hI
    have hw := wrap64 hlt (by omega)
    obtain ⟨c0, c1⟩ := hb i code[i] (List.getElem?_eq_getElem hlt)
    have hw1 : IntKind.i64.wrap (a.2 * 59) = a.2 * 59 := wrap_i64 (by omega) (by omega)
    have hw2 : IntKind.i64.wrap code[i] = code[i] := wrap_i64 (by omega) (by omega)
    have hw3 : IntKind.i64.wrap (a.2 * 59 + code[i]) = a.2 * 59 + code[i] := wrap_i64 (by omega) (by omega)
    simp only [fF, h1]
    by_cases h64 : i < 64
    · have d : decide (i < 64) = true := decide_eq_true h64
      have d' : decide ((i : Int) < 64) = true := decide_eq_true (by omega)
      simp [lt_spec_l01From_l0, LT.out, allT, spec_l01From_l0_0, spec_l01From_l0_1, spec_l01From_l0_2, spec_l01From_l0_3, spec_l01From_l0_4, spec_l01From_l0_5, spec_l01From_l0_6, hlt, hw, d, d', hw1, hw2, hw3]
    · have d : decide (i < 64) = false := decide_eq_false h64
      have d' : decide ((i : Int) < 64) = false := decide_eq_false (by omega)
      simp [lt_spec_l01From_l0, LT.out, spec_l01From_l0_0, d, d']
  · simp only [fF] at hf
    obtain ⟨h1, h2, h3⟩ := hI
    obtain ⟨c0, c1⟩ := hb i b he
    cases hd : decide (a.1 < 64) with
    | false => rw [hd] at hf; cases hf
    | true =>
      rw [hd] at hf
      simp only [cond_true, Sum.inr.injEq] at hf
      subst hf
      obtain ⟨m0, m1⟩ := tmod_pos (x := a.2 * 59 + b) (n := 2147483647) (by omega) (by omega)
      exact ⟨by simp [h1], m0, m1⟩
  · simp [lt_spec_l01From_l0, LT.out, spec_l01From_l0_0]

end Go.SX

/- What is drawn: the source of numbers stays a source, and nothing that is drawn stops the program. -/
import Derived.Test.YtepaifhehlpbaaaDoorRt
namespace Go.SX
open Go.Proofs
set_option maxRecDepth 100000

/-- A source of numbers: where it stands, its seed, its code. -/
def srcOk (a s : Int) (c : List Int) : Bool := (leI 0 a && leI a 4096) && ((leI 0 s && ltI s 2147483647) && (leN c.length 4096 && c.all fun x => inR x 0 255))

theorem src_iff {a s : Int} {c : List Int} : srcOk a s c = true ↔ (0 ≤ a ∧ a ≤ 4096) ∧ (0 ≤ s ∧ s < 2147483647) ∧ c.length ≤ 4096 ∧ ∀ x ∈ c, 0 ≤ x ∧ x ≤ 255 := by
  simp only [srcOk, Bool.and_eq_true, leI_iff, ltI_iff, leN_iff, List.all_eq_true, inR_iff]

theorem tmod_pos {x n : Int} (h : 0 ≤ x) (hn : 0 < n) : 0 ≤ Int.tmod x n ∧ Int.tmod x n < n := by
  rw [Int.tmod_eq_emod_of_nonneg h]
  exact ⟨Int.emod_nonneg _ (by omega), Int.emod_lt_of_pos _ hn⟩

theorem code_get {code : List Int} (hb : ∀ x ∈ code, 0 ≤ x ∧ x ≤ 255) (i : Nat) : 0 ≤ (code[i]?.getD 0) ∧ (code[i]?.getD 0) ≤ 255 := by
  cases h : code[i]? with
  | none => simp
  | some x => exact hb x (List.mem_of_getElem? h)

/-- What a draw gives, and what the source is behind it. -/
def nxV (n a s : Int) (c : List Int) : Int := spec_l01Next_0 n a s c
def nxA (n a : Int) (c : List Int) : Int := spec_l01Next_1 n a c
def nxS (n a s : Int) (c : List Int) : Int := spec_l01Next_2 n a s c

theorem next_ok (n : Int) {a s : Int} {code : List Int} (h : srcOk a s code = true) :
    spec_l01Next_3 n a code = true ∧ srcOk (nxA n a code) (nxS n a s code) code = true ∧ 0 ≤ nxV n a s code ∧ (1 ≤ n → nxV n a s code < n) := by
  obtain ⟨⟨h0, h1⟩, ⟨s0, s1⟩, hn, hb⟩ := src_iff.1 h
  have hw1 : IntKind.i64.wrap (s * 48271) = s * 48271 := wrap_i64 (by omega) (by omega)
  have hw2 : IntKind.i64.wrap (s * 48271 + 29) = s * 48271 + 29 := wrap_i64 (by omega) (by omega)
  have hw3 : IntKind.i64.wrap (a + 1) = a + 1 := wrap_i64 (by omega) (by omega)
  have hw4 : IntKind.i64.wrap (a + 1 - 1) = a := by rw [wrap_i64 (by omega) (by omega)]; omega
  obtain ⟨t0, t1⟩ := tmod_pos (x := s * 48271 + 29) (n := 2147483647) (by omega) (by omega)
  have hd0 : 0 ≤ Int.tdiv (Int.tmod (s * 48271 + 29) 2147483647) 31 := Int.tdiv_nonneg t0 (by omega)
  have hd1 : Int.tdiv (Int.tmod (s * 48271 + 29) 2147483647) 31 ≤ 2147483647 := by
    rw [Int.tdiv_eq_ediv_of_nonneg t0]; omega
  have hw7 : IntKind.i64.wrap (Int.tdiv (Int.tmod (s * 48271 + 29) 2147483647) 31) = Int.tdiv (Int.tmod (s * 48271 + 29) 2147483647) 31 := wrap_i64 (by omega) (by omega)
  have q1 : neI 2147483647 0 = true := by decide
  have q2 : neI 31 0 = true := by decide
  have q3 : neI 2 0 = true := by decide
  simp only [nxA, nxS, nxV]
  by_cases hq : n ≤ 1
  · have d : leI n 1 = true := leI_t hq
    refine ⟨by simp [spec_l01Next_3, allT, d], ?_, by simp [spec_l01Next_0, d], fun h => by simp [spec_l01Next_0, d]; omega⟩
    simp only [spec_l01Next_1, spec_l01Next_2, d, cond_true]
    exact h
  · have d : leI n 1 = false := leI_f (by omega)
    have q4 : neI n 0 = true := neI_t (by omega)
    by_cases hl : a < (code.length : Int)
    · have dl : ltI a (code.length : Int) = true := ltI_t hl
      obtain ⟨c0, c1⟩ := code_get hb a.toNat
      have hw5 : IntKind.i64.wrap (code[a.toNat]?.getD 0) = code[a.toNat]?.getD 0 := wrap_i64 (by omega) (by omega)
      have hw6 : IntKind.i64.wrap (Int.tdiv (Int.tmod (s * 48271 + 29) 2147483647) 31 + code[a.toNat]?.getD 0) = Int.tdiv (Int.tmod (s * 48271 + 29) 2147483647) 31 + code[a.toNat]?.getD 0 := wrap_i64 (by omega) (by omega)
      have dn : ltN a.toNat code.length = true := ltN_t (by omega)
      have dz : leI 0 a = true := leI_t h0
      have hwa : IntKind.i64.wrap a = a := wrap_i64 (by omega) (by omega)
      refine ⟨?_, ?_, ?_⟩
      · simp [spec_l01Next_3, spec_l01Next_a0, spec_l01Next_a2, allT, d, dl, dn, hw3, hw4, hwa, dz, q1, q2, q3, q4]
      · simp only [spec_l01Next_1, spec_l01Next_2, spec_l01Next_a0, spec_l01Next_a3, d, dl, cond_true, cond_false, hw1, hw2, hw3]
        exact src_iff.2 ⟨⟨by omega, by omega⟩, ⟨t0, t1⟩, hn, hb⟩
      · simp only [spec_l01Next_0, spec_l01Next_a1, spec_l01Next_a2, spec_l01Next_a0, spec_l01Next_a3, d, dl, cond_true, cond_false, hw1, hw2, hw3, hw4, hw5, hw7, hw6]
        cases (bif leI n 256 then Int.tmod (a + 1) 2 == 0 else false) with
        | true =>
          obtain ⟨m0, m1⟩ := tmod_pos (x := code[a.toNat]?.getD 0) (n := n) c0 (by omega)
          exact ⟨m0, fun _ => m1⟩
        | false =>
          obtain ⟨m0, m1⟩ := tmod_pos (x := Int.tdiv (Int.tmod (s * 48271 + 29) 2147483647) 31 + code[a.toNat]?.getD 0) (n := n) (by omega) (by omega)
          exact ⟨m0, fun _ => m1⟩
    · have dl : ltI a (code.length : Int) = false := ltI_f (by omega)
      refine ⟨?_, ?_, ?_⟩
      · simp [spec_l01Next_3, allT, d, dl, q1, q2, q4]
      · simp only [spec_l01Next_1, spec_l01Next_2, spec_l01Next_a3, d, dl, cond_false, hw1, hw2]
        exact src_iff.2 ⟨⟨h0, h1⟩, ⟨t0, t1⟩, hn, hb⟩
      · simp only [spec_l01Next_0, spec_l01Next_a3, d, dl, cond_false, hw1, hw2, hw7]
        obtain ⟨m0, m1⟩ := tmod_pos (x := Int.tdiv (Int.tmod (s * 48271 + 29) 2147483647) 31) (n := n) hd0 (by omega)
        exact ⟨m0, fun _ => m1⟩

theorem nn_spec_l01Next (x0 x1 x2 : Int) (x3 : List Int) (h : srcOk x1 x2 x3 = true) : spec_l01Next_0 x0 x1 x2 x3 = nxV x0 x1 x2 x3 ∧ spec_l01Next_1 x0 x1 x3 = nxA x0 x1 x3 ∧ spec_l01Next_2 x0 x1 x2 x3 = nxS x0 x1 x2 x3 ∧ spec_l01Next_3 x0 x1 x3 = true := ⟨rfl, rfl, rfl, (next_ok x0 h).1⟩

def N_spec_l01Next : List SV → List Entry → Option Out
  | [.one ⟨false, [.ptr 0 0]⟩, .one ⟨false, [.val (.int .i64 x0)]⟩], [.box 134 [.ref 1, .val (.int .i64 x1), .val (.int .i64 x2)], .row false 5 (.int .u8) x3] => some ⟨(.one ⟨false, [(.val (.int IntKind.i64 (nxV x0 x1 x2 x3)))]⟩), [(.box 134 [(.ref 1), (.val (.int IntKind.i64 (nxA x0 x1 x3))), (.val (.int IntKind.i64 (nxS x0 x1 x2 x3)))]), (.row false 5 (CTy.int IntKind.u8) x3)], [], [srcOk x1 x2 x3]⟩
  | _, _ => none

def n_spec_l01Next : PF Tryd.prog := PF.alt p_spec_l01Next N_spec_l01Next (by
  intro args es o h hnd; unfold N_spec_l01Next at h; split at h
  · rename_i x0 x1 x2 x3
    cases h
    have hnd := nd_fst hnd
    have hh := nn_spec_l01Next x0 x1 x2 x3 hnd
    obtain ⟨e0, e1, e2, en⟩ := hh
    exact altok rfl (nd_one en) (by simp only [e0] <;> rfl) (by simp only [e1, e2] <;> rfl) rfl
  · cases h)

def pkV (a s : Int) (l c : List Int) : Int := spec_l01Pick_0 a s l c
def pkA (a : Int) (l c : List Int) : Int := spec_l01Pick_1 a l c
def pkS (a s : Int) (l c : List Int) : Int := spec_l01Pick_2 a s l c

theorem pick_ok {a s : Int} {l code : List Int} (h : (srcOk a s code && leN 1 l.length) = true) :
    spec_l01Pick_3 a s l code = true ∧ srcOk (pkA a l code) (pkS a s l code) code = true ∧ pkV a s l code ∈ l := by
  simp only [Bool.and_eq_true, leN_iff] at h
  obtain ⟨n3, n1, n0, nl⟩ := next_ok (l.length : Int) h.1
  have nl := nl (by omega)
  simp only [nxV] at n0 nl
  refine ⟨?_, n1, ?_⟩
  · have t1 : leI 0 (spec_l01Next_0 (l.length : Int) a s code) = true := leI_t n0
    have t2 : ltI (spec_l01Next_0 (l.length : Int) a s code) (l.length : Int) = true := ltI_t nl
    have t3 : ltN (spec_l01Next_0 (l.length : Int) a s code).toNat l.length = true := ltN_t (by omega)
    simp only [spec_l01Pick_3, allT, n3, t1, t2, t3, cond_true]
  · have hlt : (spec_l01Next_0 (l.length : Int) a s code).toNat < l.length := by omega
    simp only [pkV, spec_l01Pick_0, List.getElem?_eq_getElem hlt, Option.getD_some]
    exact List.getElem_mem hlt

theorem nn_spec_l01Pick (x0 x1 : Int) (x2 x3 : List Int) (h : (srcOk x0 x1 x3 && leN 1 x2.length) = true) : spec_l01Pick_0 x0 x1 x2 x3 = pkV x0 x1 x2 x3 ∧ spec_l01Pick_1 x0 x2 x3 = pkA x0 x2 x3 ∧ spec_l01Pick_2 x0 x1 x2 x3 = pkS x0 x1 x2 x3 ∧ spec_l01Pick_3 x0 x1 x2 x3 = true := ⟨rfl, rfl, rfl, (pick_ok h).1⟩

def N_spec_l01Pick : List SV → List Entry → Option Out
  | [.one ⟨false, [.ptr 0 0]⟩, .one ⟨false, [.ref 1]⟩], [.box 134 [.ref 2, .val (.int .i64 x0), .val (.int .i64 x1)], .row false 2 (.int .i64) x2, .row false 5 (.int .u8) x3] => some ⟨(.one ⟨false, [(.val (.int IntKind.i64 (pkV x0 x1 x2 x3)))]⟩), [(.box 134 [(.ref 2), (.val (.int IntKind.i64 (pkA x0 x2 x3))), (.val (.int IntKind.i64 (pkS x0 x1 x2 x3)))]), (.row false 2 (CTy.int IntKind.i64) x2), (.row false 5 (CTy.int IntKind.u8) x3)], [], [srcOk x0 x1 x3 && leN 1 x2.length]⟩
  | _, _ => none

def n_spec_l01Pick : PF Tryd.prog := PF.alt p_spec_l01Pick N_spec_l01Pick (by
  intro args es o h hnd; unfold N_spec_l01Pick at h; split at h
  · rename_i x0 x1 x2 x3
    cases h
    have hnd := nd_fst hnd
    have hh := nn_spec_l01Pick x0 x1 x2 x3 hnd
    obtain ⟨e0, e1, e2, en⟩ := hh
    exact altok rfl (nd_one en) (by simp only [e0] <;> rfl) (by simp only [e1, e2] <;> rfl) rfl
  · cases h)

/-! ### The source -/

def fF01 (b : Int) (a : Nat × Int) : Nat ⊕ (Nat × Int) := bif decide (a.1 < 64) then .inr (a.1 + 1, Int.tmod (a.2 * 59 + b) 2147483647) else .inl 0

def frS (c : List Int) : Int := spec_l01From_0 c

theorem from_ok (code : List Int) (h : srcOk 0 0 code = true) : spec_l01From_1 code = true ∧ srcOk 0 (frS code) code = true := by
  obtain ⟨_, _, hn, hb⟩ := src_iff.1 h
  have key := runL_walk (lt := lt_spec_l01From_l0) (fun i (a : Nat × Int) => ((i : Int), code, (0 : Int), a.2)) fF01 0 (fun i a => a.1 = i ∧ 0 ≤ a.2 ∧ a.2 < 2147483647) code (fun i b a he hI => ⟨?_, fun a' hf => ?_⟩) (fun a hI => ?_) code 0 (0, 52021) rfl (by simp) (by decide)
  · have hres := lp_spec_l01From_l0.run key (le_big (by simp only [lp_spec_l01From_l0]; omega))
    have r1 : lp_spec_l01From_l0.fin ((0 : Int), code, (0 : Int), (52021 : Int)) = true := hres.1
    have r2 : lp_spec_l01From_l0.res ((0 : Int), code, (0 : Int), (52021 : Int)) = _ := hres.2
    have inv : ∀ (r : List Int) (i : Nat) (a : Nat × Int), (∀ x ∈ r, 0 ≤ x ∧ x ≤ 255) → 0 ≤ a.2 ∧ a.2 < 2147483647 → 0 ≤ (walkL fF01 0 r i a).2.2.2 ∧ (walkL fF01 0 r i a).2.2.2 < 2147483647 := by
      intro r
      induction r with
      | nil => intro i a _ h; exact h
      | cons b r ih =>
        intro i a hx h
        simp only [walkL, fF01]
        cases decide (a.1 < 64) with
        | false => exact h
        | true =>
          have hb := hx b (by simp)
          exact ih _ _ (fun x hm => hx x (by simp [hm])) (tmod_pos (by omega) (by omega))
    obtain ⟨q0, q1⟩ := inv code 0 (0, 52021) hb (by decide)
    refine ⟨by simp [spec_l01From_1, spec_l01From_a0, allT, r1], src_iff.2 ⟨by decide, ⟨?_, ?_⟩, hn, hb⟩⟩
    · simp only [frS, spec_l01From_0, spec_l01From_a0, r2]; exact q0
    · simp only [frS, spec_l01From_0, spec_l01From_a0, r2]; exact q1
  · obtain ⟨hlt, he⟩ := List.getElem?_eq_some_iff.1 he
    subst he
    obtain ⟨h1, h2, h3⟩ := hI
    have hw := wrap64 hlt (by omega)
    obtain ⟨c0, c1⟩ := hb code[i] (List.getElem_mem hlt)
    have hw1 : IntKind.i64.wrap (a.2 * 59) = a.2 * 59 := wrap_i64 (by omega) (by omega)
    have hw2 : IntKind.i64.wrap code[i] = code[i] := wrap_i64 (by omega) (by omega)
    have hw3 : IntKind.i64.wrap (a.2 * 59 + code[i]) = a.2 * 59 + code[i] := wrap_i64 (by omega) (by omega)
    have q1 : neI 2147483647 0 = true := by decide
    have q2 : ltI (i : Int) (code.length : Int) = true := ltI_t (by omega)
    have q3 : leI 0 (i : Int) = true := leI_t (by omega)
    have q4 : ltN i code.length = true := ltN_t hlt
    simp only [fF01, h1]
    by_cases h64 : i < 64
    · have d : decide (i < 64) = true := decide_eq_true h64
      have d' : ltI (i : Int) 64 = true := ltI_t (by omega)
      simp [lt_spec_l01From_l0, LT.out, allT, spec_l01From_l0_0, spec_l01From_l0_1, spec_l01From_l0_2, spec_l01From_l0_3, spec_l01From_l0_4, spec_l01From_l0_5, spec_l01From_l0_6, hlt, hw, d, d', hw1, hw2, hw3, q1, q2, q3, q4]
    · have d : decide (i < 64) = false := decide_eq_false h64
      have d' : ltI (i : Int) 64 = false := ltI_f (by omega)
      simp [lt_spec_l01From_l0, LT.out, spec_l01From_l0_0, d, d']
  · simp only [fF01] at hf
    obtain ⟨h1, h2, h3⟩ := hI
    obtain ⟨c0, c1⟩ := hb b (List.mem_of_getElem? he)
    cases hd : decide (a.1 < 64) with
    | false => rw [hd] at hf; cases hf
    | true =>
      rw [hd] at hf
      simp only [cond_true, Sum.inr.injEq] at hf
      subst hf
      obtain ⟨m0, m1⟩ := tmod_pos (x := a.2 * 59 + b) (n := 2147483647) (by omega) (by omega)
      exact ⟨by simp [h1], m0, m1⟩
  · simp [lt_spec_l01From_l0, LT.out, spec_l01From_l0_0]

theorem nn_spec_l01From (x0 : List Int) (h : srcOk 0 0 x0 = true) : spec_l01From_0 x0 = frS x0 ∧ spec_l01From_1 x0 = true := ⟨rfl, (from_ok x0 h).1⟩

def N_spec_l01From : List SV → List Entry → Option Out
  | [.one ⟨false, [.ref 0]⟩], [.row false 5 (.int .u8) x0] => some ⟨(.one ⟨false, [(.ptr 1 0)]⟩), [(.row false 5 (CTy.int IntKind.u8) x0)], [(.box 134 [(.ref 0), (.val (.int IntKind.i64 (0 : Int))), (.val (.int IntKind.i64 (frS x0)))])], [srcOk 0 0 x0]⟩
  | _, _ => none

def n_spec_l01From : PF Tryd.prog := PF.alt p_spec_l01From N_spec_l01From (by
  intro args es o h hnd; unfold N_spec_l01From at h; split at h
  · rename_i x0
    cases h
    have hnd := nd_fst hnd
    have hh := nn_spec_l01From x0 hnd
    obtain ⟨e0, en⟩ := hh
    exact altok rfl (nd_one en) rfl rfl (by simp only [e0] <;> rfl)
  · cases h)

end Go.SX

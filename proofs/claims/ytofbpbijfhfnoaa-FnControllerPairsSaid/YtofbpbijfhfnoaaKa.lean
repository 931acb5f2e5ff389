/- Two controllers take over from each other, in plain words: with admitted events at most one of them is active. -/
import Derived.Test.YtofbpbijfhfnoaaTa
import Derived.Test.YtofbpbijfhfnoaaAa
namespace Go.SX
open Go.Proofs
set_option maxRecDepth 100000

/-- All pairs, with their counts of losses, to which admitted events lead. -/
def reachP : List (Pr × Int × Int) :=
  [(((0, 0), 0, 0), 0, 0),
   (((1, 0), 0, 0), 0, 0),
   (((0, 1), 0, 0), 0, 1),
   (((1, 0), 0, 1), 1, 0),
   (((0, 1), 0, 1), 1, 1),
   (((2, 0), 0, 0), 0, 0),
   (((0, 0), 2, 0), 0, 0),
   (((1, 1), 0, 0), 0, 1),
   (((1, 1), 0, 1), 1, 1),
   (((1, 0), 2, 0), 0, 0),
   (((0, 2), 0, 0), 0, 2),
   (((0, 2), 0, 1), 1, 2),
   (((0, 1), 2, 0), 0, 0),
   (((1, 0), 0, 2), 2, 0),
   (((1, 1), 0, 2), 2, 1),
   (((2, 0), 0, 1), 0, 0),
   (((0, 2), 0, 2), 2, 2),
   (((2, 0), 2, 0), 0, 0),
   (((1, 2), 0, 0), 0, 2),
   (((1, 2), 0, 1), 1, 2),
   (((1, 1), 2, 0), 0, 0),
   (((1, 2), 0, 2), 2, 2),
   (((0, 2), 2, 0), 0, 0),
   (((0, 1), 0, 0), 0, 0),
   (((2, 0), 0, 2), 0, 0),
   (((0, 0), 0, 1), 0, 0),
   (((1, 2), 2, 0), 0, 0),
   (((1, 1), 0, 0), 0, 0),
   (((0, 3), 2, 0), 0, 0),
   (((0, 2), 0, 0), 0, 0),
   (((0, 2), 0, 0), 0, 1),
   (((0, 2), 0, 1), 1, 1),
   (((2, 0), 0, 3), 0, 0),
   (((0, 0), 0, 2), 0, 0),
   (((1, 0), 0, 2), 1, 0),
   (((0, 1), 0, 2), 1, 1),
   (((1, 3), 2, 0), 0, 0),
   (((1, 2), 0, 0), 0, 0),
   (((1, 2), 0, 0), 0, 1),
   (((1, 2), 0, 1), 1, 1),
   (((0, 4), 2, 0), 0, 0),
   (((0, 3), 0, 0), 0, 0),
   (((0, 3), 0, 0), 0, 1),
   (((0, 3), 0, 1), 1, 1),
   (((0, 3), 0, 0), 0, 2),
   (((0, 3), 0, 1), 1, 2),
   (((0, 3), 0, 2), 2, 2),
   (((2, 0), 0, 4), 0, 0),
   (((0, 0), 0, 3), 0, 0),
   (((1, 0), 0, 3), 1, 0),
   (((0, 1), 0, 3), 1, 1),
   (((1, 0), 0, 3), 2, 0),
   (((1, 1), 0, 3), 2, 1),
   (((0, 2), 0, 3), 2, 2),
   (((1, 4), 2, 0), 0, 0),
   (((1, 3), 0, 0), 0, 0),
   (((1, 3), 0, 0), 0, 1),
   (((1, 3), 0, 1), 1, 1),
   (((1, 3), 0, 0), 0, 2),
   (((1, 3), 0, 1), 1, 2),
   (((1, 3), 0, 2), 2, 2),
   (((0, 5), 2, 0), 0, 0),
   (((0, 4), 0, 0), 0, 0),
   (((0, 4), 0, 0), 0, 1),
   (((0, 4), 0, 1), 1, 1),
   (((0, 4), 0, 0), 0, 2),
   (((0, 4), 0, 1), 1, 2),
   (((0, 4), 0, 2), 2, 2),
   (((2, 0), 0, 5), 0, 0),
   (((0, 0), 0, 4), 0, 0),
   (((0, 0), 0, 4), 1, 0),
   (((0, 1), 0, 4), 1, 1),
   (((1, 0), 0, 4), 2, 0),
   (((1, 1), 0, 4), 2, 1),
   (((0, 0), 0, 4), 2, 0),
   (((0, 2), 0, 4), 2, 2),
   (((1, 5), 2, 0), 0, 0),
   (((1, 4), 0, 0), 0, 0),
   (((1, 4), 0, 0), 0, 1),
   (((1, 4), 0, 1), 1, 1),
   (((1, 4), 0, 0), 0, 2),
   (((1, 4), 0, 1), 1, 2),
   (((1, 4), 0, 2), 2, 2),
   (((1, 6), 2, 0), 0, 0),
   (((0, 5), 0, 0), 0, 0),
   (((0, 5), 0, 0), 0, 1),
   (((0, 5), 0, 1), 1, 1),
   (((0, 5), 0, 0), 0, 2),
   (((0, 5), 0, 1), 1, 2),
   (((0, 5), 0, 2), 2, 2),
   (((2, 0), 1, 6), 0, 0),
   (((0, 0), 0, 5), 0, 0),
   (((0, 0), 0, 5), 1, 0),
   (((0, 1), 0, 5), 1, 1),
   (((0, 0), 0, 5), 2, 0),
   (((0, 1), 0, 5), 2, 1),
   (((0, 2), 0, 5), 2, 2),
   (((1, 5), 0, 0), 0, 0),
   (((1, 5), 0, 0), 0, 1),
   (((1, 5), 0, 1), 1, 1),
   (((1, 5), 0, 0), 0, 2),
   (((1, 5), 0, 1), 1, 2),
   (((1, 5), 0, 2), 2, 2),
   (((1, 6), 0, 0), 0, 0),
   (((1, 6), 0, 0), 0, 1),
   (((1, 6), 0, 1), 1, 1),
   (((1, 6), 0, 0), 0, 2),
   (((1, 6), 0, 1), 1, 2),
   (((1, 6), 0, 2), 2, 2),
   (((0, 0), 1, 6), 0, 0),
   (((0, 0), 1, 6), 1, 0),
   (((0, 1), 1, 6), 1, 1),
   (((0, 0), 1, 6), 2, 0),
   (((0, 1), 1, 6), 2, 1),
   (((0, 2), 1, 6), 2, 2),
   (((0, 0), 1, 0), 0, 0),
   (((0, 1), 1, 0), 0, 1),
   (((0, 2), 1, 0), 0, 2),
   (((0, 0), 1, 1), 1, 0),
   (((0, 1), 1, 1), 1, 1),
   (((2, 0), 1, 0), 0, 0),
   (((0, 2), 1, 1), 1, 2),
   (((0, 0), 1, 2), 2, 0),
   (((0, 1), 1, 2), 2, 1),
   (((2, 0), 1, 1), 0, 0),
   (((0, 2), 1, 2), 2, 2),
   (((2, 0), 1, 2), 0, 0),
   (((0, 0), 1, 1), 0, 0),
   (((2, 0), 1, 3), 0, 0),
   (((0, 0), 1, 2), 0, 0),
   (((0, 0), 1, 2), 1, 0),
   (((0, 1), 1, 2), 1, 1),
   (((2, 0), 1, 4), 0, 0),
   (((0, 0), 1, 3), 0, 0),
   (((0, 0), 1, 3), 1, 0),
   (((0, 1), 1, 3), 1, 1),
   (((0, 0), 1, 3), 2, 0),
   (((0, 1), 1, 3), 2, 1),
   (((0, 2), 1, 3), 2, 2),
   (((2, 0), 1, 5), 0, 0),
   (((0, 0), 1, 4), 0, 0),
   (((0, 0), 1, 4), 1, 0),
   (((0, 1), 1, 4), 1, 1),
   (((0, 0), 1, 4), 2, 0),
   (((0, 1), 1, 4), 2, 1),
   (((0, 2), 1, 4), 2, 2),
   (((0, 0), 1, 5), 0, 0),
   (((0, 0), 1, 5), 1, 0),
   (((0, 1), 1, 5), 1, 1),
   (((0, 0), 1, 5), 2, 0),
   (((0, 1), 1, 5), 2, 1),
   (((0, 2), 1, 5), 2, 2)]

def inP (s : Pr × Int × Int) : List (Pr × Int × Int) → Bool
  | [] => false
  | x :: r => bif (x.1.1.1 == s.1.1.1) && ((x.1.1.2 == s.1.1.2) && ((x.1.2.1 == s.1.2.1) && ((x.1.2.2 == s.1.2.2) && ((x.2.1 == s.2.1) && (x.2.2 == s.2.2))))) then true else inP s r

theorem inP_mem {s : Pr × Int × Int} : ∀ {l : List (Pr × Int × Int)}, inP s l = true → s ∈ l
  | [], h => by cases h
  | x :: r, h => by
    simp only [inP] at h
    cases hx : ((x.1.1.1 == s.1.1.1) && ((x.1.1.2 == s.1.1.2) && ((x.1.2.1 == s.1.2.1) && ((x.1.2.2 == s.1.2.2) && ((x.2.1 == s.2.1) && (x.2.2 == s.2.2)))))) with
    | false => rw [hx] at h; exact List.mem_cons_of_mem _ (inP_mem h)
    | true =>
      simp only [Bool.and_eq_true, beq_iff_eq] at hx
      obtain ⟨h1, h2, h3, h4, h5, h6⟩ := hx
      obtain ⟨⟨⟨a, b⟩, c, d⟩, e, f⟩ := s
      obtain ⟨⟨⟨a', b'⟩, c', d'⟩, e', f'⟩ := x
      simp only at h1 h2 h3 h4 h5 h6
      subst h1 h2 h3 h4 h5 h6
      exact List.mem_cons_self

theorem reachAll : (reachP.all fun s => decide (act s.1 ≤ 1) && (isP s.1 && evs0.all fun e => match fSp e s with | .inl _ => true | .inr s' => inP s' reachP)) = true := by kernel_rfl

theorem reach_ok {s : Pr × Int × Int} (h : s ∈ reachP) : act s.1 ≤ 1 ∧ isP s.1 = true ∧ ∀ e s', isE e = true → fSp e s = .inr s' → s' ∈ reachP := by
  have t := List.all_eq_true.1 reachAll s h
  simp only [Bool.and_eq_true, decide_eq_true_eq, List.all_eq_true] at t
  refine ⟨t.1, t.2.1, fun e s' he hf => ?_⟩
  have := t.2.2 e (ev_mem e he)
  rw [hf] at this
  exact inP_mem this

theorem fSp_inr {e : Ev} {p q : Pr} {c d : Int × Int} (h : fSp e (p, c) = .inr (q, d)) : isE e = true ∧ sOk p e = true ∧ q = sStep p e := by
  unfold fSp at h
  cases h0 : isE e with
  | false => rw [h0] at h; cases h
  | true =>
    rw [h0] at h
    simp only [cond_true] at h
    cases hq : (bif !bothUp p then (bif e.2.2.1 then true else e.2.2.2) else false) with
    | true => rw [hq] at h; cases h
    | false =>
      rw [hq] at h
      simp only [cond_false] at h
      cases hs : sOk p e with
      | false => rw [hs] at h; cases h
      | true =>
        cases hr : (bif (bif !sOk p e then true else decide (spec_l31Lost_0 c.1 e.2.2.1 > 2)) then true else decide (spec_l31Lost_0 c.2 e.2.2.2 > 2)) with
        | true => rw [hr] at h; cases h
        | false =>
          rw [hr] at h
          simp only [cond_false, Sum.inr.injEq, Prod.mk.injEq] at h
          exact ⟨rfl, rfl, h.1.symm⟩

theorem one_active : ∀ (xs : List Ev) (i : Nat) (p : Pr) (c : Int × Int) (m : Int), (p, c) ∈ reachP → m ≤ 1 → (walkL fSp 3 xs i (p, c)).1 = 3 →
    (walkL fS 1 xs i (p, m)).1 = 1 ∧ (walkL fS 1 xs i (p, m)).2.2.2 ≤ 1
  | [], i, p, c, m, _, hm, _ => ⟨rfl, hm⟩
  | e :: r, i, p, c, m, hr, hm, h => by
    simp only [walkL] at h ⊢
    cases hf : fSp e (p, c) with
    | inl j =>
      rw [hf] at h
      simp only at h
      subst h
      have : (3 : Nat) ≤ 2 := by
        unfold fSp at hf
        cases h0 : isE e with
        | false => rw [h0] at hf; simp at hf
        | true =>
          rw [h0] at hf
          simp only [cond_true] at hf
          cases hq : (bif !bothUp p then (bif e.2.2.1 then true else e.2.2.2) else false) with
          | true => rw [hq] at hf; simp at hf
          | false =>
            rw [hq] at hf
            simp only [cond_false] at hf
            cases hr : (bif (bif !sOk p e then true else decide (spec_l31Lost_0 c.1 e.2.2.1 > 2)) then true else decide (spec_l31Lost_0 c.2 e.2.2.2 > 2)) with
            | true => rw [hr] at hf; simp at hf
            | false => rw [hr] at hf; simp at hf
      omega
    | inr s' =>
      obtain ⟨q, d⟩ := s'
      rw [hf] at h
      obtain ⟨h0, h1, rfl⟩ := fSp_inr hf
      have hn := (reach_ok hr).2.2 e _ h0 hf
      have ha := (reach_ok hn).1
      simp only [fS, h1, cond_true]
      refine one_active r (i + 1) (sStep p e) d _ hn ?_ h
      unfold upMost
      split
      · exact ha
      · exact hm

/-- With admitted events at most one controller is active. -/
theorem admitted_one (xs : List Ev) (h : spec_AreAdmitted_0 xs = true) : spec_GreatestActive_1 0 0 0 0 xs = 0 ∧ spec_GreatestActive_0 0 0 0 0 xs ≤ 1 := by
  by_cases hn : 200 < xs.length
  · have hd : decide ((↑(List.length xs) : Int) > (200 : Int)) = true := decide_eq_true (by omega)
    simp [spec_AreAdmitted_0, hd] at h
  · have hd : decide ((↑(List.length xs) : Int) > (200 : Int)) = false := decide_eq_false (by omega)
    obtain ⟨s1, s2⟩ := run_sp (((0, 0), (0, 0)), 0, 0) xs (by omega)
    have s2 : lp_spec_AreAdmitted_l0.res ((0 : Int), (0 : Int), (0 : Int), xs, (0 : Int), (0 : Int), (0 : Int), (0 : Int)) = _ := s2
    have hspec : spec_AreAdmitted_0 xs = decide ((walkL fSp 3 xs 0 (((0, 0), (0, 0)), 0, 0)).1 = 3) := by
      simp only [spec_AreAdmitted_0, hd, cond_false, s2]
      exact tag3 _ (walk_le fSp_le _ _ _)
    rw [hspec] at h
    have h3 := of_decide_eq_true h
    have hP : isP ((0, 0), (0, 0)) = true := by decide
    have hr : (((0, 0), (0, 0)), 0, 0) ∈ reachP := inP_mem (by decide)
    obtain ⟨o1, o2⟩ := one_active xs 0 ((0, 0), (0, 0)) (0, 0) (act ((0, 0), (0, 0))) hr (by decide) h3
    have hpass := (pass xs 0 ((0, 0), (0, 0)) 0 0 hP (fun _ => ⟨rfl, rfl⟩) (by decide) (by decide)).1 h3
    obtain ⟨_, a2⟩ := spec_run ((0, 0), (0, 0)) xs
    simp only at a2
    rw [if_neg hn, if_neg (by rw [hP, hpass.1]; decide), if_neg (by rw [o1]; decide)] at a2
    exact ⟨a2.2.2.2.2.2, by rw [show spec_GreatestActive_0 0 0 0 0 xs = _ from a2.2.2.2.2.1]; exact o2⟩

theorem takeOver (xs : List Ev) : (impl_AreAdmitted_0 xs = true → impl_GreatestActive_1 0 0 0 0 xs = 0 ∧ impl_GreatestActive_0 0 0 0 0 xs ≤ 1) := by
  intro h
  obtain ⟨r0, _, _⟩ := admitted_eq xs
  obtain ⟨g0, g1, _, _⟩ := greatest_eq 0 0 0 0 xs
  rw [r0] at h
  rw [g0, g1]
  exact admitted_one xs h

/-! ### What is drawn -/

theorem drawEvent_ok {a s : Int} {code : List Int} (h : Src a s code) : spec_l31DrawEvent_6 a s code = true ∧ Src (spec_l31DrawEvent_4 a s code) (spec_l31DrawEvent_5 a s code) code := by
  have a3 := next_ok 3 h
  have b3 := next_ok 3 a3.2.1
  have n6 := next_ok 6 b3.2.1
  have a2 := next_ok 2 n6.2.1
  have b2 := next_ok 2 a2.2.1
  have c6 := Src.cond (c := spec_l01Next_0 6 (spec_l01Next_1 3 (spec_l01Next_1 3 a code) code) (spec_l01Next_2 3 (spec_l01Next_1 3 a code) (spec_l01Next_2 3 a s code) code) code == 0) b2.2.1 n6.2.1
  have n80 := next_ok 80 c6
  have pA := pick_ok (l := [-1, 3, 1]) n80.2.1 (by decide)
  have pB := pick_ok (l := [-1, 1, 2]) n80.2.1 (by decide)
  refine ⟨?_, ?_⟩
  · simp only [spec_l31DrawEvent_6, allT, a3.1, b3.1, n6.1, a2.1, b2.1, n80.1, pA.1, pB.1, Bool.or_true, cond_true]
  · exact Src.cond pA.2 (Src.cond pB.2 n80.2.1)

theorem drawEvents_loop {code : List Int} : ∀ (k : Nat) (l : List Ev) (a s : Int), Src a s code → l.length + k ≤ 40 →
    ∃ z, runL lt_spec_l31DrawEvents_l0 (k + 1) ((k : Int), l, a, s, code) = some z ∧ Src z.2.2.2.1 z.2.2.2.2.1 code := by
  intro k
  induction k with
  | zero =>
    intro l a s h _
    exact ⟨(0, (((0 : Nat) : Int), l, a, s, code)), runL_end 0 (by simp [lt_spec_l31DrawEvents_l0, LT.out, spec_l31DrawEvents_l0_0]), h⟩
  | succ k ih =>
    intro l a s h hl
    have h1 := drawEvent_ok h
    have h2 := next_ok 200 h1.2
    have hc : Src (spec_l31DrawEvents_l0_11 l a s code) (spec_l31DrawEvents_l0_12 l a s code) code := Src.cond h2.2.1 h1.2
    have hk : IntKind.i64.wrap (((k + 1 : Nat) : Int) - 1) = (k : Int) := by rw [wrap_i64 (by omega) (by omega)]; omega
    have hp : spec_l31DrawEvents_l0_0 ((k + 1 : Nat) : Int) = true := decide_eq_true (by omega)
    have n1 : spec_l31DrawEvents_l0_1 l = true := decide_eq_true (by omega)
    have n2 : spec_l31DrawEvents_l0_2 l = true := decide_eq_true (by omega)
    have n3 : spec_l31DrawEvents_l0_3 a s code = true := h1.1
    have n4 : spec_l31DrawEvents_l0_4 l a s code = true := decide_eq_true (by simp only [List.length_cons, List.length_nil]; omega)
    have n5 : spec_l31DrawEvents_l0_5 l a s code = true := decide_eq_true (by simp only [List.length_cons, List.length_nil]; omega)
    have n6 : spec_l31DrawEvents_l0_6 l a s code = true := (admitted_eq _).2.2
    have n7 : spec_l31DrawEvents_l0_7 l a s code = true := by simp only [spec_l31DrawEvents_l0_7, h2.1, Bool.or_true]
    have hout : (lt_spec_l31DrawEvents_l0 (((k + 1 : Nat) : Int), l, a, s, code)).out = some (.inr ((k : Int), bif spec_l31DrawEvents_l0_8 l a s code then spec_l31DrawEvents_l0_10 l a s code else l, spec_l31DrawEvents_l0_11 l a s code, spec_l31DrawEvents_l0_12 l a s code, code)) := by
      simp only [lt_spec_l31DrawEvents_l0, LT.out, allT, hp, n1, n2, n3, n4, n5, n6, n7, cond_true]
      rw [show spec_l31DrawEvents_l0_9 ((k + 1 : Nat) : Int) = (k : Int) from hk]
      cases spec_l31DrawEvents_l0_8 l a s code <;> rfl
    have hlen : (bif spec_l31DrawEvents_l0_8 l a s code then spec_l31DrawEvents_l0_10 l a s code else l).length + k ≤ 40 := by
      cases spec_l31DrawEvents_l0_8 l a s code with
      | true => simp only [cond_true, spec_l31DrawEvents_l0_10, List.length_append, List.length_cons, List.length_nil]; omega
      | false => simp only [cond_false]; omega
    obtain ⟨z, hz, hs⟩ := ih _ _ _ hc hlen
    exact ⟨z, by rw [runL_next _ hout]; exact hz, hs⟩

theorem drawEvents_ok {a s : Int} {code : List Int} (h : Src a s code) : spec_l31DrawEvents_3 a s code = true := by
  have h40 := next_ok 40 h
  have hlt := h40.2.2.2 (by decide)
  have h0 := h40.2.2.1
  obtain ⟨z, hz, hs⟩ := drawEvents_loop (spec_l01Next_0 40 a s code).toNat [] _ _ h40.2.1 (by simp only [List.length_nil]; omega)
  rw [Int.toNat_of_nonneg h0] at hz
  obtain ⟨f1, f2⟩ := lp_spec_l31DrawEvents_l0.run hz (le_big (by simp only [lp_spec_l31DrawEvents_l0]; omega))
  have h60 := next_ok 60 hs
  have h2 := next_ok 2 h60.2.1
  have hr0 := h2.2.2.1
  have hr1 := h2.2.2.2 (by decide)
  have hw : IntKind.i64.wrap (200 + spec_l01Next_0 2 (spec_l01Next_1 60 z.2.2.2.1 code) (spec_l01Next_2 60 z.2.2.2.1 z.2.2.2.2.1 code) code) = 200 + spec_l01Next_0 2 (spec_l01Next_1 60 z.2.2.2.1 code) (spec_l01Next_2 60 z.2.2.2.1 z.2.2.2.2.1 code) code := wrap_i64 (by omega) (by omega)
  simp only [spec_l31DrawEvents_3, allT, h40.1, f1, f2, h60.1, h2.1, hw, cond_true, Bool.or_true]
  have e1 : decide ((0 : Int) ≤ 200 + spec_l01Next_0 2 (spec_l01Next_1 60 z.2.2.2.1 code) (spec_l01Next_2 60 z.2.2.2.1 z.2.2.2.2.1 code) code) = true := decide_eq_true (by omega)
  have e2 : decide (200 + spec_l01Next_0 2 (spec_l01Next_1 60 z.2.2.2.1 code) (spec_l01Next_2 60 z.2.2.2.1 z.2.2.2.2.1 code) code ≤ 200 + spec_l01Next_0 2 (spec_l01Next_1 60 z.2.2.2.1 code) (spec_l01Next_2 60 z.2.2.2.1 z.2.2.2.2.1 code) code) = true := decide_eq_true (Int.le_refl _)
  have e3 : decide (((24 : Nat) : Int) * (200 + spec_l01Next_0 2 (spec_l01Next_1 60 z.2.2.2.1 code) (spec_l01Next_2 60 z.2.2.2.1 z.2.2.2.2.1 code) code) ≤ 281474976710656) = true := decide_eq_true (by omega)
  have e4 : decide (200 + spec_l01Next_0 2 (spec_l01Next_1 60 z.2.2.2.1 code) (spec_l01Next_2 60 z.2.2.2.1 z.2.2.2.2.1 code) code ≤ 9223372036854775807) = true := decide_eq_true (by omega)
  simp only [e1, e2, e3, e4, Bool.or_true, cond_true]

theorem drawAdmitted_ok (code : List Int) (hn : code.length ≤ 4096) (hb : ∀ (i : Nat) (x : Int), code[i]? = some x → 0 ≤ x ∧ x ≤ 255) : spec_DrawAreAdmitted_1 code = true := by
  have h0 := from_ok code hn hb
  simp only [spec_DrawAreAdmitted_1, allT, h0.1, drawEvents_ok h0.2, cond_true]

theorem law_TakeOver (x0 : List Int) (hb : ∀ (i : Nat) (x : Int), x0[i]? = some x → 0 ≤ x ∧ x ≤ 255) : laws_FnTakeOver_0 x0 = true ∧ laws_FnTakeOver_1 x0 = true := by
  cases hg : laws_big_0 x0 with
  | true => simp [laws_FnTakeOver_0, laws_FnTakeOver_1, hg, allT]
  | false =>
    have hn : x0.length ≤ 4096 := by
      have := of_decide_eq_false hg
      omega
    have hd := drawAdmitted_ok x0 hn hb
    obtain ⟨r0, r1, r2⟩ := admitted_eq (spec_DrawAreAdmitted_0 x0)
    obtain ⟨g0, g1, g2, g3⟩ := greatest_eq 0 0 0 0 (spec_DrawAreAdmitted_0 x0)
    have ht := takeOver (spec_DrawAreAdmitted_0 x0)
    refine ⟨?_, by simp only [laws_FnTakeOver_1, allT, hg, hd, r1, r2, g2, g3, Bool.or_true, cond_true]⟩
    rw [g0, g1] at ht
    simp only [laws_FnTakeOver_0, hg, cond_false, r0, g0, g1]
    rw [r0] at ht
    cases hc : spec_AreAdmitted_0 (spec_DrawAreAdmitted_0 x0) with
    | false => simp
    | true =>
      obtain ⟨t1, t2⟩ := ht hc
      simp [t1, t2]

end Go.SX

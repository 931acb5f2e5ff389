/- Pairs of controllers, in plain words: what the program's run of events comes to, and what the reference's comes to, is the same. -/
import Derived.Test.YtofbpbijfhfnoaaRa
namespace Go.SX
open Go.Proofs
set_option maxRecDepth 100000

abbrev Ev := Int × Int × Bool × Bool
abbrev Pr := (Int × Int) × (Int × Int)

def sOk (p : Pr) (e : Ev) : Bool := spec_l31Step_4 p.1.1 p.2.1 e.1 e.2.1
def sStep (p : Pr) (e : Ev) : Pr :=
  ((spec_l31Step_0 p.1.1 p.1.2 p.2.1 p.2.2 e.1 e.2.1 e.2.2.2, spec_l31Step_1 p.1.1 p.1.2 p.2.1 e.1 e.2.1 e.2.2.2),
   (spec_l31Step_2 p.1.1 p.1.2 p.2.1 p.2.2 e.1 e.2.1 e.2.2.1, spec_l31Step_3 p.1.1 p.2.1 p.2.2 e.1 e.2.1 e.2.2.1))
def iOk (p : Pr) (e : Ev) : Bool := loop_example_g00916_impl_Pair_step_4 p.1.1 p.2.1 e.1 e.2.1
def iStep (p : Pr) (e : Ev) : Pr :=
  ((loop_example_g00916_impl_Pair_step_0 p.1.1 p.1.2 p.2.1 p.2.2 e.1 e.2.1 e.2.2.2, loop_example_g00916_impl_Pair_step_1 p.1.1 p.1.2 p.2.1 p.2.2 e.1 e.2.1 e.2.2.2),
   (loop_example_g00916_impl_Pair_step_2 p.1.1 p.1.2 p.2.1 p.2.2 e.1 e.2.1 e.2.2.1, loop_example_g00916_impl_Pair_step_3 p.1.1 p.1.2 p.2.1 p.2.2 e.1 e.2.1 e.2.2.1))
def isP (p : Pr) : Bool := impl_IsPair_0 p.1.1 p.1.2 p.2.1 p.2.2
def isE (e : Ev) : Bool := impl_IsPairEvent_0 e.1 e.2.1 e.2.2.1 e.2.2.2
def act (p : Pr) : Int := spec_l31Active_0 p.1.1 p.2.1

theorem isPair_eq (a b c d : Int) : spec_IsPair_0 a b c d = impl_IsPair_0 a b c d := by
  simp only [spec_IsPair_0, impl_IsPair_0, spec_l31Is_0, impl_isController_0, spec_l01In_0, impl_within_0, loop_example_g00916_impl_Controller_isUp_0]

theorem isEv_eq (a b : Int) (c d : Bool) : spec_IsPairEvent_0 a b c d = impl_IsPairEvent_0 a b c d := by
  simp only [spec_IsPairEvent_0, impl_IsPairEvent_0, spec_l01In_0, impl_within_0]
  by_cases h0 : a = 0
  · subst h0; rfl
  · by_cases h1 : a = 1
    · subst h1; rfl
    · by_cases h2 : a = 2
      · subst h2; rfl
      · have e0 : (a == 0) = false := by simp [h0]
        have e1 : (a == 1) = false := by simp [h1]
        have e2 : (a == 2) = false := by simp [h2]
        have e3 : (decide (a ≥ 1) && decide (a ≤ 2)) = false := by
          simp only [Bool.and_eq_false_iff, decide_eq_false_iff_not]; omega
        simp only [e0, e1, e2, Bool.cond_eq_ite] at *
        simp only [Bool.false_eq_true, if_false]
        simp
        omega

theorem range_of (p : Pr) (h : isP p = true) : (0 ≤ p.1.1 ∧ p.1.1 ≤ 2) ∧ (0 ≤ p.1.2 ∧ p.1.2 ≤ 6) ∧ (0 ≤ p.2.1 ∧ p.2.1 ≤ 2) ∧ (0 ≤ p.2.2 ∧ p.2.2 ≤ 6) := by
  simp only [isP, impl_IsPair_0, impl_isController_0, impl_within_0, Bool.cond_eq_ite] at h
  simp at h
  omega

def upTo (n : Nat) : List Int := (List.range n).map Int.ofNat

theorem mem_upTo {n : Nat} {a : Int} (h0 : 0 ≤ a) (h1 : a < n) : a ∈ upTo n := by
  unfold upTo
  rw [List.mem_map]
  exact ⟨a.toNat, by rw [List.mem_range]; omega, Int.toNat_of_nonneg h0⟩

def evs0 : List Ev := [(0, 0, false, false), (0, 0, false, true), (0, 0, true, false), (0, 0, true, true), (1, 0, false, false), (1, 1, false, false), (2, 0, false, false), (2, 1, false, false)]

theorem ev_mem (e : Ev) (h : isE e = true) : e ∈ evs0 := by
  obtain ⟨k, w, l, m⟩ := e
  simp only [isE, impl_IsPairEvent_0, impl_within_0, Bool.cond_eq_ite] at h
  by_cases h0 : k = 0
  · subst h0
    simp at h
    subst h
    cases l <;> cases m <;> decide
  · simp [h0] at h
    obtain ⟨⟨⟨h1, h2⟩, h3⟩, h4⟩ := h
    subst h3 h4
    have hk : k = 1 ∨ k = 2 := by omega
    have hw : w = 0 ∨ w = 1 := by omega
    rcases hk with rfl | rfl <;> rcases hw with rfl | rfl <;> decide

def stepChk (p : Pr) (e : Ev) : Bool :=
  !isP p || ((iOk p e == sOk p e) && (!sOk p e || (decide (iStep p e = sStep p e) && isP (sStep p e))))

theorem stepAll : ((upTo 3).all fun a => (upTo 7).all fun b => (upTo 3).all fun c => (upTo 7).all fun d => evs0.all fun e => stepChk ((a, b), (c, d)) e) = true := by kernel_rfl

theorem step_eq (p : Pr) (e : Ev) (hp : isP p = true) (he : isE e = true) : iOk p e = sOk p e ∧ (sOk p e = true → iStep p e = sStep p e ∧ isP (sStep p e) = true) := by
  obtain ⟨⟨a, b⟩, c, d⟩ := p
  have hr := range_of _ hp
  simp only at hr
  obtain ⟨⟨h1, h2⟩, ⟨h3, h4⟩, ⟨h5, h6⟩, h7, h8⟩ := hr
  have t := stepAll
  simp only [List.all_eq_true] at t
  have t := t a (mem_upTo h1 (by omega)) b (mem_upTo h3 (by omega)) c (mem_upTo h5 (by omega)) d (mem_upTo h7 (by omega)) e (ev_mem e he)
  simp only [stepChk, hp, Bool.not_true, Bool.false_or, Bool.and_eq_true, beq_iff_eq, Bool.or_eq_true, Bool.not_eq_true', decide_eq_true_eq] at t
  refine ⟨t.1, fun h => ?_⟩
  rcases t.2 with h' | h'
  · rw [h] at h'; cases h'
  · exact h'

/-! ### The reference's run -/

def fV (e : Ev) (ok : Bool) : Nat ⊕ Bool := .inr (bif ok then isE e else false)

theorem run_l0 (b : Bool) (xs : List Ev) (hn : xs.length ≤ 9223372036854775807) :
    lp_spec_l31Run_l0.fin (((0 : Nat) : Int), b, xs) = true ∧ lp_spec_l31Run_l0.res (((0 : Nat) : Int), b, xs) = ((walkL fV 0 xs 0 b).1, ((((walkL fV 0 xs 0 b).2.1 : Nat) : Int), (walkL fV 0 xs 0 b).2.2, xs)) := by
  refine lp_spec_l31Run_l0.walk (fun i b => ((i : Int), b, xs)) fV 0 (fun _ _ => True) xs (fun i e b he _ => ⟨?_, fun _ _ => trivial⟩) (fun b _ => ?_) b trivial (by simp only [lp_spec_l31Run_l0]; omega)
  · obtain ⟨hlt, he⟩ := List.getElem?_eq_some_iff.1 he
    subst he
    have hw := wrap64 hlt hn
    simp [lp_spec_l31Run_l0, lt_spec_l31Run_l0, LT.out, allT, spec_l31Run_l0_0, spec_l31Run_l0_1, spec_l31Run_l0_2, spec_l31Run_l0_3, spec_l31Run_l0_4, spec_l31Run_l0_5, hlt, hw, fV, isE, isEv_eq]
  · simp [lp_spec_l31Run_l0, lt_spec_l31Run_l0, LT.out, spec_l31Run_l0_0]

theorem walk_fV : ∀ (xs : List Ev) (i : Nat) (b : Bool), walkL fV 0 xs i b = (0, i + xs.length, b && xs.all isE)
  | [], i, b => by simp [walkL]
  | e :: r, i, b => by
    simp only [walkL, fV]
    rw [walk_fV r]
    cases b <;> simp [Nat.add_assoc, Nat.add_comm 1]

def upMost (q : Pr) (m : Int) : Int := if act q > m then act q else m

def fS (e : Ev) (a : Pr × Int) : Nat ⊕ (Pr × Int) := bif sOk a.1 e then .inr (sStep a.1 e, upMost (sStep a.1 e) a.2) else .inl 0

def stS (xs : List Ev) (i : Nat) (a : Pr × Int) : X_spec_l31Run_l1 := ((i : Int), a.2, xs, a.1.1.1, a.1.1.2, a.1.2.1, a.1.2.2, 0, 0, 0, 0)

theorem run_l1 (a : Pr × Int) (xs : List Ev) (hn : xs.length ≤ 9223372036854775807) :
    lp_spec_l31Run_l1.fin (stS xs 0 a) = true ∧ lp_spec_l31Run_l1.res (stS xs 0 a) = ((walkL fS 1 xs 0 a).1, stS xs (walkL fS 1 xs 0 a).2.1 (walkL fS 1 xs 0 a).2.2) := by
  refine lp_spec_l31Run_l1.walk (stS xs) fS 1 (fun _ _ => True) xs (fun i e a he _ => ⟨?_, fun _ _ => trivial⟩) (fun a _ => ?_) a trivial (by simp only [lp_spec_l31Run_l1, stS]; omega)
  · obtain ⟨hlt, he⟩ := List.getElem?_eq_some_iff.1 he
    subst he
    have hw := wrap64 hlt hn
    obtain ⟨⟨⟨p1, p2⟩, p3, p4⟩, m⟩ := a
    cases hs : sOk ((p1, p2), p3, p4) xs[i] with
    | true =>
      have hs' : spec_l31Step_4 p1 p3 xs[i].1 xs[i].2.1 = true := hs
      simp [lp_spec_l31Run_l1, lt_spec_l31Run_l1, LT.out, allT, spec_l31Run_l1_0, spec_l31Run_l1_1, spec_l31Run_l1_2, spec_l31Run_l1_3, spec_l31Run_l1_4, spec_l31Run_l1_5, spec_l31Run_l1_6, spec_l31Run_l1_7, spec_l31Run_l1_8, spec_l31Run_l1_9, hlt, hw, fS, hs, hs', stS, sStep, upMost, act]
    | false =>
      have hs' : spec_l31Step_4 p1 p3 xs[i].1 xs[i].2.1 = false := hs
      simp [lp_spec_l31Run_l1, lt_spec_l31Run_l1, LT.out, allT, spec_l31Run_l1_0, spec_l31Run_l1_1, spec_l31Run_l1_2, spec_l31Run_l1_3, hlt, fS, hs, hs', stS]
  · simp [lp_spec_l31Run_l1, lt_spec_l31Run_l1, LT.out, spec_l31Run_l1_0, stS]

/-! ### The program's run -/

def p00 : Pr := ((0, 0), (0, 0))
def lastP (l : List Pr) : Pr := l[l.length - 1]?.getD p00

def fI (e : Ev) (l : List Pr) : Nat ⊕ List Pr := bif iOk (lastP l) e then .inr (l ++ [iStep (lastP l) e]) else .inl 0

def stI (xs : List Ev) (i : Nat) (l : List Pr) : X_impl_runPair_l0 := ((i : Int), (xs.length : Int), xs, l)

theorem run_i (l : List Pr) (xs : List Ev) (hl : l.length = 1) (hn : xs.length ≤ 200) :
    lp_impl_runPair_l0.fin (stI xs 0 l) = true ∧ lp_impl_runPair_l0.res (stI xs 0 l) = ((walkL fI 1 xs 0 l).1, stI xs (walkL fI 1 xs 0 l).2.1 (walkL fI 1 xs 0 l).2.2) := by
  refine lp_impl_runPair_l0.walk (stI xs) fI 1 (fun i l => l.length = i + 1) xs (fun i e l he hI => ⟨?_, fun l' hf => ?_⟩) (fun l _ => ?_) l (by simpa using hl) (by simp only [lp_impl_runPair_l0, stI]; omega)
  · obtain ⟨hlt, he⟩ := List.getElem?_eq_some_iff.1 he
    subst he
    have hw := wrap64 hlt (by omega)
    have hil : i < l.length := by omega
    have hlp : lastP l = l[i] := by unfold lastP p00; rw [hI]; simp [hil]
    have h5 : l.length + 1 ≤ 16777216 := by omega
    cases hs : iOk (lastP l) xs[i] with
    | true =>
      have hs' : loop_example_g00916_impl_Pair_step_4 (lastP l).1.1 (lastP l).2.1 xs[i].1 xs[i].2.1 = true := hs
      rw [hlp] at hs'
      simp only [fI, hs, cond_true]
      simp [lp_impl_runPair_l0, lt_impl_runPair_l0, LT.out, allT, impl_runPair_l0_0, impl_runPair_l0_1, impl_runPair_l0_2, impl_runPair_l0_3, impl_runPair_l0_4, impl_runPair_l0_5, impl_runPair_l0_6, impl_runPair_l0_7, impl_runPair_l0_8, impl_runPair_l0_9, impl_runPair_l0_10, hlt, hil, stI, iStep, hlp, hs']
      have d1 : decide (l.length ≤ 9223372036854775806) = true := decide_eq_true (by omega)
      have d2 : decide ((l.length + 1) * 32 ≤ 140737488355328) = true := decide_eq_true (by omega)
      rw [d1, d2, hw]
      simp
    | false =>
      have hs' : loop_example_g00916_impl_Pair_step_4 (lastP l).1.1 (lastP l).2.1 xs[i].1 xs[i].2.1 = false := hs
      rw [hlp] at hs'
      simp only [fI, hs, cond_false]
      simp [lp_impl_runPair_l0, lt_impl_runPair_l0, LT.out, allT, impl_runPair_l0_0, impl_runPair_l0_1, impl_runPair_l0_2, impl_runPair_l0_3, impl_runPair_l0_4, impl_runPair_l0_5, impl_runPair_l0_6, hlt, hil, stI, hs']
  · simp only [fI] at hf
    cases hs : iOk (lastP l) e with
    | true => rw [hs] at hf; simp only [cond_true, Sum.inr.injEq] at hf; subst hf; simp [hI]
    | false => rw [hs] at hf; cases hf
  · simp [lp_impl_runPair_l0, lt_impl_runPair_l0, LT.out, impl_runPair_l0_0, stI]

/-! ### Events that are not valid -/

def fX (e : Ev) (_ : Unit) : Nat ⊕ Unit := bif isE e then .inr () else .inl 0

theorem run_x (xs : List Ev) (hn : xs.length ≤ 9223372036854775807) :
    lp_slices_IndexFunc_impl_PairEvent_impl_runPair_1_l0.fin (((0 : Nat) : Int), (xs.length : Int), xs) = true ∧
      lp_slices_IndexFunc_impl_PairEvent_impl_runPair_1_l0.res (((0 : Nat) : Int), (xs.length : Int), xs) = ((walkL fX 1 xs 0 ()).1, (((walkL fX 1 xs 0 ()).2.1 : Nat) : Int), (xs.length : Int), xs) := by
  refine lp_slices_IndexFunc_impl_PairEvent_impl_runPair_1_l0.walk (fun i (_ : Unit) => ((i : Int), (xs.length : Int), xs)) fX 1 (fun _ _ => True) xs (fun i e b he _ => ⟨?_, fun _ _ => trivial⟩) (fun b _ => ?_) () trivial (by simp only [lp_slices_IndexFunc_impl_PairEvent_impl_runPair_1_l0]; omega)
  · obtain ⟨hlt, he⟩ := List.getElem?_eq_some_iff.1 he
    subst he
    have hw := wrap64 hlt hn
    cases hs : isE xs[i] with
    | true =>
      have hs' : impl_IsPairEvent_0 xs[i].1 xs[i].2.1 xs[i].2.2.1 xs[i].2.2.2 = true := hs
      simp [lp_slices_IndexFunc_impl_PairEvent_impl_runPair_1_l0, lt_slices_IndexFunc_impl_PairEvent_impl_runPair_1_l0, LT.out, allT, slices_IndexFunc_impl_PairEvent_impl_runPair_1_l0_0, slices_IndexFunc_impl_PairEvent_impl_runPair_1_l0_1, slices_IndexFunc_impl_PairEvent_impl_runPair_1_l0_2, slices_IndexFunc_impl_PairEvent_impl_runPair_1_l0_3, slices_IndexFunc_impl_PairEvent_impl_runPair_1_l0_4, slices_IndexFunc_impl_PairEvent_impl_runPair_1_l0_5, impl_runPair_1_0, hlt, hw, fX, hs, hs']
    | false =>
      have hs' : impl_IsPairEvent_0 xs[i].1 xs[i].2.1 xs[i].2.2.1 xs[i].2.2.2 = false := hs
      simp [lp_slices_IndexFunc_impl_PairEvent_impl_runPair_1_l0, lt_slices_IndexFunc_impl_PairEvent_impl_runPair_1_l0, LT.out, allT, slices_IndexFunc_impl_PairEvent_impl_runPair_1_l0_0, slices_IndexFunc_impl_PairEvent_impl_runPair_1_l0_1, slices_IndexFunc_impl_PairEvent_impl_runPair_1_l0_2, slices_IndexFunc_impl_PairEvent_impl_runPair_1_l0_3, slices_IndexFunc_impl_PairEvent_impl_runPair_1_l0_4, impl_runPair_1_0, hlt, fX, hs, hs']
  · simp [lp_slices_IndexFunc_impl_PairEvent_impl_runPair_1_l0, lt_slices_IndexFunc_impl_PairEvent_impl_runPair_1_l0, LT.out, slices_IndexFunc_impl_PairEvent_impl_runPair_1_l0_0]

theorem walk_fX : ∀ (xs : List Ev) (i : Nat), (walkL fX 1 xs i ()).1 = bif xs.all isE then 1 else 0
  | [], i => rfl
  | e :: r, i => by
    simp only [walkL, fX, List.all_cons]
    cases hs : isE e with
    | true => simpa using walk_fX r (i + 1)
    | false => rfl

theorem contains_eq (xs : List Ev) (hn : xs.length ≤ 9223372036854775807) :
    slices_ContainsFunc_impl_PairEvent_impl_runPair_1_0 xs = (!xs.all isE) ∧ slices_ContainsFunc_impl_PairEvent_impl_runPair_1_1 xs = true := by
  obtain ⟨h1, h2⟩ := run_x xs hn
  have h1 : lp_slices_IndexFunc_impl_PairEvent_impl_runPair_1_l0.fin ((0 : Int), (xs.length : Int), xs) = true := h1
  have h2 : lp_slices_IndexFunc_impl_PairEvent_impl_runPair_1_l0.res ((0 : Int), (xs.length : Int), xs) = _ := h2
  simp only [slices_ContainsFunc_impl_PairEvent_impl_runPair_1_0, slices_ContainsFunc_impl_PairEvent_impl_runPair_1_1, slices_IndexFunc_impl_PairEvent_impl_runPair_1_0, slices_IndexFunc_impl_PairEvent_impl_runPair_1_1, h1, h2, walk_fX, allT, cond_true, and_true]
  cases xs.all isE with
  | true => simp [show Nat.beq 1 0 = false from rfl]
  | false => simp

/-! ### Both runs -/

def mx (l : List Pr) : Int := l.foldl (fun m p => upMost p m) 0

theorem mx_snoc (l : List Pr) (q : Pr) : mx (l ++ [q]) = upMost q (mx l) := by simp [mx]

theorem lastP_snoc (l : List Pr) (q : Pr) : lastP (l ++ [q]) = q := by simp [lastP]

theorem join : ∀ (xs : List Ev) (i : Nat) (l : List Pr) (m : Int), xs.all isE = true → isP (lastP l) = true →
    (walkL fI 1 xs i l).1 = (walkL fS 1 xs i (lastP l, m)).1 ∧ ((walkL fI 1 xs i l).1 = 0 ∨ (walkL fI 1 xs i l).1 = 1) ∧
      ((walkL fI 1 xs i l).1 = 1 → (walkL fI 1 xs i l).2.2.length = l.length + xs.length ∧ lastP (walkL fI 1 xs i l).2.2 = (walkL fS 1 xs i (lastP l, m)).2.2.1 ∧
        (m = mx l → (walkL fS 1 xs i (lastP l, m)).2.2.2 = mx (walkL fI 1 xs i l).2.2))
  | [], i, l, m, _, _ => by simp [walkL]
  | e :: r, i, l, m, he, hp => by
    simp only [List.all_cons, Bool.and_eq_true] at he
    obtain ⟨h1, h2⟩ := step_eq (lastP l) e hp he.1
    simp only [walkL, fI, fS, h1]
    cases hs : sOk (lastP l) e with
    | false => simp
    | true =>
      obtain ⟨h3, h4⟩ := h2 hs
      simp only [cond_true, h3]
      have ih := join r (i + 1) (l ++ [sStep (lastP l) e]) (upMost (sStep (lastP l) e) m) he.2 (by rw [lastP_snoc]; exact h4)
      rw [lastP_snoc] at ih
      refine ⟨ih.1, ih.2.1, fun h => ?_⟩
      obtain ⟨g1, g2, g3⟩ := ih.2.2 h
      refine ⟨?_, g2, fun hm => g3 ?_⟩
      · rw [g1]; simp; omega
      · rw [mx_snoc, hm]

theorem act_eq (a b : Int) : loop_example_g00916_impl_Pair_active_0 a b = spec_l31Active_0 a b := by
  simp only [loop_example_g00916_impl_Pair_active_0, impl_truth_0, spec_l31Active_0]
  cases h1 : (a == 1) <;> cases h2 : (b == 1) <;> rfl

/-- What the reference's run comes to. -/
theorem spec_run (p : Pr) (xs : List Ev) :
    spec_l31Run_6 p.1.1 p.1.2 p.2.1 p.2.2 xs = true ∧
    (if 200 < xs.length then spec_l31Run_0 p.1.1 p.1.2 p.2.1 p.2.2 xs = 0 ∧ spec_l31Run_1 p.1.1 p.1.2 p.2.1 p.2.2 xs = 0 ∧ spec_l31Run_2 p.1.1 p.1.2 p.2.1 p.2.2 xs = 0 ∧ spec_l31Run_3 p.1.1 p.1.2 p.2.1 p.2.2 xs = 0 ∧ spec_l31Run_4 p.1.1 p.1.2 p.2.1 p.2.2 xs = 0 ∧ spec_l31Run_5 p.1.1 p.1.2 p.2.1 p.2.2 xs = 3
     else if (isP p && xs.all isE) = false then spec_l31Run_0 p.1.1 p.1.2 p.2.1 p.2.2 xs = 0 ∧ spec_l31Run_1 p.1.1 p.1.2 p.2.1 p.2.2 xs = 0 ∧ spec_l31Run_2 p.1.1 p.1.2 p.2.1 p.2.2 xs = 0 ∧ spec_l31Run_3 p.1.1 p.1.2 p.2.1 p.2.2 xs = 0 ∧ spec_l31Run_4 p.1.1 p.1.2 p.2.1 p.2.2 xs = 0 ∧ spec_l31Run_5 p.1.1 p.1.2 p.2.1 p.2.2 xs = 1
     else if (walkL fS 1 xs 0 (p, act p)).1 = 0 then spec_l31Run_0 p.1.1 p.1.2 p.2.1 p.2.2 xs = 0 ∧ spec_l31Run_1 p.1.1 p.1.2 p.2.1 p.2.2 xs = 0 ∧ spec_l31Run_2 p.1.1 p.1.2 p.2.1 p.2.2 xs = 0 ∧ spec_l31Run_3 p.1.1 p.1.2 p.2.1 p.2.2 xs = 0 ∧ spec_l31Run_4 p.1.1 p.1.2 p.2.1 p.2.2 xs = 0 ∧ spec_l31Run_5 p.1.1 p.1.2 p.2.1 p.2.2 xs = 5
     else spec_l31Run_0 p.1.1 p.1.2 p.2.1 p.2.2 xs = (walkL fS 1 xs 0 (p, act p)).2.2.1.1.1 ∧ spec_l31Run_1 p.1.1 p.1.2 p.2.1 p.2.2 xs = (walkL fS 1 xs 0 (p, act p)).2.2.1.1.2 ∧ spec_l31Run_2 p.1.1 p.1.2 p.2.1 p.2.2 xs = (walkL fS 1 xs 0 (p, act p)).2.2.1.2.1 ∧ spec_l31Run_3 p.1.1 p.1.2 p.2.1 p.2.2 xs = (walkL fS 1 xs 0 (p, act p)).2.2.1.2.2 ∧ spec_l31Run_4 p.1.1 p.1.2 p.2.1 p.2.2 xs = (walkL fS 1 xs 0 (p, act p)).2.2.2 ∧ spec_l31Run_5 p.1.1 p.1.2 p.2.1 p.2.2 xs = 0) := by
  by_cases hn : 200 < xs.length
  · have hd : decide ((↑(List.length xs) : Int) > (200 : Int)) = true := decide_eq_true (by omega)
    rw [if_pos hn]
    simp [spec_l31Run_0, spec_l31Run_1, spec_l31Run_2, spec_l31Run_3, spec_l31Run_4, spec_l31Run_5, spec_l31Run_6, hd, allT]
  · have hd : decide ((↑(List.length xs) : Int) > (200 : Int)) = false := decide_eq_false (by omega)
    rw [if_neg hn]
    obtain ⟨a1, a2⟩ := run_l0 (isP p) xs (by omega)
    have a1 : lp_spec_l31Run_l0.fin ((0 : Int), isP p, xs) = true := a1
    have a2 : lp_spec_l31Run_l0.res ((0 : Int), isP p, xs) = _ := a2
    rw [walk_fV] at a2
    obtain ⟨b1, b2⟩ := run_l1 (p, act p) xs (by omega)
    have b1 : lp_spec_l31Run_l1.fin ((0 : Int), spec_l31Active_0 p.1.1 p.2.1, xs, p.1.1, p.1.2, p.2.1, p.2.2, (0 : Int), (0 : Int), (0 : Int), (0 : Int)) = true := b1
    have b2 : lp_spec_l31Run_l1.res ((0 : Int), spec_l31Active_0 p.1.1 p.2.1, xs, p.1.1, p.1.2, p.2.1, p.2.2, (0 : Int), (0 : Int), (0 : Int), (0 : Int)) = _ := b2
    have hP : spec_IsPair_0 p.1.1 p.1.2 p.2.1 p.2.2 = isP p := isPair_eq _ _ _ _
    cases hv : (isP p && xs.all isE) with
    | false => simp [spec_l31Run_0, spec_l31Run_1, spec_l31Run_2, spec_l31Run_3, spec_l31Run_4, spec_l31Run_5, spec_l31Run_6, hd, allT, hP, a1, a2, hv]
    | true =>
      by_cases h0 : (walkL fS 1 xs 0 (p, act p)).1 = 0
      · simp [spec_l31Run_0, spec_l31Run_1, spec_l31Run_2, spec_l31Run_3, spec_l31Run_4, spec_l31Run_5, spec_l31Run_6, hd, allT, hP, a1, a2, b1, b2, hv, h0]
      · have hb : Nat.beq (walkL fS 1 xs 0 (p, act p)).1 0 = false := by
          cases hq : Nat.beq (walkL fS 1 xs 0 (p, act p)).1 0 with
          | false => rfl
          | true => exact absurd (Nat.eq_of_beq_eq_true hq) h0
        simp [spec_l31Run_0, spec_l31Run_1, spec_l31Run_2, spec_l31Run_3, spec_l31Run_4, spec_l31Run_5, spec_l31Run_6, hd, allT, hP, a1, a2, b1, b2, hv, h0, hb, stS]

/-- What the program's run comes to. -/
theorem impl_run (p : Pr) (xs : List Ev) :
    impl_runPair_2 p.1.1 p.1.2 p.2.1 p.2.2 xs = true ∧
    (if 200 < xs.length then impl_runPair_0 p.1.1 p.1.2 p.2.1 p.2.2 xs = 3 ∧ impl_runPair_1 p.1.1 p.1.2 p.2.1 p.2.2 xs = []
     else if (isP p && xs.all isE) = false then impl_runPair_0 p.1.1 p.1.2 p.2.1 p.2.2 xs = 1 ∧ impl_runPair_1 p.1.1 p.1.2 p.2.1 p.2.2 xs = []
     else if (walkL fI 1 xs 0 [p]).1 = 0 then impl_runPair_0 p.1.1 p.1.2 p.2.1 p.2.2 xs = 5 ∧ impl_runPair_1 p.1.1 p.1.2 p.2.1 p.2.2 xs = []
     else impl_runPair_0 p.1.1 p.1.2 p.2.1 p.2.2 xs = 0 ∧ impl_runPair_1 p.1.1 p.1.2 p.2.1 p.2.2 xs = (walkL fI 1 xs 0 [p]).2.2) := by
  by_cases hn : 200 < xs.length
  · have hd : decide ((↑(List.length xs) : Int) > (200 : Int)) = true := decide_eq_true (by omega)
    rw [if_pos hn]
    simp [impl_runPair_0, impl_runPair_1, impl_runPair_2, hd, allT]
  · have hd : decide ((↑(List.length xs) : Int) > (200 : Int)) = false := decide_eq_false (by omega)
    rw [if_neg hn]
    obtain ⟨a1, a2⟩ := contains_eq xs (by omega)
    obtain ⟨b1, b2⟩ := run_i [p] xs rfl (by omega)
    have b1 : lp_impl_runPair_l0.fin ((0 : Int), (xs.length : Int), xs, [((p.1.1, p.1.2), p.2.1, p.2.2)]) = true := b1
    have b2 : lp_impl_runPair_l0.res ((0 : Int), (xs.length : Int), xs, [((p.1.1, p.1.2), p.2.1, p.2.2)]) = _ := b2
    have hP : impl_IsPair_0 p.1.1 p.1.2 p.2.1 p.2.2 = isP p := rfl
    cases hi : isP p with
    | false => simp [impl_runPair_0, impl_runPair_1, impl_runPair_2, hd, allT, hP, hi]
    | true =>
      cases hv : xs.all isE with
      | false => simp [impl_runPair_0, impl_runPair_1, impl_runPair_2, hd, allT, hP, hi, a1, a2, hv]
      | true =>
        by_cases h0 : (walkL fI 1 xs 0 [p]).1 = 0
        · simp [impl_runPair_0, impl_runPair_1, impl_runPair_2, hd, allT, hP, hi, a1, a2, b1, b2, hv, h0]
        · have hb : Nat.beq (walkL fI 1 xs 0 [p]).1 0 = false := by
            cases hq : Nat.beq (walkL fI 1 xs 0 [p]).1 0 with
            | false => rfl
            | true => exact absurd (Nat.eq_of_beq_eq_true hq) h0
          simp [impl_runPair_0, impl_runPair_1, impl_runPair_2, hd, allT, hP, hi, a1, a2, b1, b2, hv, h0, hb, stI]

theorem lastP_eq (l : List Pr) (n : Nat) (h : l.length = n + 1) : l[n]?.getD ((0, 0), 0, 0) = lastP l := by
  unfold lastP p00; rw [h]; rfl

/-- The program's run answers as the reference's. -/
theorem runPair_eq (x0 x1 x2 x3 : Int) (xs : List Ev) :
    (impl_RunPair_0 x0 x1 x2 x3 xs = spec_RunPair_0 x0 x1 x2 x3 xs ∧ impl_RunPair_1 x0 x1 x2 x3 xs = spec_RunPair_1 x0 x1 x2 x3 xs ∧ impl_RunPair_2 x0 x1 x2 x3 xs = spec_RunPair_2 x0 x1 x2 x3 xs ∧
      impl_RunPair_3 x0 x1 x2 x3 xs = spec_RunPair_3 x0 x1 x2 x3 xs ∧ impl_RunPair_4 x0 x1 x2 x3 xs = spec_RunPair_4 x0 x1 x2 x3 xs) ∧ impl_RunPair_5 x0 x1 x2 x3 xs = true ∧ spec_RunPair_5 x0 x1 x2 x3 xs = true := by
  obtain ⟨a1, a2⟩ := spec_run ((x0, x1), (x2, x3)) xs
  obtain ⟨b1, b2⟩ := impl_run ((x0, x1), (x2, x3)) xs
  simp only at a1 a2 b1 b2
  by_cases hn : 200 < xs.length
  · rw [if_pos hn] at a2 b2
    simp [impl_RunPair_0, impl_RunPair_1, impl_RunPair_2, impl_RunPair_3, impl_RunPair_4, impl_RunPair_5, spec_RunPair_0, spec_RunPair_1, spec_RunPair_2, spec_RunPair_3, spec_RunPair_4, spec_RunPair_5, a1, a2, b1, b2, allT]
  · rw [if_neg hn] at a2 b2
    by_cases hv : (isP ((x0, x1), (x2, x3)) && xs.all isE) = false
    · rw [if_pos hv] at a2 b2
      simp [impl_RunPair_0, impl_RunPair_1, impl_RunPair_2, impl_RunPair_3, impl_RunPair_4, impl_RunPair_5, spec_RunPair_0, spec_RunPair_1, spec_RunPair_2, spec_RunPair_3, spec_RunPair_4, spec_RunPair_5, a1, a2, b1, b2, allT]
    · rw [if_neg hv] at a2 b2
      simp only [Bool.not_eq_false, Bool.and_eq_true] at hv
      obtain ⟨j1, j2, j3⟩ := join xs 0 [((x0, x1), (x2, x3))] (act ((x0, x1), (x2, x3))) hv.2 hv.1
      have hl : lastP [((x0, x1), (x2, x3))] = ((x0, x1), (x2, x3)) := rfl
      rw [hl] at j1 j3
      by_cases h0 : (walkL fI 1 xs 0 [((x0, x1), (x2, x3))]).1 = 0
      · rw [if_pos (by rw [← j1]; exact h0)] at a2
        rw [if_pos h0] at b2
        simp [impl_RunPair_0, impl_RunPair_1, impl_RunPair_2, impl_RunPair_3, impl_RunPair_4, impl_RunPair_5, spec_RunPair_0, spec_RunPair_1, spec_RunPair_2, spec_RunPair_3, spec_RunPair_4, spec_RunPair_5, a1, a2, b1, b2, allT]
      · rw [if_neg (by rw [← j1]; exact h0)] at a2
        rw [if_neg h0] at b2
        obtain ⟨g1, g2, _⟩ := j3 (j2.resolve_left h0)
        have hlen : (walkL fI 1 xs 0 [((x0, x1), (x2, x3))]).2.2.length = xs.length + 1 := by rw [g1]; simp; omega
        have hlast := lastP_eq _ _ hlen
        have hlt : xs.length < (walkL fI 1 xs 0 [((x0, x1), (x2, x3))]).2.2.length := by omega
        rw [g2, List.getElem?_eq_getElem hlt, Option.getD_some] at hlast
        simp [impl_RunPair_0, impl_RunPair_1, impl_RunPair_2, impl_RunPair_3, impl_RunPair_4, impl_RunPair_5, spec_RunPair_0, spec_RunPair_1, spec_RunPair_2, spec_RunPair_3, spec_RunPair_4, spec_RunPair_5, a1, a2, b1, b2, allT, hlast, hlen]
        omega

/-! ### Copies and comparisons -/

theorem toEvents (xs : List Ev) (hn : xs.length ≤ 1048576) : laws_toPairEventS_0 xs = xs ∧ laws_toPairEventS_1 xs = true := by
  have key := lp_laws_toPairEventS_l0.walk (fun i (a : Nat × List Ev) => ((i : Int), xs, a.2)) (fSet fun e => e) 0 (fun i a => a.1 = i ∧ a.2.length = xs.length) xs (fun i e a he hI => ⟨?_, fun a' hf => ?_⟩) (fun a hI => ?_) (0, List.replicate xs.length ((0 : Int), (0 : Int), false, false)) (by simp) (by simp only [lp_laws_toPairEventS_l0]; omega)
  · rw [walk_set0 _ _ _ _ (by simp)] at key
    obtain ⟨k1, k2⟩ := key
    have k1 : lp_laws_toPairEventS_l0.fin ((0 : Int), xs, List.replicate xs.length ((0 : Int), (0 : Int), false, false)) = true := k1
    have k2 : lp_laws_toPairEventS_l0.res ((0 : Int), xs, List.replicate xs.length ((0 : Int), (0 : Int), false, false)) = _ := k2
    simp [laws_toPairEventS_0, laws_toPairEventS_1, k1, k2, allT]
    omega
  · obtain ⟨hlt, he⟩ := List.getElem?_eq_some_iff.1 he
    subst he
    have hw := wrap64 hlt (by omega)
    obtain ⟨h1, h2⟩ := hI
    have hlt2 : i < a.2.length := by omega
    simp [lp_laws_toPairEventS_l0, lt_laws_toPairEventS_l0, LT.out, allT, laws_toPairEventS_l0_0, laws_toPairEventS_l0_1, laws_toPairEventS_l0_2, laws_toPairEventS_l0_3, laws_toPairEventS_l0_4, laws_toPairEventS_l0_5, laws_toPairEventS_l0_6, hlt, hlt2, hw, fSet, h1]
  · simp only [fSet, Sum.inr.injEq] at hf
    subst hf
    simp [hI.1, hI.2]
  · simp [lp_laws_toPairEventS_l0, lt_laws_toPairEventS_l0, LT.out, laws_toPairEventS_l0_0]

theorem eqEvents (xs : List Ev) (hn : xs.length ≤ 1048576) : laws_eqPairEventS_0 xs xs = true ∧ laws_eqPairEventS_1 xs xs = true := by
  have key := lp_laws_eqPairEventS_l0.walk (fun i (_ : Unit) => ((i : Int), xs, xs)) (fun _ a => .inr a) 1 (fun _ _ => True) xs (fun i e a he hI => ⟨?_, fun a' hf => trivial⟩) (fun a hI => ?_) () trivial (by simp only [lp_laws_eqPairEventS_l0]; omega)
  · rw [walk_all (fun _ _ => rfl)] at key
    obtain ⟨k1, k2⟩ := key
    have k1 : lp_laws_eqPairEventS_l0.fin ((0 : Int), xs, xs) = true := k1
    have k2 : lp_laws_eqPairEventS_l0.res ((0 : Int), xs, xs) = _ := k2
    simp [laws_eqPairEventS_0, laws_eqPairEventS_1, k1, k2, allT, show Nat.beq 1 0 = false from rfl]
  · obtain ⟨hlt, he⟩ := List.getElem?_eq_some_iff.1 he
    subst he
    have hw := wrap64 hlt (by omega)
    simp [lp_laws_eqPairEventS_l0, lt_laws_eqPairEventS_l0, LT.out, allT, laws_eqPairEventS_l0_0, laws_eqPairEventS_l0_1, laws_eqPairEventS_l0_2, laws_eqPairEventS_l0_3, laws_eqPairEventS_l0_4, laws_eqPairEventS_l0_5, laws_eqPairEventS_l0_6, laws_eqPairEvent_0, hlt, hw]
  · simp [lp_laws_eqPairEventS_l0, lt_laws_eqPairEventS_l0, LT.out, laws_eqPairEventS_l0_0]

theorem sz_small (xs : List Ev) (hn : xs.length ≤ 9223372036854775807) (h : decide (laws_szPairEventS_0 xs 1048576 < 0) = false) : xs.length ≤ 1048576 := by
  have hw : IntKind.i64.wrap ((1048576 : Int) - (xs.length : Int)) = 1048576 - (xs.length : Int) := wrap_i64 (by omega) (by omega)
  simp only [laws_szPairEventS_0, hw, Bool.cond_decide] at h
  have h := of_decide_eq_false h
  split at h <;> omega

/-! ### The laws -/

theorem eqPair_refl (a b c d : Int) : laws_eqPair_0 a b c d a b c d = true := by simp [laws_eqPair_0, laws_eqController_0]

theorem law_RunPair (x0 x1 x2 x3 : Int) (xs : List Ev) (hn : xs.length ≤ 9223372036854775807) : laws_FnExactRunPair_0 x0 x1 x2 x3 xs = true ∧ laws_FnExactRunPair_1 x0 x1 x2 x3 xs = true := by
  cases hs : decide (laws_szPairEventS_0 xs 1048576 < 0) with
  | true => simp [laws_FnExactRunPair_0, laws_FnExactRunPair_1, hs, allT]
  | false =>
    have h := sz_small xs hn hs
    obtain ⟨t1, t2⟩ := toEvents xs h
    obtain ⟨e1, e2⟩ := eqEvents xs h
    obtain ⟨⟨r0, r1, r2, r3, r4⟩, r5, r6⟩ := runPair_eq x0 x1 x2 x3 xs
    simp [laws_FnExactRunPair_0, laws_FnExactRunPair_1, hs, allT, t1, t2, e1, e2, r0, r1, r2, r3, r4, r5, r6, eqPair_refl]

theorem law_StepPair (x0 x1 x2 x3 x4 x5 : Int) (x6 x7 : Bool) : laws_FnExactStepPair_0 x0 x1 x2 x3 x4 x5 x6 x7 = true ∧ laws_FnExactStepPair_1 x0 x1 x2 x3 x4 x5 x6 x7 = true := by
  obtain ⟨⟨r0, r1, r2, r3, r4⟩, r5, r6⟩ := runPair_eq x0 x1 x2 x3 [(x4, x5, x6, x7)]
  simp [laws_FnExactStepPair_0, laws_FnExactStepPair_1, impl_StepPair_0, impl_StepPair_1, impl_StepPair_2, impl_StepPair_3, impl_StepPair_4, impl_StepPair_5, spec_StepPair_0, spec_StepPair_1, spec_StepPair_2, spec_StepPair_3, spec_StepPair_4, spec_StepPair_5, allT, r0, r1, r2, r3, r4, r5, r6, eqPair_refl]

/-! ### The greatest number of active controllers -/

def fG (p : Pr) (m : Int) : Nat ⊕ Int := .inr (upMost p m)

theorem run_g (l : List Pr) (hn : l.length ≤ 9223372036854775807) :
    lp_impl_GreatestActive_l0.fin ((0 : Int), (l.length : Int), (0 : Int), l) = true ∧ (lp_impl_GreatestActive_l0.res ((0 : Int), (l.length : Int), (0 : Int), l)).2.2.2.1 = mx l := by
  have key := lp_impl_GreatestActive_l0.walk (fun i (m : Int) => ((i : Int), (l.length : Int), m, l)) fG 0 (fun _ _ => True) l (fun i e a he hI => ⟨?_, fun a' hf => trivial⟩) (fun a hI => ?_) 0 trivial (by simp only [lp_impl_GreatestActive_l0]; omega)
  · obtain ⟨k1, k2⟩ := key
    have k1 : lp_impl_GreatestActive_l0.fin ((0 : Int), (l.length : Int), (0 : Int), l) = true := k1
    have k2 : lp_impl_GreatestActive_l0.res ((0 : Int), (l.length : Int), (0 : Int), l) = _ := k2
    refine ⟨k1, ?_⟩
    rw [k2]
    have : ∀ (r : List Pr) (i : Nat) (m : Int), (walkL fG 0 r i m).2.2 = r.foldl (fun m p => upMost p m) m := by
      intro r
      induction r with
      | nil => intro i m; rfl
      | cons p r ih => intro i m; simp only [walkL, fG, List.foldl_cons]; exact ih _ _
    exact this l 0 0
  · obtain ⟨hlt, he⟩ := List.getElem?_eq_some_iff.1 he
    subst he
    have hw := wrap64 hlt hn
    simp [lp_impl_GreatestActive_l0, lt_impl_GreatestActive_l0, LT.out, allT, impl_GreatestActive_l0_0, impl_GreatestActive_l0_1, impl_GreatestActive_l0_2, impl_GreatestActive_l0_3, impl_GreatestActive_l0_4, impl_GreatestActive_l0_5, hlt, hw, fG, upMost, act, act_eq]
  · simp [lp_impl_GreatestActive_l0, lt_impl_GreatestActive_l0, LT.out, impl_GreatestActive_l0_0]

theorem act_nonneg (p : Pr) : 0 ≤ act p := by
  simp only [act, spec_l31Active_0]
  cases h1 : (p.1.1 == 1) <;> cases h2 : (p.2.1 == 1) <;> decide

theorem greatest_eq (x0 x1 x2 x3 : Int) (xs : List Ev) :
    impl_GreatestActive_0 x0 x1 x2 x3 xs = spec_GreatestActive_0 x0 x1 x2 x3 xs ∧ impl_GreatestActive_1 x0 x1 x2 x3 xs = spec_GreatestActive_1 x0 x1 x2 x3 xs ∧ impl_GreatestActive_2 x0 x1 x2 x3 xs = true ∧ spec_GreatestActive_2 x0 x1 x2 x3 xs = true := by
  obtain ⟨a1, a2⟩ := spec_run ((x0, x1), (x2, x3)) xs
  obtain ⟨b1, b2⟩ := impl_run ((x0, x1), (x2, x3)) xs
  simp only at a1 a2 b1 b2
  have gnil := run_g [] (by simp)
  by_cases hn : 200 < xs.length
  · rw [if_pos hn] at a2 b2
    simp [impl_GreatestActive_0, impl_GreatestActive_1, impl_GreatestActive_2, spec_GreatestActive_0, spec_GreatestActive_1, spec_GreatestActive_2, a1, a2, b1, b2, allT]
    exact ⟨gnil.2, gnil.1⟩
  · rw [if_neg hn] at a2 b2
    by_cases hv : (isP ((x0, x1), (x2, x3)) && xs.all isE) = false
    · rw [if_pos hv] at a2 b2
      simp [impl_GreatestActive_0, impl_GreatestActive_1, impl_GreatestActive_2, spec_GreatestActive_0, spec_GreatestActive_1, spec_GreatestActive_2, a1, a2, b1, b2, allT]
      exact ⟨gnil.2, gnil.1⟩
    · rw [if_neg hv] at a2 b2
      simp only [Bool.not_eq_false, Bool.and_eq_true] at hv
      obtain ⟨j1, j2, j3⟩ := join xs 0 [((x0, x1), (x2, x3))] (act ((x0, x1), (x2, x3))) hv.2 hv.1
      have hl : lastP [((x0, x1), (x2, x3))] = ((x0, x1), (x2, x3)) := rfl
      rw [hl] at j1 j3
      by_cases h0 : (walkL fI 1 xs 0 [((x0, x1), (x2, x3))]).1 = 0
      · rw [if_pos (by rw [← j1]; exact h0)] at a2
        rw [if_pos h0] at b2
        simp [impl_GreatestActive_0, impl_GreatestActive_1, impl_GreatestActive_2, spec_GreatestActive_0, spec_GreatestActive_1, spec_GreatestActive_2, a1, a2, b1, b2, allT]
        exact ⟨gnil.2, gnil.1⟩
      · rw [if_neg (by rw [← j1]; exact h0)] at a2
        rw [if_neg h0] at b2
        obtain ⟨g1, _, g3⟩ := j3 (j2.resolve_left h0)
        have hm : act ((x0, x1), (x2, x3)) = mx [((x0, x1), (x2, x3))] := by
          have := act_nonneg ((x0, x1), (x2, x3))
          simp only [mx, List.foldl_cons, List.foldl_nil, upMost]
          split <;> omega
        have g3 := g3 hm
        have gg := run_g (walkL fI 1 xs 0 [((x0, x1), (x2, x3))]).2.2 (by rw [g1]; simp; omega)
        simp [impl_GreatestActive_0, impl_GreatestActive_1, impl_GreatestActive_2, spec_GreatestActive_0, spec_GreatestActive_1, spec_GreatestActive_2, a1, a2, b1, b2, allT, g3, gg.1, gg.2]

theorem law_Greatest (x0 x1 x2 x3 : Int) (xs : List Ev) (hn : xs.length ≤ 9223372036854775807) : laws_FnExactGreatestActive_0 x0 x1 x2 x3 xs = true ∧ laws_FnExactGreatestActive_1 x0 x1 x2 x3 xs = true := by
  cases hs : decide (laws_szPairEventS_0 xs 1048576 < 0) with
  | true => simp [laws_FnExactGreatestActive_0, laws_FnExactGreatestActive_1, hs, allT]
  | false =>
    have h := sz_small xs hn hs
    obtain ⟨t1, t2⟩ := toEvents xs h
    obtain ⟨e1, e2⟩ := eqEvents xs h
    obtain ⟨r0, r1, r2, r3⟩ := greatest_eq x0 x1 x2 x3 xs
    simp [laws_FnExactGreatestActive_0, laws_FnExactGreatestActive_1, hs, allT, t1, t2, e1, e2, r0, r1, r2, r3]

end Go.SX

/- Admitted events, in plain words: the program's two passes answer as the reference's one. -/
import Derived.Test.YtofbpbijfhfnoaaPa
namespace Go.SX
open Go.Proofs
set_option maxRecDepth 100000

def bothUp (p : Pr) : Bool := bif spec_l31Up_0 p.1.1 then spec_l31Up_0 p.2.1 else false

theorem up_eq (a : Int) : loop_example_g00916_impl_Controller_isUp_0 a = spec_l31Up_0 a := rfl

theorem loss_eq (n : Int) (b : Bool) : impl_countLoss_1 n b = spec_l31Lost_0 n b := by cases b <;> rfl

theorem loss_ok (n : Int) (b : Bool) : impl_countLoss_0 n b = !decide (spec_l31Lost_0 n b > 2) := by
  have key : ∀ w : Int, decide (w ≤ 2) = !decide (w > 2) := fun w => by
    by_cases h : w ≤ 2
    · rw [decide_eq_true h, decide_eq_false (by omega)]; rfl
    · rw [decide_eq_false h, decide_eq_true (by omega)]; rfl
  cases b
  · rfl
  · exact key _

def chk2 (p : Pr) (e : Ev) : Bool :=
  !isP p || (!sOk p e || (bif e.1 == 0 then bothUp (sStep p e) == bothUp p else bif e.1 == 2 then !bothUp p else true))

theorem chk2All : ((upTo 3).all fun a => (upTo 7).all fun b => (upTo 3).all fun c => (upTo 7).all fun d => evs0.all fun e => chk2 ((a, b), (c, d)) e) = true := by kernel_rfl

theorem chk2_of (p : Pr) (e : Ev) (hp : isP p = true) (he : isE e = true) (hs : sOk p e = true) : (e.1 = 0 → bothUp (sStep p e) = bothUp p) ∧ (e.1 = 2 → bothUp p = false) := by
  obtain ⟨⟨a, b⟩, c, d⟩ := p
  have hr := range_of _ hp
  simp only at hr
  obtain ⟨⟨h1, h2⟩, ⟨h3, h4⟩, ⟨h5, h6⟩, h7, h8⟩ := hr
  have t := chk2All
  simp only [List.all_eq_true] at t
  have t := t a (mem_upTo h1 (by omega)) b (mem_upTo h3 (by omega)) c (mem_upTo h5 (by omega)) d (mem_upTo h7 (by omega)) e (ev_mem e he)
  simp only [chk2, hp, hs, Bool.not_true, Bool.false_or] at t
  refine ⟨fun h => ?_, fun h => ?_⟩
  · rw [h] at t; simpa using t
  · rw [h] at t; simpa using t

/-! ### The reference's pass -/

def fSp (e : Ev) (a : Pr × Int × Int) : Nat ⊕ (Pr × Int × Int) :=
  bif isE e then
    bif (bif !bothUp a.1 then (bif e.2.2.1 then true else e.2.2.2) else false) then .inl 1
    else bif (bif (bif !sOk a.1 e then true else decide (spec_l31Lost_0 a.2.1 e.2.2.1 > 2)) then true else decide (spec_l31Lost_0 a.2.2 e.2.2.2 > 2)) then .inl 2
    else .inr (sStep a.1 e, spec_l31Lost_0 a.2.1 e.2.2.1, spec_l31Lost_0 a.2.2 e.2.2.2)
  else .inl 0

def stSp (xs : List Ev) (i : Nat) (a : Pr × Int × Int) : X_spec_AreAdmitted_l0 := ((i : Int), a.2.1, a.2.2, xs, a.1.1.1, a.1.1.2, a.1.2.1, a.1.2.2)

theorem run_sp (a : Pr × Int × Int) (xs : List Ev) (hn : xs.length ≤ 9223372036854775807) :
    lp_spec_AreAdmitted_l0.fin (stSp xs 0 a) = true ∧ lp_spec_AreAdmitted_l0.res (stSp xs 0 a) = ((walkL fSp 3 xs 0 a).1, stSp xs (walkL fSp 3 xs 0 a).2.1 (walkL fSp 3 xs 0 a).2.2) := by
  refine lp_spec_AreAdmitted_l0.walk (stSp xs) fSp 3 (fun _ _ => True) xs (fun i e a he _ => ⟨?_, fun _ _ => trivial⟩) (fun a _ => ?_) a trivial (by simp only [lp_spec_AreAdmitted_l0, stSp]; omega)
  · obtain ⟨hlt, he⟩ := List.getElem?_eq_some_iff.1 he
    subst he
    have hw := wrap64 hlt hn
    obtain ⟨⟨⟨p1, p2⟩, p3, p4⟩, m, n⟩ := a
    have key : (lp_spec_AreAdmitted_l0.lt (stSp xs i (((p1, p2), p3, p4), m, n))).out =
        bif !isE xs[i] then some (.inl 0) else
        bif (bif !bothUp ((p1, p2), p3, p4) then (bif xs[i].2.2.1 then true else xs[i].2.2.2) else false) then some (.inl 1) else
        bif (bif (bif !sOk ((p1, p2), p3, p4) xs[i] then true else decide (spec_l31Lost_0 m xs[i].2.2.1 > 2)) then true else decide (spec_l31Lost_0 n xs[i].2.2.2 > 2)) then some (.inl 2) else
        some (.inr (stSp xs (i + 1) (sStep ((p1, p2), p3, p4) xs[i], spec_l31Lost_0 m xs[i].2.2.1, spec_l31Lost_0 n xs[i].2.2.2))) := by
      simp [lp_spec_AreAdmitted_l0, lt_spec_AreAdmitted_l0, LT.out, allT, stSp, spec_AreAdmitted_l0_0, spec_AreAdmitted_l0_1, spec_AreAdmitted_l0_2, spec_AreAdmitted_l0_3, spec_AreAdmitted_l0_4, spec_AreAdmitted_l0_5, spec_AreAdmitted_l0_6, spec_AreAdmitted_l0_7, spec_AreAdmitted_l0_8, spec_AreAdmitted_l0_9, spec_AreAdmitted_l0_10, spec_AreAdmitted_l0_11, spec_AreAdmitted_l0_12, hlt, hw, isE, isEv_eq, bothUp, sOk, sStep]
    rw [key]
    simp only [fSp]
    cases isE xs[i] with
    | false => rfl
    | true =>
      simp only [Bool.not_true, cond_false, cond_true]
      cases (bif !bothUp ((p1, p2), p3, p4) then (bif xs[i].2.2.1 then true else xs[i].2.2.2) else false) with
      | true => rfl
      | false =>
        simp only [cond_false]
        cases (bif (bif !sOk ((p1, p2), p3, p4) xs[i] then true else decide (spec_l31Lost_0 m xs[i].2.2.1 > 2)) then true else decide (spec_l31Lost_0 n xs[i].2.2.2 > 2)) with
        | true => rfl
        | false => rfl
  · simp [lp_spec_AreAdmitted_l0, lt_spec_AreAdmitted_l0, LT.out, spec_AreAdmitted_l0_0, stSp]

/-! ### The program's second pass -/

def fB (b : Ev × Pr) (c : Int × Int) : Nat ⊕ (Int × Int) :=
  bif b.1.1 == 1 then .inr (0, 0) else
  bif b.1.1 == 2 then .inr c else
  bif !bothUp b.2 then (bif (bif b.1.2.2.1 then true else b.1.2.2.2) then .inl 0 else .inr c) else
  bif (bif decide (spec_l31Lost_0 c.1 b.1.2.2.1 > 2) then true else decide (spec_l31Lost_0 c.2 b.1.2.2.2 > 2)) then .inl 1 else
  .inr (spec_l31Lost_0 c.1 b.1.2.2.1, spec_l31Lost_0 c.2 b.1.2.2.2)

def stB (xs : List Ev) (l : List Pr) (i : Nat) (c : Int × Int) : X_impl_AreAdmitted_l0 := ((i : Int), (xs.length : Int), xs, c.1, c.2, l)

theorem run_b (xs : List Ev) (l : List Pr) (c : Int × Int) (hl : l.length = xs.length + 1) (hn : xs.length ≤ 9223372036854775807) :
    lp_impl_AreAdmitted_l0.fin (stB xs l 0 c) = true ∧ lp_impl_AreAdmitted_l0.res (stB xs l 0 c) = ((walkL fB 2 (xs.zip l) 0 c).1, stB xs l (walkL fB 2 (xs.zip l) 0 c).2.1 (walkL fB 2 (xs.zip l) 0 c).2.2) := by
  have hz : (xs.zip l).length = xs.length := by rw [List.length_zip]; omega
  refine lp_impl_AreAdmitted_l0.walk (stB xs l) fB 2 (fun _ _ => True) (xs.zip l) (fun i b c he _ => ⟨?_, fun _ _ => trivial⟩) (fun a _ => ?_) c trivial (by simp only [lp_impl_AreAdmitted_l0, stB]; omega)
  · obtain ⟨hlt0, he⟩ := List.getElem?_eq_some_iff.1 he
    have hlt : i < xs.length := by omega
    have hlt2 : i < l.length := by omega
    have hb : b = (xs[i], l[i]) := by rw [← he, List.getElem_zip]
    subst hb
    have hw := wrap64 hlt hn
    obtain ⟨m, n⟩ := c
    have key : (lp_impl_AreAdmitted_l0.lt (stB xs l i (m, n))).out =
        bif xs[i].1 == 1 then some (.inr (stB xs l (i + 1) (0, 0))) else
        bif xs[i].1 == 2 then some (.inr (stB xs l (i + 1) (m, n))) else
        bif (bif !spec_l31Up_0 l[i].1.1 then true else !spec_l31Up_0 l[i].2.1) then (bif (bif xs[i].2.2.1 then true else xs[i].2.2.2) then some (.inl 0) else some (.inr (stB xs l (i + 1) (m, n)))) else
        bif (bif !impl_countLoss_0 m xs[i].2.2.1 then true else !impl_countLoss_0 n xs[i].2.2.2) then some (.inl 1) else
        some (.inr (stB xs l (i + 1) (impl_countLoss_1 m xs[i].2.2.1, bif !!impl_countLoss_0 m xs[i].2.2.1 && true then impl_countLoss_1 n xs[i].2.2.2 else n))) := by
      simp [lp_impl_AreAdmitted_l0, lt_impl_AreAdmitted_l0, LT.out, allT, stB, impl_AreAdmitted_l0_0, impl_AreAdmitted_l0_1, impl_AreAdmitted_l0_2, impl_AreAdmitted_l0_3, impl_AreAdmitted_l0_4, impl_AreAdmitted_l0_5, impl_AreAdmitted_l0_6, impl_AreAdmitted_l0_7, impl_AreAdmitted_l0_8, impl_AreAdmitted_l0_9, impl_AreAdmitted_l0_10, impl_AreAdmitted_l0_11, impl_AreAdmitted_l0_12, impl_AreAdmitted_l0_13, impl_AreAdmitted_l0_14, impl_AreAdmitted_l0_15, impl_AreAdmitted_l0_16, impl_AreAdmitted_l0_17, hlt, hlt2, hw, up_eq]
    rw [key]
    simp only [fB]
    have hbu : (bif !spec_l31Up_0 l[i].1.1 then true else !spec_l31Up_0 l[i].2.1) = !bothUp l[i] := by
      unfold bothUp
      cases spec_l31Up_0 l[i].1.1 <;> rfl
    rw [hbu, loss_ok, loss_ok, loss_eq, loss_eq]
    cases h1 : (xs[i].1 == 1) with
    | true => rfl
    | false =>
      cases h2 : (xs[i].1 == 2) with
      | true => rfl
      | false =>
        simp only [cond_false]
        cases h3 : bothUp l[i] with
        | false =>
          simp only [Bool.not_false, cond_true]
          cases (bif xs[i].2.2.1 then true else xs[i].2.2.2) <;> rfl
        | true =>
          simp only [Bool.not_true, cond_false]
          cases h4 : decide (spec_l31Lost_0 m xs[i].2.2.1 > 2) with
          | true => rfl
          | false =>
            simp only [Bool.not_false, Bool.not_true, cond_false, Bool.and_self, cond_true]
            cases h5 : decide (spec_l31Lost_0 n xs[i].2.2.2 > 2) <;> rfl
  · rw [hz]
    simp [lp_impl_AreAdmitted_l0, lt_impl_AreAdmitted_l0, LT.out, impl_AreAdmitted_l0_0, stB]

/-! ### Both -/

/-- The pairs before, between and behind events. -/
def tr : List Ev → Pr → List Pr
  | [], p => [p]
  | e :: r, p => p :: tr r (iStep p e)

def poss : List Ev → Pr → Bool
  | [], _ => true
  | e :: r, p => bif iOk p e then poss r (iStep p e) else false

theorem walk_tr : ∀ (xs : List Ev) (i : Nat) (pre : List Pr) (p : Pr), (walkL fI 1 xs i (pre ++ [p])).1 = (bif poss xs p then 1 else 0) ∧ (poss xs p = true → (walkL fI 1 xs i (pre ++ [p])).2.2 = pre ++ tr xs p)
  | [], i, pre, p => ⟨rfl, fun _ => rfl⟩
  | e :: r, i, pre, p => by
    simp only [walkL, fI, lastP_snoc, poss, tr]
    cases hs : iOk p e with
    | false => simp
    | true =>
      simp only [cond_true]
      have ih := walk_tr r (i + 1) (pre ++ [p]) (iStep p e)
      refine ⟨ih.1, fun h => ?_⟩
      rw [ih.2 h]; simp

theorem tr_length : ∀ (xs : List Ev) (p : Pr), (tr xs p).length = xs.length + 1
  | [], _ => rfl
  | _ :: r, p => by simp only [tr, List.length_cons, tr_length r]

theorem lost_small (n : Int) (b : Bool) (h0 : 0 ≤ n) (h2 : n ≤ 2) (h : ¬ spec_l31Lost_0 n b > 2) : 0 ≤ spec_l31Lost_0 n b ∧ spec_l31Lost_0 n b ≤ 2 := by
  refine ⟨?_, by omega⟩
  cases b with
  | false => exact Int.le_refl 0
  | true =>
    have hw := wrap_i64 (x := n + 1) (by omega) (by omega)
    simp only [spec_l31Lost_0, cond_true, hw]; omega

theorem walk_le {A B : Type} {f : B → A → Nat ⊕ A} {e : Nat} (h : ∀ b a j, f b a = .inl j → j ≤ e) : ∀ (r : List B) (i : Nat) (a : A), (walkL f e r i a).1 ≤ e
  | [], _, _ => Nat.le_refl _
  | b :: r, i, a => by
    simp only [walkL]
    cases hf : f b a with
    | inl j => exact h b a j hf
    | inr a' => exact walk_le h r (i + 1) a'

theorem ev_kind (e : Ev) (h : isE e = true) : e.1 = 0 ∨ (e.1 = 1 ∧ e.2.2.1 = false ∧ e.2.2.2 = false) ∨ (e.1 = 2 ∧ e.2.2.1 = false ∧ e.2.2.2 = false) := by
  have hm := ev_mem e h
  have key : ∀ e ∈ evs0, e.1 = 0 ∨ (e.1 = 1 ∧ e.2.2.1 = false ∧ e.2.2.2 = false) ∨ (e.1 = 2 ∧ e.2.2.1 = false ∧ e.2.2.2 = false) := by decide
  exact key e hm

theorem pass : ∀ (xs : List Ev) (i : Nat) (p : Pr) (c1 c2 : Int), isP p = true → (bothUp p = false → c1 = 0 ∧ c2 = 0) → (0 ≤ c1 ∧ c1 ≤ 2) → (0 ≤ c2 ∧ c2 ≤ 2) →
    ((walkL fSp 3 xs i (p, c1, c2)).1 = 3 ↔ (xs.all isE = true ∧ poss xs p = true ∧ (walkL fB 2 (xs.zip (tr xs p)) i (c1, c2)).1 = 2))
  | [], i, p, c1, c2, _, _, _, _ => by simp [walkL, poss]
  | e :: r, i, p, c1, c2, hp, hu, h1, h2 => by
    simp only [List.all_cons, Bool.and_eq_true, poss, tr, List.zip_cons_cons, walkL]
    cases he : isE e with
    | false => simp [fSp, he]
    | true =>
      obtain ⟨g1, g2⟩ := step_eq p e hp he
      rw [g1]
      cases hs : sOk p e with
      | false =>
        simp only [fSp, he, hs, cond_true, Bool.not_false, cond_false]
        cases (bif !bothUp p then (bif e.2.2.1 then true else e.2.2.2) else false) <;> simp
      | true =>
        obtain ⟨g3, g4⟩ := g2 hs
        obtain ⟨q1, q2⟩ := chk2_of p e hp he hs
        have l0 : ∀ n, spec_l31Lost_0 n false = 0 := fun _ => rfl
        have z0 : decide ((0 : Int) > 2) = false := by decide
        rw [g3]
        rcases ev_kind e he with hk | ⟨hk, hl, hm⟩ | ⟨hk, hl, hm⟩
        · have k1 : (e.1 == 1) = false := by rw [hk]; rfl
          have k2 : (e.1 == 2) = false := by rw [hk]; rfl
          cases hb : bothUp p with
          | false =>
            obtain ⟨rfl, rfl⟩ := hu hb
            cases hl : e.2.2.1 with
            | true => simp [fSp, fB, he, hs, hb, k1, k2, hl]
            | false =>
              cases hm : e.2.2.2 with
              | true => simp [fSp, fB, he, hs, hb, k1, k2, hl, hm]
              | false =>
                have ih := pass r (i + 1) (sStep p e) 0 0 g4 (fun _ => ⟨rfl, rfl⟩) (by decide) (by decide)
                simpa [fSp, fB, he, hs, hb, k1, k2, hl, hm, l0] using ih
          | true =>
            cases d1 : decide (spec_l31Lost_0 c1 e.2.2.1 > 2) with
            | true => simp [fSp, fB, he, hs, hb, k1, k2, d1]
            | false =>
              cases d2 : decide (spec_l31Lost_0 c2 e.2.2.2 > 2) with
              | true => simp [fSp, fB, he, hs, hb, k1, k2, d1, d2]
              | false =>
                have b1 := lost_small c1 e.2.2.1 h1.1 h1.2 (of_decide_eq_false d1)
                have b2 := lost_small c2 e.2.2.2 h2.1 h2.2 (of_decide_eq_false d2)
                have ih := pass r (i + 1) (sStep p e) (spec_l31Lost_0 c1 e.2.2.1) (spec_l31Lost_0 c2 e.2.2.2) g4 (fun h => by rw [q1 hk, hb] at h; cases h) b1 b2
                simpa [fSp, fB, he, hs, hb, k1, k2, d1, d2] using ih
        · have k1 : (e.1 == 1) = true := by rw [hk]; rfl
          have ih := pass r (i + 1) (sStep p e) 0 0 g4 (fun _ => ⟨rfl, rfl⟩) (by decide) (by decide)
          cases hb : bothUp p with
          | false => simpa [fSp, fB, he, hs, hb, k1, hl, hm, l0] using ih
          | true => simpa [fSp, fB, he, hs, hb, k1, hl, hm, l0] using ih
        · have k1 : (e.1 == 1) = false := by rw [hk]; rfl
          have k2 : (e.1 == 2) = true := by rw [hk]; rfl
          have hb := q2 hk
          obtain ⟨rfl, rfl⟩ := hu hb
          have ih := pass r (i + 1) (sStep p e) 0 0 g4 (fun _ => ⟨rfl, rfl⟩) (by decide) (by decide)
          simpa [fSp, fB, he, hs, hb, k1, k2, hl, hm, l0] using ih

theorem fSp_le (b : Ev) (a : Pr × Int × Int) (j : Nat) (h : fSp b a = .inl j) : j ≤ 3 := by
  unfold fSp at h
  cases h0 : isE b with
  | false => rw [h0] at h; simp only [cond_false, Sum.inl.injEq] at h; omega
  | true =>
    rw [h0] at h
    simp only [cond_true] at h
    cases hq : (bif !bothUp a.1 then (bif b.2.2.1 then true else b.2.2.2) else false) with
    | true => rw [hq] at h; simp at h; omega
    | false =>
      rw [hq] at h
      simp only [cond_false] at h
      cases hr : (bif (bif !sOk a.1 b then true else decide (spec_l31Lost_0 a.2.1 b.2.2.1 > 2)) then true else decide (spec_l31Lost_0 a.2.2 b.2.2.2 > 2)) with
      | true => rw [hr] at h; simp at h; omega
      | false => rw [hr] at h; simp at h

theorem fB_le (b : Ev × Pr) (a : Int × Int) (j : Nat) (h : fB b a = .inl j) : j ≤ 2 := by
  unfold fB at h
  cases h1 : (b.1.1 == 1) with
  | true => rw [h1] at h; simp at h
  | false =>
    cases h2 : (b.1.1 == 2) with
    | true => rw [h1, h2] at h; simp at h
    | false =>
      cases h3 : bothUp b.2 with
      | false =>
        cases h4 : (bif b.1.2.2.1 then true else b.1.2.2.2) with
        | true => rw [h1, h2, h3, h4] at h; simp at h; omega
        | false => rw [h1, h2, h3, h4] at h; simp at h
      | true =>
        cases h4 : (bif decide (spec_l31Lost_0 a.1 b.1.2.2.1 > 2) then true else decide (spec_l31Lost_0 a.2 b.1.2.2.2 > 2)) with
        | true => rw [h1, h2, h3, h4] at h; simp at h; omega
        | false => rw [h1, h2, h3, h4] at h; simp at h

theorem tag3 (n : Nat) (h : n ≤ 3) : (bif Nat.beq n 0 then false else bif Nat.beq n 1 then false else bif Nat.beq n 2 then false else true) = decide (n = 3) := by
  match n, h with
  | 0, _ => rfl
  | 1, _ => rfl
  | 2, _ => rfl
  | 3, _ => rfl

theorem tag2 (n : Nat) (h : n ≤ 2) : (bif Nat.beq n 0 then false else bif Nat.beq n 1 then false else true) = decide (n = 2) := by
  match n, h with
  | 0, _ => rfl
  | 1, _ => rfl
  | 2, _ => rfl

theorem admitted_eq (xs : List Ev) : impl_AreAdmitted_0 xs = spec_AreAdmitted_0 xs ∧ impl_AreAdmitted_1 xs = true ∧ spec_AreAdmitted_1 xs = true := by
  obtain ⟨b1, b2⟩ := impl_run ((0, 0), (0, 0)) xs
  simp only at b2
  have b1 : impl_runPair_2 0 0 0 0 xs = true := b1
  by_cases hn : 200 < xs.length
  · have hd : decide ((↑(List.length xs) : Int) > (200 : Int)) = true := decide_eq_true (by omega)
    rw [if_pos hn] at b2
    simp [impl_AreAdmitted_0, impl_AreAdmitted_1, spec_AreAdmitted_0, spec_AreAdmitted_1, hd, b1, b2, allT]
  · have hd : decide ((↑(List.length xs) : Int) > (200 : Int)) = false := decide_eq_false (by omega)
    rw [if_neg hn] at b2
    obtain ⟨s1, s2⟩ := run_sp (((0, 0), (0, 0)), 0, 0) xs (by omega)
    have s1 : lp_spec_AreAdmitted_l0.fin ((0 : Int), (0 : Int), (0 : Int), xs, (0 : Int), (0 : Int), (0 : Int), (0 : Int)) = true := s1
    have s2 : lp_spec_AreAdmitted_l0.res ((0 : Int), (0 : Int), (0 : Int), xs, (0 : Int), (0 : Int), (0 : Int), (0 : Int)) = _ := s2
    have hspec : spec_AreAdmitted_0 xs = decide ((walkL fSp 3 xs 0 (((0, 0), (0, 0)), 0, 0)).1 = 3) := by
      simp only [spec_AreAdmitted_0, hd, cond_false, s2]
      exact tag3 _ (walk_le fSp_le _ _ _)
    have hfin : spec_AreAdmitted_1 xs = true := by simp [spec_AreAdmitted_1, allT, s1]
    have hP : isP ((0, 0), (0, 0)) = true := by decide
    have hpass := pass xs 0 ((0, 0), (0, 0)) 0 0 hP (fun _ => ⟨rfl, rfl⟩) (by decide) (by decide)
    have hw := walk_tr xs 0 [] ((0, 0), (0, 0))
    simp only [List.nil_append] at hw
    refine ⟨?_, ?_, hfin⟩
    · rw [hspec]
      by_cases hv : (isP ((0, 0), (0, 0)) && xs.all isE) = false
      · rw [if_pos hv] at b2
        have hv' : xs.all isE = false := by simpa [hP] using (show (isP ((0, 0), (0, 0)) && xs.all isE) = false from hv)
        simp only [impl_AreAdmitted_0, b2.1]
        have : ¬ (walkL fSp 3 xs 0 (((0, 0), (0, 0)), 0, 0)).1 = 3 := fun h => by have := (hpass.1 h).1; rw [hv'] at this; cases this
        rw [decide_eq_false this]; rfl
      · rw [if_neg hv] at b2
        have hv' : xs.all isE = true := by
          have : (isP ((0, 0), (0, 0)) && xs.all isE) = true := by simpa using hv
          simpa [hP] using this
        cases hps : poss xs ((0, 0), (0, 0)) with
        | false =>
          have h0 : (walkL fI 1 xs 0 [((0, 0), (0, 0))]).1 = 0 := by rw [hw.1, hps]; rfl
          rw [if_pos h0] at b2
          simp only [impl_AreAdmitted_0, b2.1]
          have : ¬ (walkL fSp 3 xs 0 (((0, 0), (0, 0)), 0, 0)).1 = 3 := fun h => by have := (hpass.1 h).2.1; rw [hps] at this; cases this
          rw [decide_eq_false this]; rfl
        | true =>
          have h0 : ¬ (walkL fI 1 xs 0 [((0, 0), (0, 0))]).1 = 0 := by rw [hw.1, hps]; simp
          rw [if_neg h0] at b2
          have hl : impl_runPair_1 0 0 0 0 xs = tr xs ((0, 0), (0, 0)) := by rw [b2.2]; exact hw.2 hps
          obtain ⟨_, r2⟩ := run_b xs (tr xs ((0, 0), (0, 0))) (0, 0) (tr_length _ _) (by omega)
          have r2 : lp_impl_AreAdmitted_l0.res ((0 : Int), (xs.length : Int), xs, (0 : Int), (0 : Int), tr xs ((0, 0), (0, 0))) = _ := r2
          simp only [impl_AreAdmitted_0, b2.1, hl, r2]
          have ht := tag2 (walkL fB 2 (xs.zip (tr xs ((0, 0), (0, 0)))) 0 (0, 0)).1 (walk_le fB_le _ _ _)
          rw [show ((0 : Int) != 0) = false from rfl, cond_false, ht]
          refine Bool.eq_iff_iff.2 ?_
          simp only [decide_eq_true_eq]
          rw [hpass]
          exact ⟨fun h => ⟨hv', hps, h⟩, fun h => h.2.2⟩
    · simp only [impl_AreAdmitted_1, b1, allT, cond_true]
      by_cases hv : (isP ((0, 0), (0, 0)) && xs.all isE) = false
      · rw [if_pos hv] at b2
        simp [b2.1]
      · rw [if_neg hv] at b2
        cases hps : poss xs ((0, 0), (0, 0)) with
        | false =>
          have h0 : (walkL fI 1 xs 0 [((0, 0), (0, 0))]).1 = 0 := by rw [hw.1, hps]; rfl
          rw [if_pos h0] at b2
          simp [b2.1]
        | true =>
          have h0 : ¬ (walkL fI 1 xs 0 [((0, 0), (0, 0))]).1 = 0 := by rw [hw.1, hps]; simp
          rw [if_neg h0] at b2
          have hl : impl_runPair_1 0 0 0 0 xs = tr xs ((0, 0), (0, 0)) := by rw [b2.2]; exact hw.2 hps
          obtain ⟨r1, _⟩ := run_b xs (tr xs ((0, 0), (0, 0))) (0, 0) (tr_length _ _) (by omega)
          have r1 : lp_impl_AreAdmitted_l0.fin ((0 : Int), (xs.length : Int), xs, (0 : Int), (0 : Int), tr xs ((0, 0), (0, 0))) = true := r1
          simp [hl, r1]

theorem law_Admitted (xs : List Ev) (hn : xs.length ≤ 9223372036854775807) : laws_FnExactAreAdmitted_0 xs = true ∧ laws_FnExactAreAdmitted_1 xs = true := by
  cases hs : decide (laws_szPairEventS_0 xs 1048576 < 0) with
  | true => simp [laws_FnExactAreAdmitted_0, laws_FnExactAreAdmitted_1, hs, allT]
  | false =>
    have h := sz_small xs hn hs
    obtain ⟨t1, t2⟩ := toEvents xs h
    obtain ⟨e1, e2⟩ := eqEvents xs h
    obtain ⟨r0, r1, r2⟩ := admitted_eq xs
    simp [laws_FnExactAreAdmitted_0, laws_FnExactAreAdmitted_1, hs, allT, t1, t2, e1, e2, r0, r1, r2]

end Go.SX

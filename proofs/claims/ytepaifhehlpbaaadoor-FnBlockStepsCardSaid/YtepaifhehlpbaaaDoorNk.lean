/- Draws of blocks, in plain words. -/
import Derived.Test.YtepaifhehlpbaaaDoorRj
namespace Go.SX
open Go.Proofs
set_option maxRecDepth 100000

/-- A loop of few rounds, by what stays true. -/
theorem Lp.inv {X : Type} (p : Lp X) (I : Nat → X → Prop) (Q : Nat → X → Prop)
    (hs : ∀ k x, I (k + 1) x → (∃ j, (p.lt x).out = some (.inl j) ∧ Q j x) ∨ ∃ y, (p.lt x).out = some (.inr y) ∧ I k y)
    (he : ∀ x, I 0 x → ∃ j, (p.lt x).out = some (.inl j) ∧ Q j x) (N : Nat) (x : X) (hN : N ≤ 999) (h : I N x) :
    p.fin x = true ∧ ∃ j y, p.res x = (j, y) ∧ Q j y := by
  have key : ∀ (k : Nat) (x : X), I k x → ∃ j y, runL p.lt (k + 1) x = some (j, y) ∧ Q j y := by
    intro k
    induction k with
    | zero =>
      intro x h
      obtain ⟨j, h1, h2⟩ := he x h
      exact ⟨j, x, runL_end _ h1, h2⟩
    | succ k ih =>
      intro x h
      rcases hs k x h with ⟨j, h1, h2⟩ | ⟨y, h1, h2⟩
      · exact ⟨j, x, runL_end _ h1, h2⟩
      · obtain ⟨j, z, h3, h4⟩ := ih y h2
        exact ⟨j, z, by rw [runL_next _ h1]; exact h3, h4⟩
  obtain ⟨j, y, h1, h2⟩ := key N x h
  obtain ⟨r1, r2⟩ := p.run h1 (le_big (by omega))
  exact ⟨r1, j, y, r2, h2⟩

theorem src_nx {n a s : Int} {c : List Int} (h : srcOk a s c = true) : srcOk (nxA n a c) (nxS n a s c) c = true := (next_ok n h).2.1
theorem src_pk {a s x : Int} {l c : List Int} (h : srcOk a s c = true) : srcOk (pkA a (x :: l) c) (pkS a s (x :: l) c) c = true := (pick_ok (l := x :: l) (by rw [h]; rfl)).2.1
theorem nx_in {n a s : Int} {c : List Int} (h : srcOk a s c = true) (hn : 1 ≤ n) : 0 ≤ nxV n a s c ∧ nxV n a s c < n := ⟨(next_ok n h).2.2.1, (next_ok n h).2.2.2 hn⟩
theorem one_le {C : Type} (x : C) (l : List C) : leN 1 (x :: l).length = true := leN_t (by simp)

theorem drawTerm_ok {a s : Int} {c : List Int} (h : srcOk a s c = true) : spec_l15DrawTerm_5 a s c = true ∧ srcOk (spec_l15DrawTerm_3 a s c) (spec_l15DrawTerm_4 a s c) c = true ∧ (spec_l15DrawTerm_1 a s c).size ≤ 1 := by
  have h1 := src_nx (n := 6) h
  have h2 : srcOk (spec_l15DrawTerm_a1 a s c) (spec_l15DrawTerm_a2 a s c) c = true := by
    simp only [spec_l15DrawTerm_a1, spec_l15DrawTerm_a2]
    have p0 := src_nx (n := 5) h1
    cases spec_l13Counts_0 (spec_l15DrawTerm_a0 a s c) <;> simp only [cond_true, cond_false, p0, h1]
  have h3 : srcOk (nxA 30 (spec_l15DrawTerm_a1 a s c) c) (spec_l15DrawTerm_a5 a s c) c = true := src_nx h2
  refine ⟨?_, ?_, ?_⟩
  · simp [spec_l15DrawTerm_5, allT, h, h1, h2, h3, spec_l15DrawTerm_a11, one_le]
  · have p1 : ∀ x l, srcOk (pkA (nxA 30 (spec_l15DrawTerm_a1 a s c) c) (x :: l) c) (pkS (nxA 30 (spec_l15DrawTerm_a1 a s c) c) (spec_l15DrawTerm_a5 a s c) (x :: l) c) c = true := fun x l => src_pk h3
    simp only [spec_l15DrawTerm_3, spec_l15DrawTerm_4]
    cases spec_l15DrawTerm_a4 a s c <;> cases spec_l15DrawTerm_a6 a s c <;> simp only [cond_true, cond_false, p1, h3]
  · simp only [spec_l15DrawTerm_1, spec_l15DrawTerm_a9]
    cases spec_l15DrawTerm_a4 a s c <;> cases spec_l15DrawTerm_a6 a s c <;> cases spec_l15DrawTerm_a8 a s c <;> cases spec_l13Counts_0 (spec_l15DrawTerm_a0 a s c) <;> decide

theorem drawArgs_ok {a s : Int} {c : List Int} (k : Int) (h : srcOk a s c = true) : spec_l15DrawArgs_3 k a s c = true ∧ srcOk (spec_l15DrawArgs_0 k a c) (spec_l15DrawArgs_1 k a s c) c = true ∧
    (1 ≤ (spec_l15DrawArgs_2 k a s c).length ∧ (spec_l15DrawArgs_2 k a s c).length ≤ 2) := by
  have h1 := src_nx (n := 2) h
  refine ⟨?_, ?_, ?_⟩
  · simp [spec_l15DrawArgs_3, allT, h, h1, spec_l15DrawArgs_a0, spec_l15DrawArgs_a1]
  · simp only [spec_l15DrawArgs_0, spec_l15DrawArgs_1]
    have p0 := src_nx (n := 2) h1
    cases spec_l13Takes_0 k == 2 <;> simp only [cond_true, cond_false, p0, h1]
  · simp only [spec_l15DrawArgs_2, spec_l15DrawArgs_a0, spec_l15DrawArgs_a1]
    cases spec_l13Takes_0 k == 2 <;> simp

/-- Lists of arguments that a draw gives. -/
def okLL (m : Nat) (ll : List (List Int)) : Prop := ll.length ≤ m ∧ ∀ x ∈ ll, x.length ≤ 2

theorem okLL_app {m : Nat} {ll : List (List Int)} {l : List Int} (h : okLL m ll) (hl : l.length ≤ 2) : okLL (m + 1) (ll ++ [l]) :=
  ⟨by simp; exact h.1, fun x hx => by
    rcases List.mem_append.1 hx with hx | hx
    · exact h.2 x hx
    · simp at hx; rw [hx]; exact hl⟩

theorem l15_runs0 (c : List Int) (k : Int) (nm : ByteArray) (n : Int) (K : Nat) (hK : K ≤ 300) (a s : Int) (h : srcOk a s c = true) :
    lp_spec_DrawRunBlock_l0.fin ((K : Int), [], a, s, k, nm, n, c) = true ∧ ∃ j r, lp_spec_DrawRunBlock_l0.res ((K : Int), [], a, s, k, nm, n, c) = (j, r) ∧ okLL 300 r.2.1 := by
  refine lp_spec_DrawRunBlock_l0.inv (fun m x => (x.1 = (m : Int) ∧ m ≤ K ∧ okLL (K - m) x.2.1) ∧ srcOk x.2.2.1 x.2.2.2.1 c = true ∧ x.2.2.2.2.2.2.2 = c) (fun _ r => okLL 300 r.2.1)
    (fun m x hx => .inr ?_) (fun x hx => ?_) K _ (by omega) ⟨⟨rfl, by omega, by simp [okLL]⟩, h, rfl⟩
  · obtain ⟨y0, y1, y2, y3, y4, y5, y6, y7⟩ := x
    obtain ⟨⟨h0, hm, hl⟩, h1, h2⟩ := hx
    simp only at h0 h1 h2 hm hl
    subst h0 h2
    obtain ⟨q1, q2, q3⟩ := drawArgs_ok y4 h1
    have hl1 := hl.1
    have t1 : ltI 0 (((m + 1 : Nat) : Int)) = true := ltI_t (by omega)
    have t2 : leN (y1.length + 1) 9223372036854775807 = true := leN_t (by omega)
    have t3 : leN ((y1.length + 1) * 24) 140737488355328 = true := leN_t (by omega)
    refine ⟨?_, ?_, ?_⟩
    rotate_left
    · simp only [lp_spec_DrawRunBlock_l0, lt_spec_DrawRunBlock_l0, LT.out, spec_DrawRunBlock_l0_0, spec_DrawRunBlock_l0_1, spec_DrawRunBlock_l0_2, spec_DrawRunBlock_l0_3, List.length_singleton, t1, q1, t2, t3, allT, cond_true]
      rfl
    · refine ⟨⟨?_, by omega, ?_⟩, q2, rfl⟩
      · simp only [spec_DrawRunBlock_l0_4]; rw [wrap_i64 (by omega) (by omega)]; omega
      · have := okLL_app hl q3.2
        rwa [show K - (m + 1) + 1 = K - m by omega] at this
  · obtain ⟨y0, y1, y2, y3, y4, y5, y6, y7⟩ := x
    obtain ⟨⟨h0, _, hl⟩, h1, h2⟩ := hx
    simp only at h0 h1 h2 hl
    subst h0 h2
    exact ⟨0, by simp [lp_spec_DrawRunBlock_l0, lt_spec_DrawRunBlock_l0, LT.out, spec_DrawRunBlock_l0_0], ⟨by have := hl.1; simp only; omega, hl.2⟩⟩

theorem l15_runs1 (l : List Int) (hl2 : l.length ≤ 2) (K M : Nat) (hK : K ≤ 10) (hM : M ≤ 200) (ll : List (List Int)) (h : okLL M ll) :
    lp_spec_DrawRunBlock_l1_l0.fin ((K : Int), ll, l) = true ∧ ∃ j r, lp_spec_DrawRunBlock_l1_l0.res ((K : Int), ll, l) = (j, r) ∧ okLL (M + K + 1) r.2.1 := by
  refine lp_spec_DrawRunBlock_l1_l0.inv (fun m x => (x.1 = (m : Int) - 1 ∧ m ≤ K + 1 ∧ okLL (M + K + 1 - m) x.2.1) ∧ x.2.2 = l) (fun _ r => okLL (M + K + 1) r.2.1)
    (fun m x hx => .inr ?_) (fun x hx => ?_) (K + 1) _ (by omega) ⟨⟨by simp, by omega, by rw [show M + K + 1 - (K + 1) = M by omega]; exact h⟩, rfl⟩
  · obtain ⟨y0, y1, y2⟩ := x
    obtain ⟨⟨h0, hm, hl⟩, h2⟩ := hx
    simp only at h0 h2 hm hl
    subst h0 h2
    have hl1 := hl.1
    have t1 : leI 0 (((m + 1 : Nat) : Int) - 1) = true := leI_t (by omega)
    have t2 : leN (y1.length + 1) 9223372036854775807 = true := leN_t (by omega)
    have t3 : leN ((y1.length + 1) * 24) 140737488355328 = true := leN_t (by omega)
    have t4 : leN y2.length 1048576 = true := leN_t (by omega)
    refine ⟨?_, ?_, ?_⟩
    rotate_left
    · simp only [lp_spec_DrawRunBlock_l1_l0, lt_spec_DrawRunBlock_l1_l0, LT.out, spec_DrawRunBlock_l1_l0_0, spec_DrawRunBlock_l1_l0_1, spec_DrawRunBlock_l1_l0_2, spec_DrawRunBlock_l1_l0_3, List.length_singleton, t1, t4, t2, t3, allT, cond_true]
      rfl
    · refine ⟨⟨?_, by omega, ?_⟩, rfl⟩
      · simp only [spec_DrawRunBlock_l1_l0_4]; rw [wrap_i64 (by omega) (by omega)]; omega
      · have := okLL_app hl hl2
        rwa [show M + K + 1 - (m + 1) + 1 = M + K + 1 - m by omega] at this
  · obtain ⟨y0, y1, y2⟩ := x
    obtain ⟨⟨h0, _, hl⟩, h2⟩ := hx
    simp only at h0 h2 hl
    subst h0 h2
    exact ⟨0, by simp [lp_spec_DrawRunBlock_l1_l0, lt_spec_DrawRunBlock_l1_l0, LT.out, spec_DrawRunBlock_l1_l0_0, show leI 0 (-1) = false from rfl], hl⟩

theorem l15_runs2 (c : List Int) (k : Int) (nm : ByteArray) (n : Int) (K : Nat) (hK : K ≤ 12) (a s : Int) (h : srcOk a s c = true) :
    lp_spec_DrawRunBlock_l1.fin ((K : Int), a, s, k, nm, n, [], c) = true ∧ ∃ j r, lp_spec_DrawRunBlock_l1.res ((K : Int), a, s, k, nm, n, [], c) = (j, r) ∧ okLL 60 r.2.2.2.2.2.2.1 ∧ srcOk r.2.1 r.2.2.1 c = true := by
  refine lp_spec_DrawRunBlock_l1.inv (fun m x => (x.1 = (m : Int) ∧ m ≤ K ∧ okLL (5 * (K - m)) x.2.2.2.2.2.2.1) ∧ srcOk x.2.1 x.2.2.1 c = true ∧ x.2.2.2.2.2.2.2 = c) (fun _ r => okLL 60 r.2.2.2.2.2.2.1 ∧ srcOk r.2.1 r.2.2.1 c = true)
    (fun m x hx => .inr ?_) (fun x hx => ?_) K _ (by omega) ⟨⟨rfl, by omega, by simp [okLL]⟩, h, rfl⟩
  · obtain ⟨y0, y1, y2, y3, y4, y5, y6, y7⟩ := x
    obtain ⟨⟨h0, hm, hl⟩, h1, h2⟩ := hx
    simp only at h0 h1 h2 hm hl
    subst h0 h2
    obtain ⟨q1, q2, q3⟩ := drawArgs_ok y3 h1
    have n4 := nx_in (n := 4) q2 (by omega)
    obtain ⟨f1, j, r, f2, f3⟩ := l15_runs1 (spec_l15DrawArgs_2 y3 y1 y2 y7) q3.2 (nxV 4 (spec_l15DrawArgs_0 y3 y1 y7) (spec_l15DrawArgs_1 y3 y1 y2 y7) y7).toNat (5 * (K - (m + 1))) (by omega) (by omega) y6 hl
    rw [show (((nxV 4 (spec_l15DrawArgs_0 y3 y1 y7) (spec_l15DrawArgs_1 y3 y1 y2 y7) y7).toNat : Nat) : Int) = nxV 4 (spec_l15DrawArgs_0 y3 y1 y7) (spec_l15DrawArgs_1 y3 y1 y2 y7) y7 by omega] at f1 f2
    have t1 : ltI 0 (((m + 1 : Nat) : Int)) = true := ltI_t (by omega)
    refine ⟨?_, ?_, ?_⟩
    rotate_left
    · simp only [lp_spec_DrawRunBlock_l1, lt_spec_DrawRunBlock_l1, LT.out, spec_DrawRunBlock_l1_0, spec_DrawRunBlock_l1_1, spec_DrawRunBlock_l1_2, spec_DrawRunBlock_l1_3, spec_DrawRunBlock_l1_a0, t1, q1, q2, f1, allT, cond_true]
      rfl
    · have q4 : srcOk (spec_DrawRunBlock_l1_5 y1 y3 y7) (spec_DrawRunBlock_l1_6 y1 y2 y3 y7) y7 = true := src_nx (n := 4) q2
      refine ⟨⟨?_, by omega, ?_⟩, q4, rfl⟩
      · simp only [spec_DrawRunBlock_l1_4]; rw [wrap_i64 (by omega) (by omega)]; omega
      · simp only [spec_DrawRunBlock_l1_7, spec_DrawRunBlock_l1_a0, f2]
        exact ⟨by have := f3.1; omega, f3.2⟩
  · obtain ⟨y0, y1, y2, y3, y4, y5, y6, y7⟩ := x
    obtain ⟨⟨h0, _, hl⟩, h1, h2⟩ := hx
    simp only at h0 h1 h2 hl
    subst h0 h2
    exact ⟨0, by simp [lp_spec_DrawRunBlock_l1, lt_spec_DrawRunBlock_l1, LT.out, spec_DrawRunBlock_l1_0], ⟨by have := hl.1; simp only; omega, hl.2⟩, h1⟩

theorem drawRun_ok {c : List Int} (h : srcOk 0 0 c = true) : spec_DrawRunBlock_4 c = true ∧ (spec_DrawRunBlock_1 c).size ≤ 1 ∧ okLL 300 (spec_DrawRunBlock_3 c) := by
  have h0 := (from_ok c h).2
  obtain ⟨t1, t2, t3⟩ := drawTerm_ok h0
  have t4 : srcOk (spec_DrawRunBlock_a1 c) (spec_DrawRunBlock_a2 c) c = true := src_nx t2
  have n2 := nx_in (n := 2) t4 (by omega)
  have n12 := nx_in (n := 12) t4 (by omega)
  obtain ⟨f1, j, r, f2, f3⟩ := l15_runs0 c (spec_l15DrawTerm_0 0 (frS c) c) (spec_l15DrawTerm_1 0 (frS c) c) (spec_l15DrawTerm_2 0 (frS c) c) (200 + nxV 2 (spec_DrawRunBlock_a1 c) (spec_DrawRunBlock_a2 c) c).toNat (by omega) _ _ (src_nx (n := 2) t4)
  obtain ⟨g1, j', r', g2, g3, g4⟩ := l15_runs2 c (spec_l15DrawTerm_0 0 (frS c) c) (spec_l15DrawTerm_1 0 (frS c) c) (spec_l15DrawTerm_2 0 (frS c) c) (nxV 12 (spec_DrawRunBlock_a1 c) (spec_DrawRunBlock_a2 c) c).toNat (by omega) _ _ (src_nx (n := 12) t4)
  have e9 : spec_DrawRunBlock_a9 c = (((200 + nxV 2 (spec_DrawRunBlock_a1 c) (spec_DrawRunBlock_a2 c) c).toNat : Int), [], nxA 2 (spec_DrawRunBlock_a1 c) c, nxS 2 (spec_DrawRunBlock_a1 c) (spec_DrawRunBlock_a2 c) c, spec_l15DrawTerm_0 0 (frS c) c, spec_l15DrawTerm_1 0 (frS c) c, spec_l15DrawTerm_2 0 (frS c) c, c) := by
    simp only [spec_DrawRunBlock_a9]
    rw [wrap_i64 (by omega) (by omega), show (((200 + nxV 2 (spec_DrawRunBlock_a1 c) (spec_DrawRunBlock_a2 c) c).toNat : Nat) : Int) = 200 + nxV 2 (spec_DrawRunBlock_a1 c) (spec_DrawRunBlock_a2 c) c by omega]
  have e3 : spec_DrawRunBlock_a3 c = (((nxV 12 (spec_DrawRunBlock_a1 c) (spec_DrawRunBlock_a2 c) c).toNat : Int), nxA 12 (spec_DrawRunBlock_a1 c) c, nxS 12 (spec_DrawRunBlock_a1 c) (spec_DrawRunBlock_a2 c) c, spec_l15DrawTerm_0 0 (frS c) c, spec_l15DrawTerm_1 0 (frS c) c, spec_l15DrawTerm_2 0 (frS c) c, [], c) := by
    simp only [spec_DrawRunBlock_a3]
    rw [show (((nxV 12 (spec_DrawRunBlock_a1 c) (spec_DrawRunBlock_a2 c) c).toNat : Nat) : Int) = nxV 12 (spec_DrawRunBlock_a1 c) (spec_DrawRunBlock_a2 c) c by omega]
  rw [← e9] at f1 f2
  rw [← e3] at g1 g2
  have e57 : srcOk (spec_DrawRunBlock_a5 c) (spec_DrawRunBlock_a7 c) c = true := by
    simp only [spec_DrawRunBlock_a5, spec_DrawRunBlock_a7, spec_DrawRunBlock_a6, spec_DrawRunBlock_a4, g2]; exact g4
  have e10 : spec_DrawRunBlock_a10 c = r'.2.2.2.2.2.2.1 := by simp only [spec_DrawRunBlock_a10, spec_DrawRunBlock_a6, spec_DrawRunBlock_a4, g2]
  have hl := g3.1
  have y1 : leN ((spec_DrawRunBlock_a10 c).length + 1) 9223372036854775807 = true := leN_t (by rw [e10]; omega)
  have y2 : leN (((spec_DrawRunBlock_a10 c).length + 1) * 24) 140737488355328 = true := leN_t (by rw [e10]; omega)
  refine ⟨?_, ?_, ?_⟩
  · simp only [spec_DrawRunBlock_4, allT, h, t1, t2, t4, f1, g1, e57, List.length_singleton, y1, y2, Bool.or_true, cond_true]
  · simp only [spec_DrawRunBlock_1]; cases spec_DrawRunBlock_a0 c <;> cases spec_DrawRunBlock_a8 c <;> exact t3
  · simp only [spec_DrawRunBlock_3, f2, e10]
    cases spec_DrawRunBlock_a0 c with
    | true => exact f3
    | false =>
      cases spec_DrawRunBlock_a8 c with
      | true => exact ⟨by have := (okLL_app (l := [2]) g3 (by simp)).1; simp only [cond_false, cond_true]; omega, (okLL_app (l := [2]) g3 (by simp)).2⟩
      | false => exact ⟨by simp only [cond_false]; omega, g3.2⟩

def N_spec_DrawRunBlock : List SV → List Entry → Option Out
  | [.one ⟨false, [.ref 0]⟩], [.row false 5 (.int .u8) x0] => some ⟨(.tup [⟨true, [(.val (.int IntKind.i64 (spec_DrawRunBlock_0 x0))), (.val (.string (spec_DrawRunBlock_1 x0))), (.val (.int IntKind.i64 (spec_DrawRunBlock_2 x0)))]⟩, ⟨false, [(.ref 1)]⟩]), [(.row false 5 (CTy.int IntKind.u8) x0)], [(.row true 26 (CTy.sl (2 : Nat) (CTy.int IntKind.i64)) (spec_DrawRunBlock_3 x0))], [srcOk 0 0 x0]⟩
  | _, _ => none

def n_spec_DrawRunBlock : PF Tryd.prog := PF.alt p_spec_DrawRunBlock N_spec_DrawRunBlock (by
  intro args es o h hnd; unfold N_spec_DrawRunBlock at h; split at h
  · rename_i x0
    cases h
    have hnd := nd_fst hnd
    have hh := (drawRun_ok hnd).1
    have en := hh
    exact altok rfl (nd_one en) rfl rfl rfl
  · cases h)

end Go.SX

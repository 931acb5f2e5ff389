/- Draws of blocks, in plain words. -/
import Derived.Test.YtepaifhehlpbaaaDoorRj
namespace Go.SX
open Go.Proofs
set_option maxRecDepth 100000

/-- A loop of few rounds, by what stays true. -/
theorem Lp.inv {X : Type} (p : Lp X) (I : Nat → X → Prop) (Q : Nat → X → Prop)
    (hs : ∀ k x, I (k + 1) x → (∃ j, (p.lt x).out = some (.inl j) ∧ Q j x) ∨ ∃ y, (p.lt x).out = some (.inr y) ∧ I k y)
    (he : ∀ x, I 0 x → ∃ j, (p.lt x).out = some (.inl j) ∧ Q j x) (N : Nat) (x : X) (hN : N ≤ 999) (h : I N x) :
    p.fin x = true ∧ ∃ j y, p.res x = (j, y) ∧ Q j y := by
  have key : ∀ (k : Nat) (x : X), I k x → ∃ j y, runL p.lt (k + 1) x = some (j, y) ∧ Q j y := by
    intro k
    induction k with
    | zero =>
      intro x h
      obtain ⟨j, h1, h2⟩ := he x h
      exact ⟨j, x, runL_end _ h1, h2⟩
    | succ k ih =>
      intro x h
      rcases hs k x h with ⟨j, h1, h2⟩ | ⟨y, h1, h2⟩
      · exact ⟨j, x, runL_end _ h1, h2⟩
      · obtain ⟨j, z, h3, h4⟩ := ih y h2
        exact ⟨j, z, by rw [runL_next _ h1]; exact h3, h4⟩
  obtain ⟨j, y, h1, h2⟩ := key N x h
  obtain ⟨r1, r2⟩ := p.run h1 (le_big (by omega))
  exact ⟨r1, j, y, r2, h2⟩

theorem src_nx {n a s : Int} {c : List Int} (h : srcOk a s c = true) : srcOk (nxA n a c) (nxS n a s c) c = true := (next_ok n h).2.1
theorem src_pk {a s x : Int} {l c : List Int} (h : srcOk a s c = true) : srcOk (pkA a (x :: l) c) (pkS a s (x :: l) c) c = true := (pick_ok (l := x :: l) (by rw [h]; rfl)).2.1
theorem nx_in {n a s : Int} {c : List Int} (h : srcOk a s c = true) (hn : 1 ≤ n) : 0 ≤ nxV n a s c ∧ nxV n a s c < n := ⟨(next_ok n h).2.2.1, (next_ok n h).2.2.2 hn⟩
theorem one_le {C : Type} (x : C) (l : List C) : leN 1 (x :: l).length = true := leN_t (by simp)

theorem drawTerm_ok {a s : Int} {c : List Int} (h : srcOk a s c = true) : spec_l15DrawTerm_5 a s c = true ∧ srcOk (spec_l15DrawTerm_3 a s c) (spec_l15DrawTerm_4 a s c) c = true ∧ (spec_l15DrawTerm_1 a s c).size ≤ 1 := by
  have h1 := src_nx (n := 6) h
  have h2 : srcOk (spec_l15DrawTerm_a1 a s c) (spec_l15DrawTerm_a2 a s c) c = true := by
    simp only [spec_l15DrawTerm_a1, spec_l15DrawTerm_a2]
    have p0 := src_nx (n := 5) h1
    cases spec_l13Counts_0 (spec_l15DrawTerm_a0 a s c) <;> simp only [cond_true, cond_false, p0, h1]
  have h3 : srcOk (nxA 30 (spec_l15DrawTerm_a1 a s c) c) (spec_l15DrawTerm_a5 a s c) c = true := src_nx h2
  refine ⟨?_, ?_, ?_⟩
  · simp [spec_l15DrawTerm_5, allT, h, h1, h2, h3, spec_l15DrawTerm_a11, one_le]
  · have p1 : ∀ x l, srcOk (pkA (nxA 30 (spec_l15DrawTerm_a1 a s c) c) (x :: l) c) (pkS (nxA 30 (spec_l15DrawTerm_a1 a s c) c) (spec_l15DrawTerm_a5 a s c) (x :: l) c) c = true := fun x l => src_pk h3
    simp only [spec_l15DrawTerm_3, spec_l15DrawTerm_4]
    cases spec_l15DrawTerm_a4 a s c <;> cases spec_l15DrawTerm_a6 a s c <;> simp only [cond_true, cond_false, p1, h3]
  · simp only [spec_l15DrawTerm_1, spec_l15DrawTerm_a9]
    cases spec_l15DrawTerm_a4 a s c <;> cases spec_l15DrawTerm_a6 a s c <;> cases spec_l15DrawTerm_a8 a s c <;> cases spec_l13Counts_0 (spec_l15DrawTerm_a0 a s c) <;> decide

theorem drawArgs_ok {a s : Int} {c : List Int} (k : Int) (h : srcOk a s c = true) : spec_l15DrawArgs_3 k a s c = true ∧ srcOk (spec_l15DrawArgs_0 k a c) (spec_l15DrawArgs_1 k a s c) c = true ∧
    (1 ≤ (spec_l15DrawArgs_2 k a s c).length ∧ (spec_l15DrawArgs_2 k a s c).length ≤ 2) := by
  have h1 := src_nx (n := 2) h
  refine ⟨?_, ?_, ?_⟩
  · simp [spec_l15DrawArgs_3, allT, h, h1, spec_l15DrawArgs_a0, spec_l15DrawArgs_a1]
  · simp only [spec_l15DrawArgs_0, spec_l15DrawArgs_1]
    have p0 := src_nx (n := 2) h1
    cases spec_l13Takes_0 k == 2 <;> simp only [cond_true, cond_false, p0, h1]
  · simp only [spec_l15DrawArgs_2, spec_l15DrawArgs_a0, spec_l15DrawArgs_a1]
    cases spec_l13Takes_0 k == 2 <;> simp

theorem step4_ok {l : List Int} (h : 1 ≤ l.length) : spec_l15Step_4 l = true := by
  have h0 : ltI 0 (l.length : Int) = true := ltI_t (by omega)
  have h1 : ltN 0 l.length = true := ltN_t (by omega)
  simp [spec_l15Step_4, spec_l15Step_a8, allT, h0, h1]
  by_cases hq : 1 < l.length
  · exact .inr (by omega)
  · exact .inl (by omega)

theorem l15_loop (c : List Int) (k : Int) (nm : ByteArray) (n : Int) (K : Nat) (hK : K ≤ 100) (x y z a s : Int) (h : srcOk a s c = true) :
    lp_spec_l15DrawState_l0.fin ((K : Int), k, nm, n, x, y, z, a, s, c) = true ∧ ∃ j r, lp_spec_l15DrawState_l0.res ((K : Int), k, nm, n, x, y, z, a, s, c) = (j, r) ∧ srcOk r.2.2.2.2.2.2.2.1 r.2.2.2.2.2.2.2.2.1 c = true := by
  refine lp_spec_l15DrawState_l0.inv (fun m x => (x.1 = (m : Int) ∧ m ≤ 100) ∧ srcOk x.2.2.2.2.2.2.2.1 x.2.2.2.2.2.2.2.2.1 c = true ∧ x.2.2.2.2.2.2.2.2.2 = c) (fun _ r => srcOk r.2.2.2.2.2.2.2.1 r.2.2.2.2.2.2.2.2.1 c = true)
    (fun m x hx => .inr ?_) (fun x hx => ?_) K _ (by omega) ⟨⟨rfl, hK⟩, h, rfl⟩
  · obtain ⟨y0, y1, y2, y3, y4, y5, y6, y7, y8, y9⟩ := x
    obtain ⟨⟨h0, hm⟩, h1, h2⟩ := hx
    simp only at h0 h1 h2
    subst h0 h2
    obtain ⟨q1, q2, q3⟩ := drawArgs_ok y1 h1
    have t1 : ltI 0 (((m + 1 : Nat) : Int)) = true := ltI_t (by omega)
    have t2 := step4_ok q3.1
    refine ⟨?_, ?_, ?_⟩
    rotate_left
    · simp only [lp_spec_l15DrawState_l0, lt_spec_l15DrawState_l0, LT.out, spec_l15DrawState_l0_0, spec_l15DrawState_l0_1, spec_l15DrawState_l0_2, t1, q1, t2, allT, cond_true]
      rfl
    · refine ⟨⟨?_, by omega⟩, q2, rfl⟩
      simp only [spec_l15DrawState_l0_3]; rw [wrap_i64 (by omega) (by omega)]; omega
  · obtain ⟨y0, y1, y2, y3, y4, y5, y6, y7, y8, y9⟩ := x
    obtain ⟨⟨h0, _⟩, h1, h2⟩ := hx
    simp only at h0 h1 h2
    subst h0 h2
    exact ⟨0, by simp [lp_spec_l15DrawState_l0, lt_spec_l15DrawState_l0, LT.out, spec_l15DrawState_l0_0], h1⟩

theorem drawState_ok {a s : Int} {c : List Int} (k : Int) (nm : ByteArray) (n : Int) (hs : nm.size ≤ 1) (h : srcOk a s c = true) : spec_l15DrawState_5 k nm n a s c = true ∧ srcOk (spec_l15DrawState_3 k nm n a s c) (spec_l15DrawState_4 k nm n a s c) c = true := by
  have s1 := src_nx (n := 9) h
  have n1 := nx_in (n := 9) h (by omega)
  obtain ⟨f1, j, r, f2, f3⟩ := l15_loop c k nm n (nxV 9 a s c).toNat (by omega) 0 0 0 _ _ s1
  have e : (((nxV 9 a s c).toNat : Nat) : Int) = nxV 9 a s c := by omega
  rw [e] at f1 f2
  have hx : (bif blockB k nm n then c else c) = c := by cases blockB k nm n <;> rfl
  have e0 : spec_l15DrawState_a0 k nm n a s c = (nxV 9 a s c, k, nm, n, 0, 0, 0, nxA 9 a c, nxS 9 a s c, c) := rfl
  have s2 : srcOk (spec_l15DrawState_a5 k nm n a s c) (spec_l15DrawState_a6 k nm n a s c) c = true := by
    simp only [spec_l15DrawState_a5, spec_l15DrawState_a6, spec_l15DrawState_a4, spec_l15DrawState_a3, spec_l15DrawState_a2, spec_l15DrawState_a1, e0, f2]
    cases blockB k nm n <;> simp only [cond_true, cond_false, h, f3]
  have s3 : srcOk (spec_l15DrawState_a9 k nm n a s c) (spec_l15DrawState_a10 k nm n a s c) c = true := by
    simp only [spec_l15DrawState_a9, spec_l15DrawState_a10, hx]; exact src_nx s2
  have p3 : ∀ x l, srcOk (pkA (spec_l15DrawState_a9 k nm n a s c) (x :: l) c) (pkS (spec_l15DrawState_a9 k nm n a s c) (spec_l15DrawState_a10 k nm n a s c) (x :: l) c) c = true := fun x l => src_pk s3
  have l1 : leN nm.size 9223372036854775807 = true := leN_t (by omega)
  refine ⟨?_, ?_⟩
  · simp [spec_l15DrawState_5, allT, h, l1, e0, f1, hx, s2, spec_l15DrawState_a20, spec_l15DrawState_a21, s3, spec_l15DrawState_a11, one_le]
  · simp only [spec_l15DrawState_3, spec_l15DrawState_4, spec_l15DrawState_a18, spec_l15DrawState_a19, spec_l15DrawState_a11, hx]
    cases spec_l15DrawState_a8 k nm n a s c <;> cases spec_l15DrawState_a12 k nm n a s c <;> cases spec_l15DrawState_a14 k nm n a s c <;> simp only [cond_true, cond_false, p3, s3]

theorem drawStep_ok {c : List Int} (h : srcOk 0 0 c = true) : spec_DrawStepBlock_7 c = true ∧ (spec_DrawStepBlock_1 c).size ≤ 1 ∧ (spec_DrawStepBlock_6 c).length ≤ 3 := by
  have h0 := (from_ok c h).2
  obtain ⟨t1, t2, t3⟩ := drawTerm_ok h0
  obtain ⟨u1, u2⟩ := drawState_ok (spec_l15DrawTerm_0 0 (frS c) c) (spec_l15DrawTerm_1 0 (frS c) c) (spec_l15DrawTerm_2 0 (frS c) c) t3 t2
  obtain ⟨v1, v2, v3⟩ := drawArgs_ok (spec_l15DrawTerm_0 0 (frS c) c) u2
  have w2 : srcOk (spec_DrawStepBlock_a1 c) (spec_DrawStepBlock_a3 c) c = true := v2
  have w3 := src_nx (n := 24) w2
  have x1 : spec_l15DrawArgs_3 (spec_l15DrawTerm_0 0 (frS c) c) (spec_DrawStepBlock_a0 c) (spec_DrawStepBlock_a2 c) c = true := v1
  have x3 : 1 ≤ (spec_DrawStepBlock_a8 c).length ∧ (spec_DrawStepBlock_a8 c).length ≤ 2 := v3
  have y1 : leN ((spec_DrawStepBlock_a8 c).length + 1) 9223372036854775807 = true := leN_t (by omega)
  have y2 : leN (((spec_DrawStepBlock_a8 c).length + 1) * 8) 140737488355328 = true := leN_t (by omega)
  have y3 : ltI 0 ((spec_DrawStepBlock_a8 c).length : Int) = true := ltI_t (by omega)
  have y4 : ltN 0 (spec_DrawStepBlock_a8 c).length = true := ltN_t (by omega)
  refine ⟨?_, ?_, ?_⟩
  · simp only [spec_DrawStepBlock_7, allT, h, t1, u1, x1, w2, w3, List.length_singleton, y1, y2, y3, y4, one_le, leI_self, Int.toNat_zero, Bool.or_true, Bool.and_self, cond_true]
  · simp only [spec_DrawStepBlock_1]; cases spec_DrawStepBlock_a4 c <;> exact t3
  · simp only [spec_DrawStepBlock_6]
    cases spec_DrawStepBlock_a4 c <;> cases spec_DrawStepBlock_a9 c <;> simp <;> omega

def N_spec_DrawStepBlock : List SV → List Entry → Option Out
  | [.one ⟨false, [.ref 0]⟩], [.row false 5 (.int .u8) x0] => some ⟨(.tup [⟨true, [(.val (.int IntKind.i64 (spec_DrawStepBlock_0 x0))), (.val (.string (spec_DrawStepBlock_1 x0))), (.val (.int IntKind.i64 (spec_DrawStepBlock_2 x0)))]⟩, ⟨true, [(.val (.int IntKind.i64 (spec_DrawStepBlock_3 x0))), (.val (.int IntKind.i64 (spec_DrawStepBlock_4 x0))), (.val (.int IntKind.i64 (spec_DrawStepBlock_5 x0)))]⟩, ⟨false, [(.ref 1)]⟩]), [(.row false 5 (CTy.int IntKind.u8) x0)], [(.row true 2 (CTy.int IntKind.i64) (spec_DrawStepBlock_6 x0))], [srcOk 0 0 x0]⟩
  | _, _ => none

def n_spec_DrawStepBlock : PF Tryd.prog := PF.alt p_spec_DrawStepBlock N_spec_DrawStepBlock (by
  intro args es o h hnd; unfold N_spec_DrawStepBlock at h; split at h
  · rename_i x0
    cases h
    have hnd := nd_fst hnd
    have hh := (drawStep_ok hnd).1
    have en := hh
    exact altok rfl (nd_one en) rfl rfl rfl
  · cases h)

end Go.SX

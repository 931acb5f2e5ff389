/- What is drawn: traffics, faults, events. -/
import Derived.Test.YtjncnnpdaeociaaRu
namespace Go.SX
open Go.Proofs
set_option maxRecDepth 100000

/-- A loop of few rounds, by what stays true. -/
theorem Lp.inv {X : Type} (p : Lp X) (I : Nat → X → Prop) (Q : Nat → X → Prop)
    (hs : ∀ k x, I (k + 1) x → (∃ j, (p.lt x).out = some (.inl j) ∧ Q j x) ∨ ∃ y, (p.lt x).out = some (.inr y) ∧ I k y)
    (he : ∀ x, I 0 x → ∃ j, (p.lt x).out = some (.inl j) ∧ Q j x) (N : Nat) (x : X) (hN : N ≤ 999) (h : I N x) :
    p.fin x = true ∧ ∃ j y, p.res x = (j, y) ∧ Q j y := by
  have key : ∀ (k : Nat) (x : X), I k x → ∃ j y, runL p.lt (k + 1) x = some (j, y) ∧ Q j y := by
    intro k
    induction k with
    | zero =>
      intro x h
      obtain ⟨j, h1, h2⟩ := he x h
      exact ⟨j, x, runL_end _ h1, h2⟩
    | succ k ih =>
      intro x h
      rcases hs k x h with ⟨j, h1, h2⟩ | ⟨y, h1, h2⟩
      · exact ⟨j, x, runL_end _ h1, h2⟩
      · obtain ⟨j, z, h3, h4⟩ := ih y h2
        exact ⟨j, z, by rw [runL_next _ h1]; exact h3, h4⟩
  obtain ⟨j, y, h1, h2⟩ := key N x h
  obtain ⟨r1, r2⟩ := p.run h1 (le_big (by omega))
  exact ⟨r1, j, y, r2, h2⟩

theorem src_nx {n a s : Int} {c : List Int} (h : srcOk a s c = true) : srcOk (nxA n a c) (nxS n a s c) c = true := (next_ok n h).2.1
theorem src_pk {a s x : Int} {l c : List Int} (h : srcOk a s c = true) : srcOk (pkA a (x :: l) c) (pkS a s (x :: l) c) c = true := (pick_ok (l := x :: l) (by rw [h]; rfl)).2.1
theorem nx_in {n a s : Int} {c : List Int} (h : srcOk a s c = true) (hn : 1 ≤ n) : 0 ≤ nxV n a s c ∧ nxV n a s c < n := ⟨(next_ok n h).2.2.1, (next_ok n h).2.2.2 hn⟩
theorem one_le {C : Type} (x : C) (l : List C) : leN 1 (x :: l).length = true := leN_t (by simp)

/-! ### Traffics -/

theorem l10_loop (c : List Int) (bl : Int) (hbl : bl ≠ 0) (K : Nat) (hK : K ≤ 100) (p a s : Int) (h : srcOk a s c = true) :
    lp_spec_l10Draw_l0.fin ((K : Int), p, bl, a, s, [], c) = true ∧ ∃ j y, lp_spec_l10Draw_l0.res ((K : Int), p, bl, a, s, [], c) = (j, y) ∧ srcOk y.2.2.2.1 y.2.2.2.2.1 c = true ∧ y.2.2.2.2.2.1.length = K := by
  refine lp_spec_l10Draw_l0.inv (fun k x => x.1 = (k : Int) ∧ x.2.2.1 = bl ∧ srcOk x.2.2.2.1 x.2.2.2.2.1 c = true ∧ x.2.2.2.2.2.1.length + k = K ∧ x.2.2.2.2.2.2 = c) (fun _ y => srcOk y.2.2.2.1 y.2.2.2.2.1 c = true ∧ y.2.2.2.2.2.1.length = K)
    (fun k x hx => .inr ?_) (fun x hx => ?_) K _ (by omega) ⟨rfl, rfl, h, by simp, rfl⟩
  · obtain ⟨y0, y1, y2, y3, y4, y5, y6⟩ := x
    obtain ⟨h0, h1, h2, h3, h4⟩ := hx
    simp only at h0 h1 h2 h3 h4
    subst h0 h1 h4
    have t1 : ltI 0 (((k + 1 : Nat) : Int)) = true := ltI_t (by omega)
    have t2 : neI y2 0 = true := neI_t hbl
    have t3 : neI 2 0 = true := by decide
    have t4 := src_pk (x := 0) (l := [1, 1, 2]) h2
    have t5 : leN (y5.length + 1) 9223372036854775807 = true := leN_t (by omega)
    have t6 : leN ((y5.length + 1) * 8) 140737488355328 = true := leN_t (by omega)
    have t7 := one_le (0 : Int) [1, 1, 2]
    refine ⟨?_, ?_, ?_⟩
    rotate_left
    · simp only [lp_spec_l10Draw_l0, lt_spec_l10Draw_l0, LT.out, allT, spec_l10Draw_l0_0, spec_l10Draw_l0_1, spec_l10Draw_l0_2, spec_l10Draw_l0_3, spec_l10Draw_l0_4, spec_l10Draw_l0_5, spec_l10Draw_l0_6, spec_l10Draw_l0_a1, spec_l10Draw_l0_a2, spec_l10Draw_l0_a3, List.length_singleton, t1, t2, t3, t4, t5, t6, t7, h2, cond_true, Bool.and_self]
      rfl
    · have s9 : srcOk (spec_l10Draw_l0_9 y3 y6) (spec_l10Draw_l0_10 y3 y4 y6) y6 = true := src_nx (n := 3) t4
      refine ⟨?_, rfl, s9, ?_, rfl⟩
      · simp only [spec_l10Draw_l0_7]; rw [wrap_i64 (by omega) (by omega)]; omega
      · simp only [spec_l10Draw_l0_11, spec_l10Draw_l0_a1, List.length_append, List.length_singleton]; omega
  · obtain ⟨y0, y1, y2, y3, y4, y5, y6⟩ := x
    obtain ⟨h0, h1, h2, h3, h4⟩ := hx
    simp only at h0 h1 h2 h3 h4
    subst h0 h1 h4
    exact ⟨0, by simp [lp_spec_l10Draw_l0, lt_spec_l10Draw_l0, LT.out, spec_l10Draw_l0_0], h2, by simpa using h3⟩

theorem l10Draw_ok (a s : Int) (c : List Int) (h : srcOk a s c = true) :
    spec_l10Draw_4 a s c = true ∧ srcOk (spec_l10Draw_1 a s c) (spec_l10Draw_2 a s c) c = true ∧ (spec_l10Draw_3 a s c).length ≤ 9 := by
  have n1 := nx_in (n := 5) h (by omega)
  have s1 := src_nx (n := 5) h
  have a0 : spec_l10Draw_a0 a s c = 2 + nxV 5 a s c := by simp only [spec_l10Draw_a0]; rw [wrap_i64 (by omega) (by omega)]
  have s2 := src_nx (n := spec_l10Draw_a0 a s c) s1
  have a1 : 2 ≤ spec_l10Draw_a1 a s c ∧ spec_l10Draw_a1 a s c ≤ 4 := by
    simp only [spec_l10Draw_a1, ifLt_eq]
    cases hl : ltI (spec_l10Draw_a0 a s c) 4 with
    | true => have := ltI_iff.1 hl; simp only [cond_true]; omega
    | false => simp
  have n2 := nx_in (n := spec_l10Draw_a1 a s c) s2 (by omega)
  have s3 := src_nx (n := spec_l10Draw_a1 a s c) s2
  obtain ⟨r1, j, y, r2, r3, r4⟩ := l10_loop c (spec_l10Draw_a0 a s c) (by omega) (1 + nxV (spec_l10Draw_a1 a s c) (spec_l10Draw_a2 a s c) (spec_l10Draw_a3 a s c) c).toNat
    (by simp only [spec_l10Draw_a2, spec_l10Draw_a3]; omega) (nxV (spec_l10Draw_a0 a s c) (nxA 5 a c) (nxS 5 a s c) c) _ _ s3
  have e4 : spec_l10Draw_a4 a s c = (((1 + nxV (spec_l10Draw_a1 a s c) (spec_l10Draw_a2 a s c) (spec_l10Draw_a3 a s c) c).toNat : Int), nxV (spec_l10Draw_a0 a s c) (nxA 5 a c) (nxS 5 a s c) c, spec_l10Draw_a0 a s c,
      nxA (spec_l10Draw_a1 a s c) (spec_l10Draw_a2 a s c) c, nxS (spec_l10Draw_a1 a s c) (spec_l10Draw_a2 a s c) (spec_l10Draw_a3 a s c) c, [], c) := by
    simp only [spec_l10Draw_a4, spec_l10Draw_a2, spec_l10Draw_a3]
    rw [wrap_i64 (by omega) (by omega)]
    rw [show (((1 + nxV (spec_l10Draw_a1 a s c) (nxA (spec_l10Draw_a0 a s c) (nxA 5 a c) c) (nxS (spec_l10Draw_a0 a s c) (nxA 5 a c) (nxS 5 a s c) c) c).toNat : Nat) : Int) = 1 + nxV (spec_l10Draw_a1 a s c) (nxA (spec_l10Draw_a0 a s c) (nxA 5 a c) c) (nxS (spec_l10Draw_a0 a s c) (nxA 5 a c) (nxS 5 a s c) c) c by omega]
  have f1 : Lp.fin lp_spec_l10Draw_l0 (spec_l10Draw_a4 a s c) = true := by rw [e4]; exact r1
  have f2 : Lp.res lp_spec_l10Draw_l0 (spec_l10Draw_a4 a s c) = (j, y) := by rw [e4]; exact r2
  have g6 : spec_l10Draw_a6 a s c = y.2.2.2.1 := by simp only [spec_l10Draw_a6, spec_l10Draw_a5, f2]
  have g7 : Prod.fst (spec_l10Draw_a7 a s c) = y.2.2.2.2.1 := by simp only [spec_l10Draw_a7, spec_l10Draw_a5, f2]
  have g16 : spec_l10Draw_a16 a s c = y.2.2.2.2.2.1 := by simp only [spec_l10Draw_a16, spec_l10Draw_a7, spec_l10Draw_a5, f2]
  have s4 : srcOk (spec_l10Draw_a6 a s c) (Prod.fst (spec_l10Draw_a7 a s c)) c = true := by rw [g6, g7]; exact r3
  have s5 := src_nx (n := 40) s4
  have n5 := nx_in (n := 2) s5 (by omega)
  have hK : 1 ≤ (spec_l10Draw_a16 a s c).length ∧ (spec_l10Draw_a16 a s c).length ≤ 4 := by
    rw [g16, r4]; simp only [spec_l10Draw_a2, spec_l10Draw_a3]; omega
  have a17 : 4 ≤ spec_l10Draw_a17 a s c ∧ spec_l10Draw_a17 a s c ≤ 5 := by
    simp only [spec_l10Draw_a17, spec_l10Draw_a10]; rw [wrap_i64 (by omega) (by omega)]; omega
  have t1 : ltI 0 (((spec_l10Draw_a16 a s c).length : Nat) : Int) = true := ltI_t (by omega)
  have t2 : ltN 0 (spec_l10Draw_a16 a s c).length = true := ltN_t (by omega)
  have t3 : leI 0 (spec_l10Draw_a17 a s c) = true := leI_t (by omega)
  have t4 : leI ((8 : Nat) * spec_l10Draw_a17 a s c) 281474976710656 = true := leI_t (by omega)
  have t5 : leI (spec_l10Draw_a17 a s c) 9223372036854775807 = true := leI_t (by omega)
  have a18 : spec_l10Draw_a18 a s c = true := s5
  have s2' : srcOk (spec_l10Draw_a2 a s c) (spec_l10Draw_a3 a s c) c = true := s2
  refine ⟨?_, ?_, ?_⟩
  · simp only [spec_l10Draw_4, allT, h, s1, s2', f1, s4, a18, spec_l10Draw_a15, one_le, t1, t2, t3, t4, t5, leI_self, Int.toNat_zero, Bool.or_true, Bool.and_self, cond_true]
  · have s5' : srcOk (nxA 40 (spec_l10Draw_a6 a s c) c) (spec_l10Draw_a10 a s c) c = true := s5
    have hnx : ∀ n, srcOk (nxA n (nxA 40 (spec_l10Draw_a6 a s c) c) c) (nxS n (nxA 40 (spec_l10Draw_a6 a s c) c) (spec_l10Draw_a10 a s c) c) c = true := fun n => src_nx s5'
    have hpk : ∀ x l, srcOk (pkA (nxA 40 (spec_l10Draw_a6 a s c) c) (x :: l) c) (pkS (nxA 40 (spec_l10Draw_a6 a s c) c) (spec_l10Draw_a10 a s c) (x :: l) c) c = true := fun x l => src_pk s5'
    simp only [spec_l10Draw_1, spec_l10Draw_2, spec_l10Draw_a15]
    cases spec_l10Draw_a9 a s c <;> cases spec_l10Draw_a11 a s c <;> cases spec_l10Draw_a12 a s c <;> cases spec_l10Draw_a13 a s c <;> simp only [cond_true, cond_false, s5', hnx, hpk]
  · simp only [spec_l10Draw_3]
    cases spec_l10Draw_a9 a s c <;> cases spec_l10Draw_a11 a s c <;> cases spec_l10Draw_a12 a s c <;> cases spec_l10Draw_a13 a s c <;> simp only [cond_true, cond_false, List.length_set, List.length_replicate, List.length_nil] <;> omega

def N_spec_l10Draw : List SV → List Entry → Option Out
  | [.one ⟨false, [.ptr 0 0]⟩], [.box 139 [.ref 1, .val (.int .i64 x0), .val (.int .i64 x1)], .row false 5 (.int .u8) x2] => some ⟨(.one ⟨true, [(.val (.int IntKind.i64 (spec_l10Draw_0 x0 x1 x2))), (.ref 2)]⟩), [(.box 139 [(.ref 1), (.val (.int IntKind.i64 (spec_l10Draw_1 x0 x1 x2))), (.val (.int IntKind.i64 (spec_l10Draw_2 x0 x1 x2)))]), (.row false 5 (CTy.int IntKind.u8) x2)], [(.row true 2 (CTy.int IntKind.i64) (spec_l10Draw_3 x0 x1 x2))], [srcOk x0 x1 x2]⟩
  | _, _ => none

def n_spec_l10Draw : PF Try.prog := PF.alt p_spec_l10Draw N_spec_l10Draw (by
  intro args es o h hnd; unfold N_spec_l10Draw at h; split at h
  · rename_i x0 x1 x2
    cases h
    have hnd := nd_fst hnd
    have hh := (l10Draw_ok x0 x1 x2 hnd).1
    have en := hh
    exact altok rfl (nd_one en) rfl rfl rfl
  · cases h)

/-! ### Faults -/

/-! ### Events -/

theorem drawEvent_ok (n a s : Int) (ps c : List Int) (h : srcOk a s c = true) :
    spec_l25DrawEvent_5 n a s ps c = true ∧ srcOk (spec_l25DrawEvent_3 n a s ps c) (spec_l25DrawEvent_4 n a s ps c) c = true := by
  have s1 := src_nx (n := (ps.length : Int)) h
  have s2 : srcOk (spec_l25DrawEvent_a1 a ps c) (spec_l25DrawEvent_a3 a s ps c) c = true := src_nx s1
  have s3 := src_nx (n := n) s2
  have s4 := src_nx (n := 3) s3
  have s5 : srcOk (spec_l25DrawEvent_a2 n a s ps c) (spec_l25DrawEvent_a4 n a s ps c) c = true := by
    simp only [spec_l25DrawEvent_a2, spec_l25DrawEvent_a4]
    cases spec_l25DrawEvent_a0 a s ps c with
    | true => exact s4
    | false => exact s2
  have s6 : srcOk (spec_l25DrawEvent_a7 n a s ps c) (spec_l25DrawEvent_a8 n a s ps c) c = true := src_nx s5
  have s7 : spec_l25DrawEvent_a15 n a s ps c = true := s6
  refine ⟨?_, ?_⟩
  · simp only [spec_l25DrawEvent_5, allT, h, s1, s2, s3, s5, s7, spec_l25DrawEvent_a13, one_le, Bool.or_true, Bool.and_self, cond_true]
  · have hpk : ∀ x l, srcOk (pkA (spec_l25DrawEvent_a7 n a s ps c) (x :: l) c) (pkS (spec_l25DrawEvent_a7 n a s ps c) (spec_l25DrawEvent_a8 n a s ps c) (x :: l) c) c = true := fun x l => src_pk s6
    simp only [spec_l25DrawEvent_3, spec_l25DrawEvent_4, spec_l25DrawEvent_a13]
    cases spec_l25DrawEvent_a6 n a s ps c <;> cases spec_l25DrawEvent_a9 n a s ps c <;> cases spec_l25DrawEvent_a11 n a s ps c <;> simp only [cond_true, cond_false, s6, hpk]

def N_spec_l25DrawEvent : List SV → List Entry → Option Out
  | [.one ⟨false, [.ptr 0 0]⟩, .one ⟨true, [.val (.int .i64 x0), .ref 1]⟩], [.box 139 [.ref 2, .val (.int .i64 x1), .val (.int .i64 x2)], .row false 2 (.int .i64) x3, .row false 5 (.int .u8) x4] => some ⟨(.one ⟨true, [(.val (.int IntKind.i64 (spec_l25DrawEvent_0 x0 x1 x2 x3 x4))), (.val (.int IntKind.i64 (spec_l25DrawEvent_1 x0 x1 x2 x3 x4))), (.val (.int IntKind.i64 (spec_l25DrawEvent_2 x0 x1 x2 x3 x4)))]⟩), [(.box 139 [(.ref 2), (.val (.int IntKind.i64 (spec_l25DrawEvent_3 x0 x1 x2 x3 x4))), (.val (.int IntKind.i64 (spec_l25DrawEvent_4 x0 x1 x2 x3 x4)))]), (.row false 2 (CTy.int IntKind.i64) x3), (.row false 5 (CTy.int IntKind.u8) x4)], [], [srcOk x1 x2 x4]⟩
  | _, _ => none

def n_spec_l25DrawEvent : PF Try.prog := PF.alt p_spec_l25DrawEvent N_spec_l25DrawEvent (by
  intro args es o h hnd; unfold N_spec_l25DrawEvent at h; split at h
  · rename_i x0 x1 x2 x3 x4
    cases h
    have hnd := nd_fst hnd
    have hh := (drawEvent_ok x0 x1 x2 x3 x4 hnd).1
    have en := hh
    exact altok rfl (nd_one en) rfl rfl rfl
  · cases h)

end Go.SX

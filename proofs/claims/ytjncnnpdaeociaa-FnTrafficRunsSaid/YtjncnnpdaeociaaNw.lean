/- What is drawn: runs of moves, controlled runs, replays. -/
import Derived.Test.YtjncnnpdaeociaaRw
import Derived.Test.YtjncnnpdaeociaaLg
namespace Go.SX
open Go.Proofs
set_option maxRecDepth 100000

/-! ### Runs of moves -/

theorem drm_src {y1 y2 y4 : Int} {c y7 y8 : List Int} (h : srcOk y1 y2 c = true) : srcOk (spec_DrawRunMoves_l0_a1 y1 y2 y4 c y7 y8) (spec_DrawRunMoves_l0_a2 y1 y2 y4 c y7 y8) c = true := by
  have sD := (drawTrain_ok (ps := y7) h).2
  simp only [spec_DrawRunMoves_l0_a1, spec_DrawRunMoves_l0_a2]
  cases isSf y4 y8 with
  | true => exact src_nx sD
  | false => exact sD

theorem drm_loop (c ps : List Int) (n m : Int) (K : Nat) (hK : K ≤ 100) (a s : Int) (h : srcOk a s c = true) :
    lp_spec_DrawRunMoves_l0.fin ((K : Int), a, s, m, n, [], c, ps, ps) = true ∧ ∃ j y, lp_spec_DrawRunMoves_l0.res ((K : Int), a, s, m, n, [], c, ps, ps) = (j, y) ∧ srcOk y.2.1 y.2.2.1 c = true ∧ y.2.2.2.2.2.1.length ≤ K := by
  refine lp_spec_DrawRunMoves_l0.inv (fun k x => x.1 = (k : Int) ∧ srcOk x.2.1 x.2.2.1 c = true ∧ x.2.2.2.2.2.1.length + k ≤ K ∧ x.2.2.2.2.2.2.1 = c) (fun _ y => srcOk y.2.1 y.2.2.1 c = true ∧ y.2.2.2.2.2.1.length ≤ K)
    (fun k x hx => ?_) (fun x hx => ?_) K _ (by omega) ⟨rfl, h, by simp, rfl⟩
  · obtain ⟨y0, y1, y2, y3, y4, y5, y6, y7, y8⟩ := x
    obtain ⟨h0, h1, h2, h3⟩ := hx
    simp only at h0 h1 h2 h3
    rw [h3]
    have t1 : ltI 0 y0 = true := ltI_t (by omega)
    have sD := (drawTrain_ok (ps := y7) h1).2
    have sA : srcOk (spec_DrawRunMoves_l0_a1 y1 y2 y4 c y7 y8) (spec_DrawRunMoves_l0_a2 y1 y2 y4 c y7 y8) c = true := drm_src h1
    have hw : IntKind.i64.wrap (y0 - 1) = y0 - 1 := wrap_i64 (by omega) (by omega)
    have t5 : leN (y5.length + 1) 9223372036854775807 = true := leN_t (by omega)
    have t6 : leN ((y5.length + 1) * 8) 140737488355328 = true := leN_t (by omega)
    cases hC : spec_DrawRunMoves_l0_a0 y1 y2 y4 c y7 y8 with
    | false =>
      right
      refine ⟨?_, ?_, ?_⟩
      rotate_left
      · simp only [lp_spec_DrawRunMoves_l0, lt_spec_DrawRunMoves_l0, LT.out, allT, spec_DrawRunMoves_l0_0, spec_DrawRunMoves_l0_1, spec_DrawRunMoves_l0_2, spec_DrawRunMoves_l0_3, spec_DrawRunMoves_l0_4, spec_DrawRunMoves_l0_20, spec_DrawRunMoves_l0_21, List.length_singleton, hC, t1, t5, t6, h1, sD, Bool.not_false, Bool.or_true, Bool.true_or, cond_true, cond_false]
        rfl
      · refine ⟨?_, sA, ?_, rfl⟩
        · simp only [spec_DrawRunMoves_l0_15, hw]; omega
        · simp only [spec_DrawRunMoves_l0_22, List.length_append, List.length_singleton]; omega
    | true =>
      have hsf : isSf y4 y8 = true := by
        simp only [spec_DrawRunMoves_l0_a0] at hC
        cases hq : isSf y4 y8 with
        | true => rfl
        | false => rw [hq] at hC; cases hC
      have hT := (isSf_iff.1 hsf).1
      obtain ⟨e1, e2⟩ := allowed_ok y4 y8 hT
      cases h5 : spec_DrawRunMoves_l0_5 y4 y8 with
      | true =>
        left
        refine ⟨0, ?_, h1, by simp only; omega⟩
        simp only [lp_spec_DrawRunMoves_l0, lt_spec_DrawRunMoves_l0, LT.out, allT, spec_DrawRunMoves_l0_0, spec_DrawRunMoves_l0_1, spec_DrawRunMoves_l0_2, spec_DrawRunMoves_l0_3, spec_DrawRunMoves_l0_4, hC, h5, t1, h1, sD, e2, Bool.or_true, cond_true]
      | false =>
        right
        have hlen : 1 ≤ (allowL y4 y8).length := by
          simp only [spec_DrawRunMoves_l0_5, e1] at h5
          have : ((allowL y4 y8).length : Int) ≠ 0 := by simpa using h5
          omega
        have n1 := nx_in (n := ((allowL y4 y8).length : Int)) sA (by omega)
        have a3 : 0 ≤ spec_DrawRunMoves_l0_a3 y1 y2 y4 c y7 y8 ∧ spec_DrawRunMoves_l0_a3 y1 y2 y4 c y7 y8 < ((allowL y4 y8).length : Int) := by
          simp only [spec_DrawRunMoves_l0_a3, e1]; exact n1
        have u1 : leI 0 (spec_DrawRunMoves_l0_a3 y1 y2 y4 c y7 y8) = true := leI_t a3.1
        have u2 : ltI (spec_DrawRunMoves_l0_a3 y1 y2 y4 c y7 y8) ((allowL y4 y8).length : Int) = true := ltI_t a3.2
        have hlt : (spec_DrawRunMoves_l0_a3 y1 y2 y4 c y7 y8).toNat < (allowL y4 y8).length := by omega
        have u3 : ltN (spec_DrawRunMoves_l0_a3 y1 y2 y4 c y7 y8).toNat (allowL y4 y8).length = true := ltN_t hlt
        have hm : mvOk y4 y8 (spec_DrawRunMoves_l0_a4 y1 y2 y4 c y7 y8) = true := by
          refine mvOk_iff.2 ⟨hT, ?_⟩
          simp only [spec_DrawRunMoves_l0_a4, e1, List.getElem?_eq_getElem hlt, Option.getD_some]
          exact (allow_mem (List.getElem_mem hlt)).1
        have sB : srcOk (spec_DrawRunMoves_l0_16 y1 y2 y4 c y7 y8) (spec_DrawRunMoves_l0_17 y1 y2 y4 c y7 y8) c = true := src_nx sA
        refine ⟨?_, ?_, ?_⟩
        rotate_left
        · simp only [lp_spec_DrawRunMoves_l0, lt_spec_DrawRunMoves_l0, LT.out, allT, spec_DrawRunMoves_l0_0, spec_DrawRunMoves_l0_1, spec_DrawRunMoves_l0_2, spec_DrawRunMoves_l0_3, spec_DrawRunMoves_l0_4, spec_DrawRunMoves_l0_8, spec_DrawRunMoves_l0_9, spec_DrawRunMoves_l0_10, spec_DrawRunMoves_l0_11, spec_DrawRunMoves_l0_12, spec_DrawRunMoves_l0_13, spec_DrawRunMoves_l0_14, List.length_singleton, hC, h5, t1, t5, t6, h1, sD, sA, e1, e2, u1, u2, u3, hm, Bool.or_true, cond_true, cond_false]
          rfl
        · refine ⟨?_, sB, ?_, rfl⟩
          · simp only [spec_DrawRunMoves_l0_15, hw]; omega
          · simp only [spec_DrawRunMoves_l0_18, List.length_append, List.length_singleton]; omega
  · obtain ⟨y0, y1, y2, y3, y4, y5, y6, y7, y8⟩ := x
    obtain ⟨h0, h1, h2, h3⟩ := hx
    simp only at h0 h1 h2 h3
    have t1 : ltI 0 y0 = false := ltI_f (by omega)
    exact ⟨1, by simp [lp_spec_DrawRunMoves_l0, lt_spec_DrawRunMoves_l0, LT.out, spec_DrawRunMoves_l0_0, t1], h1, by simp only; omega⟩

theorem drawRunMoves_ok (c : List Int) (h : srcOk 0 0 c = true) : spec_DrawRunMoves_3 c = true ∧ (spec_DrawRunMoves_1 c).length ≤ 9 ∧ (spec_DrawRunMoves_2 c).length ≤ 202 := by
  have s1 := (from_ok c h).2
  obtain ⟨d1, d2, d3⟩ := l10Draw_ok 0 (frS c) c s1
  have n1 := nx_in (n := 14) d2 (by omega)
  have s2 := src_nx (n := 14) d2
  obtain ⟨r1, j, y, r2, r3, r4⟩ := drm_loop c (spec_l10Draw_3 0 (frS c) c) (spec_l10Draw_0 0 (frS c) c) (spec_l10Draw_0 0 (frS c) c) (nxV 14 (spec_l10Draw_1 0 (frS c) c) (spec_l10Draw_2 0 (frS c) c) c).toNat (by omega) _ _ s2
  have e0 : spec_DrawRunMoves_a0 c = (((nxV 14 (spec_l10Draw_1 0 (frS c) c) (spec_l10Draw_2 0 (frS c) c) c).toNat : Int), nxA 14 (spec_l10Draw_1 0 (frS c) c) c, nxS 14 (spec_l10Draw_1 0 (frS c) c) (spec_l10Draw_2 0 (frS c) c) c,
      spec_l10Draw_0 0 (frS c) c, spec_l10Draw_0 0 (frS c) c, [], c, spec_l10Draw_3 0 (frS c) c, spec_l10Draw_3 0 (frS c) c) := by
    rw [spec_DrawRunMoves_a0, show (((nxV 14 (spec_l10Draw_1 0 (frS c) c) (spec_l10Draw_2 0 (frS c) c) c).toNat : Nat) : Int) = nxV 14 (spec_l10Draw_1 0 (frS c) c) (spec_l10Draw_2 0 (frS c) c) c by omega]
  have f1 : Lp.fin lp_spec_DrawRunMoves_l0 (spec_DrawRunMoves_a0 c) = true := by rw [e0]; exact r1
  have f2 : Lp.res lp_spec_DrawRunMoves_l0 (spec_DrawRunMoves_a0 c) = (j, y) := by rw [e0]; exact r2
  have g3 : spec_DrawRunMoves_a3 c = y.2.1 := by simp only [spec_DrawRunMoves_a3, spec_DrawRunMoves_a2, f2]
  have g5 : spec_DrawRunMoves_a5 c = y.2.2.1 := by simp only [spec_DrawRunMoves_a5, spec_DrawRunMoves_a4, spec_DrawRunMoves_a2, f2]
  have g13 : spec_DrawRunMoves_a13 c = y.2.2.2.2.2.1 := by simp only [spec_DrawRunMoves_a13, spec_DrawRunMoves_a6, spec_DrawRunMoves_a4, spec_DrawRunMoves_a2, f2]
  have s3 : srcOk (spec_DrawRunMoves_a3 c) (spec_DrawRunMoves_a5 c) c = true := by rw [g3, g5]; exact r3
  have s4 : srcOk (spec_DrawRunMoves_a8 c) (spec_DrawRunMoves_a9 c) c = true := drm_src s3
  have s5 := src_nx (n := 60) s3
  have s6 := src_nx (n := 60) s4
  have n5 := nx_in (n := 2) s5 (by omega)
  have n6 := nx_in (n := 2) s6 (by omega)
  have a12 : 200 ≤ spec_DrawRunMoves_a12 c ∧ spec_DrawRunMoves_a12 c ≤ 201 := by
    simp only [spec_DrawRunMoves_a12]; rw [wrap_i64 (by omega) (by omega)]; omega
  have a14 : 200 ≤ spec_DrawRunMoves_a14 c ∧ spec_DrawRunMoves_a14 c ≤ 201 := by
    simp only [spec_DrawRunMoves_a14]; rw [wrap_i64 (by omega) (by omega)]; omega
  have u1 : leI 0 (spec_DrawRunMoves_a12 c) = true := leI_t (by omega)
  have u2 : leI ((8 : Nat) * spec_DrawRunMoves_a12 c) 281474976710656 = true := leI_t (by omega)
  have u3 : leI (spec_DrawRunMoves_a12 c) 9223372036854775807 = true := leI_t (by omega)
  have v1 : leI 0 (spec_DrawRunMoves_a14 c) = true := leI_t (by omega)
  have v2 : leI ((8 : Nat) * spec_DrawRunMoves_a14 c) 281474976710656 = true := leI_t (by omega)
  have v3 : leI (spec_DrawRunMoves_a14 c) 9223372036854775807 = true := leI_t (by omega)
  refine ⟨?_, ?_, ?_⟩
  · simp only [spec_DrawRunMoves_3, allT, h, s1, d2, f1, s3, s4, s5, s6, u1, u2, u3, v1, v2, v3, leI_self, Bool.or_true, cond_true]
  · simp only [spec_DrawRunMoves_1, Bool.cond_self]; exact d3
  · simp only [spec_DrawRunMoves_2]
    cases spec_DrawRunMoves_a1 c <;> cases spec_DrawRunMoves_a10 c <;> cases spec_DrawRunMoves_a11 c <;> simp only [cond_true, cond_false, List.length_replicate, g13] <;> omega

def N_spec_DrawRunMoves : List SV → List Entry → Option Out
  | [.one ⟨false, [.ref 0]⟩], [.row false 5 (.int .u8) x0] => some ⟨(.tup [⟨true, [(.val (.int IntKind.i64 (spec_DrawRunMoves_0 x0))), (.ref 1)]⟩, ⟨false, [(.ref 2)]⟩]), [(.row false 5 (CTy.int IntKind.u8) x0)], [(.row false 2 (CTy.int IntKind.i64) (spec_DrawRunMoves_1 x0)), (.row true 2 (CTy.int IntKind.i64) (spec_DrawRunMoves_2 x0))], [srcOk 0 0 x0]⟩
  | _, _ => none

def n_spec_DrawRunMoves : PF Try.prog := PF.alt p_spec_DrawRunMoves N_spec_DrawRunMoves (by
  intro args es o h hnd; unfold N_spec_DrawRunMoves at h; split at h
  · rename_i x0
    cases h
    have hnd := nd_fst hnd
    have hh := (drawRunMoves_ok x0 hnd).1
    have en := hh
    exact altok rfl (nd_one en) rfl rfl rfl
  · cases h)

/-! ### Controlled runs -/

/-! ### Replays -/

theorem drp_loop (c : List Int) (ps : List Int) (n : Int) (K : Nat) (hK : K ≤ 100) (a s : Int) (h : srcOk a s c = true) :
    lp_spec_l25Draw_l0.fin ((K : Int), [], a, s, n, c, ps) = true ∧ ∃ j y, lp_spec_l25Draw_l0.res ((K : Int), [], a, s, n, c, ps) = (j, y) ∧ srcOk y.2.2.1 y.2.2.2.1 c = true ∧ y.2.1.length ≤ K := by
  refine lp_spec_l25Draw_l0.inv (fun k x => x.1 = (k : Int) ∧ srcOk x.2.2.1 x.2.2.2.1 c = true ∧ x.2.1.length + k ≤ K ∧ x.2.2.2.2.2.1 = c) (fun _ y => srcOk y.2.2.1 y.2.2.2.1 c = true ∧ y.2.1.length ≤ K)
    (fun k x hx => .inr ?_) (fun x hx => ?_) K _ (by omega) ⟨rfl, h, by simp, rfl⟩
  · obtain ⟨y0, y1, y2, y3, y4, y5, y6⟩ := x
    obtain ⟨h0, h1, h2, h3⟩ := hx
    simp only at h0 h1 h2 h3
    rw [h3]
    have t1 : ltI 0 y0 = true := ltI_t (by omega)
    have sA := (drawEvent_ok y4 y2 y3 y6 c h1).2
    have sB := src_nx (n := 60) sA
    have hw : IntKind.i64.wrap (y0 - 1) = y0 - 1 := wrap_i64 (by omega) (by omega)
    have t3 : leN (0 + y1.length) 9223372036854775807 = true := leN_t (by omega)
    have t4 : leN ((0 + y1.length) * 24) 140737488355328 = true := leN_t (by omega)
    have t5 : leN (y1.length + 1) 9223372036854775807 = true := leN_t (by omega)
    have t6 : leN ((y1.length + 1) * 24) 140737488355328 = true := leN_t (by omega)
    have sC : srcOk (spec_l25Draw_l0_10 y1 y2 y3 y4 c y6) (spec_l25Draw_l0_11 y1 y2 y3 y4 c y6) c = true := by
      simp only [spec_l25Draw_l0_10, spec_l25Draw_l0_11]
      cases spec_l25Draw_l0_a2 y1 y2 y3 y4 c y6 with
      | true => exact sA
      | false => exact sB
    cases h7 : spec_l25Draw_l0_7 y1 y2 y3 y4 c y6 with
    | true =>
      refine ⟨?_, ?_, ?_⟩
      rotate_left
      · simp only [lp_spec_l25Draw_l0, lt_spec_l25Draw_l0, LT.out, allT, spec_l25Draw_l0_0, spec_l25Draw_l0_1, spec_l25Draw_l0_2, spec_l25Draw_l0_3, spec_l25Draw_l0_4, spec_l25Draw_l0_5, spec_l25Draw_l0_6, spec_l25Draw_l0_a0, List.length_singleton, h7, t1, t3, t4, t5, t6, h1, sA, Bool.or_true, cond_true]
        rfl
      · exact ⟨by simp only [spec_l25Draw_l0_8, hw]; omega, sC, by simp only [spec_l25Draw_l0_9, spec_l25Draw_l0_a1, spec_l25Draw_l0_a0, List.length_append, List.length_singleton]; omega, rfl⟩
    | false =>
      refine ⟨?_, ?_, ?_⟩
      rotate_left
      · simp only [lp_spec_l25Draw_l0, lt_spec_l25Draw_l0, LT.out, allT, spec_l25Draw_l0_0, spec_l25Draw_l0_1, spec_l25Draw_l0_2, spec_l25Draw_l0_3, spec_l25Draw_l0_4, spec_l25Draw_l0_5, spec_l25Draw_l0_6, spec_l25Draw_l0_a0, List.length_singleton, h7, t1, t3, t4, t5, t6, h1, sA, Bool.or_true, cond_true, cond_false]
        rfl
      · exact ⟨by simp only [spec_l25Draw_l0_8, hw]; omega, sC, by simp only; omega, rfl⟩
  · obtain ⟨y0, y1, y2, y3, y4, y5, y6⟩ := x
    obtain ⟨h0, h1, h2, h3⟩ := hx
    simp only at h0 h1 h2 h3
    have t1 : ltI 0 y0 = false := ltI_f (by omega)
    exact ⟨0, by simp [lp_spec_l25Draw_l0, lt_spec_l25Draw_l0, LT.out, spec_l25Draw_l0_0, t1], h1, by simp only; omega⟩

theorem drawReplay_ok (a s : Int) (c : List Int) (h : srcOk a s c = true) : spec_l25Draw_5 a s c = true ∧ (spec_l25Draw_3 a s c).length ≤ 9 ∧ (spec_l25Draw_4 a s c).length ≤ 202 := by
  obtain ⟨d1, d2, d3⟩ := l10Draw_ok a s c h
  have n1 := nx_in (n := 14) d2 (by omega)
  have s2 := src_nx (n := 14) d2
  obtain ⟨r1, j, y, r2, r3, r4⟩ := drp_loop c (spec_l10Draw_3 a s c) (spec_l10Draw_0 a s c) (nxV 14 (spec_l10Draw_1 a s c) (spec_l10Draw_2 a s c) c).toNat (by omega) _ _ s2
  have e0 : spec_l25Draw_a0 a s c = (((nxV 14 (spec_l10Draw_1 a s c) (spec_l10Draw_2 a s c) c).toNat : Int), [], nxA 14 (spec_l10Draw_1 a s c) c, nxS 14 (spec_l10Draw_1 a s c) (spec_l10Draw_2 a s c) c, spec_l10Draw_0 a s c, c, spec_l10Draw_3 a s c) := by
    rw [spec_l25Draw_a0, show (((nxV 14 (spec_l10Draw_1 a s c) (spec_l10Draw_2 a s c) c).toNat : Nat) : Int) = nxV 14 (spec_l10Draw_1 a s c) (spec_l10Draw_2 a s c) c by omega]
  have f1 : Lp.fin lp_spec_l25Draw_l0 (spec_l25Draw_a0 a s c) = true := by rw [e0]; exact r1
  have f2 : Lp.res lp_spec_l25Draw_l0 (spec_l25Draw_a0 a s c) = (j, y) := by rw [e0]; exact r2
  have g3 : spec_l25Draw_a3 a s c = y.2.2.1 := by simp only [spec_l25Draw_a3, spec_l25Draw_a2, spec_l25Draw_a1, f2]
  have g4 : spec_l25Draw_a4 a s c = y.2.2.2.1 := by simp only [spec_l25Draw_a4, spec_l25Draw_a2, spec_l25Draw_a1, f2]
  have g1 : Prod.fst (spec_l25Draw_a1 a s c) = y.2.1 := by simp only [spec_l25Draw_a1, f2]
  have s3 : srcOk (spec_l25Draw_a3 a s c) (spec_l25Draw_a4 a s c) c = true := by rw [g3, g4]; exact r3
  have s4 : srcOk (nxA 60 (spec_l25Draw_a3 a s c) c) (spec_l25Draw_a6 a s c) c = true := src_nx s3
  have n4 := nx_in (n := 2) s4 (by omega)
  have a7 : 200 ≤ spec_l25Draw_a7 a s c ∧ spec_l25Draw_a7 a s c ≤ 201 := by
    simp only [spec_l25Draw_a7]; rw [wrap_i64 (by omega) (by omega)]; omega
  have u1 : leI 0 (spec_l25Draw_a7 a s c) = true := leI_t (by omega)
  have u2 : leI ((24 : Nat) * spec_l25Draw_a7 a s c) 281474976710656 = true := leI_t (by omega)
  have u3 : leI (spec_l25Draw_a7 a s c) 9223372036854775807 = true := leI_t (by omega)
  refine ⟨?_, ?_, ?_⟩
  · simp only [spec_l25Draw_5, allT, h, d2, f1, s3, s4, u1, u2, u3, leI_self, Bool.or_true, cond_true]
  · simp only [spec_l25Draw_3, Bool.cond_self]; exact d3
  · simp only [spec_l25Draw_4]
    cases spec_l25Draw_a5 a s c <;> simp only [cond_true, cond_false, List.length_replicate, g1] <;> omega

theorem drawRunReplay_ok (c : List Int) (h : srcOk 0 0 c = true) : spec_DrawRunReplay_3 c = true ∧ (spec_DrawRunReplay_1 c).length ≤ 9 ∧ (spec_DrawRunReplay_2 c).length ≤ 202 := by
  have s1 := (from_ok c h).2
  obtain ⟨d1, d2, d3⟩ := drawReplay_ok 0 (frS c) c s1
  exact ⟨by simp only [spec_DrawRunReplay_3, allT, h, d1, cond_true], d2, d3⟩

def N_spec_DrawRunReplay : List SV → List Entry → Option Out
  | [.one ⟨false, [.ref 0]⟩], [.row false 5 (.int .u8) x0] => some ⟨(.tup [⟨true, [(.val (.int IntKind.i64 (spec_DrawRunReplay_0 x0))), (.ref 1)]⟩, ⟨false, [(.ref 2)]⟩]), [(.row false 5 (CTy.int IntKind.u8) x0)], [(.row true 2 (CTy.int IntKind.i64) (spec_DrawRunReplay_1 x0)), (.row true 129 (CTy.pair (CTy.int IntKind.i64) (CTy.pair (CTy.int IntKind.i64) (CTy.int IntKind.i64))) (spec_DrawRunReplay_2 x0))], [srcOk 0 0 x0]⟩
  | _, _ => none

def n_spec_DrawRunReplay : PF Try.prog := PF.alt p_spec_DrawRunReplay N_spec_DrawRunReplay (by
  intro args es o h hnd; unfold N_spec_DrawRunReplay at h; split at h
  · rename_i x0
    cases h
    have hnd := nd_fst hnd
    have hh := (drawRunReplay_ok x0 hnd).1
    have en := hh
    exact altok rfl (nd_one en) rfl rfl rfl
  · cases h)

end Go.SX

/- What is drawn: runs of moves, controlled runs, replays. -/
import Derived.Test.YtjncnnpdaeociaaRw
import Derived.Test.YtjncnnpdaeociaaLg
namespace Go.SX
open Go.Proofs
set_option maxRecDepth 100000

/-! ### Runs of moves -/

/-! ### Controlled runs -/

theorem dcr_loop (c ps : List Int) (n m : Int) (fs : List (Int × Int × Int)) (hT : isT n ps = true) (hF : inFs n fs = true) (K : Nat) (hK : K ≤ 100) (a s : Int) (h : srcOk a s c = true) :
    lp_spec_l11DrawRun_l0.fin ((K : Int), a, s, m, n, fs, [], c, ps, ps) = true ∧ ∃ j y, lp_spec_l11DrawRun_l0.res ((K : Int), a, s, m, n, fs, [], c, ps, ps) = (j, y) ∧ srcOk y.2.1 y.2.2.1 c = true ∧ y.2.2.2.2.2.2.1.length ≤ K := by
  have h4 := isT_iff.1 hT
  refine lp_spec_l11DrawRun_l0.inv (fun k x => x.1 = (k : Int) ∧ srcOk x.2.1 x.2.2.1 c = true ∧ x.2.2.2.2.1 = n ∧ x.2.2.2.2.2.1 = fs ∧ x.2.2.2.2.2.2.1.length + k ≤ K ∧ x.2.2.2.2.2.2.2.1 = c ∧ x.2.2.2.2.2.2.2.2.1 = ps ∧ isT n x.2.2.2.2.2.2.2.2.2 = true ∧ x.2.2.2.2.2.2.2.2.2.length = ps.length)
    (fun _ y => srcOk y.2.1 y.2.2.1 c = true ∧ y.2.2.2.2.2.2.1.length ≤ K) (fun k x hx => .inr ?_) (fun x hx => ?_) K _ (by omega) ⟨rfl, h, rfl, rfl, by simp, rfl, rfl, hT, rfl⟩
  · obtain ⟨y0, y1, y2, y3, y4, y5, y6, y7, y8, y9⟩ := x
    obtain ⟨h0, h1, q4, q5, h2, q7, q8, hQ, hq⟩ := hx
    simp only at h0 h1 h2 q4 q5 q7 q8 hQ hq
    rw [q4, q5, q7, q8]
    have t1 : ltI 0 y0 = true := ltI_t (by omega)
    have n1 := nx_in (n := (ps.length : Int)) h1 (by omega)
    have sA := src_nx (n := (ps.length : Int)) h1
    have sB := src_nx (n := 20) sA
    have ht : hasT y9 (nxV (ps.length : Int) y1 y2 c) = true := hasT_iff.2 (by omega)
    have hp := permOk_of (fs := fs) hQ hF ht
    have hm : mvOk n y9 (nxV (ps.length : Int) y1 y2 c) = true := mvOk_iff.2 ⟨hQ, ht⟩
    have hw : IntKind.i64.wrap (y0 - 1) = y0 - 1 := wrap_i64 (by omega) (by omega)
    have t5 : leN (y6.length + 1) 9223372036854775807 = true := leN_t (by omega)
    have t6 : leN ((y6.length + 1) * 8) 140737488355328 = true := leN_t (by omega)
    have sC : srcOk (spec_l11DrawRun_l0_7 y1 y2 n fs c ps y9) (spec_l11DrawRun_l0_8 y1 y2 n fs c ps y9) c = true := by
      simp only [spec_l11DrawRun_l0_7, spec_l11DrawRun_l0_8]
      cases spec_l11DrawRun_l0_a0 y1 y2 n fs c ps y9 with
      | true => exact sB
      | false => exact sA
    cases h5 : spec_l11DrawRun_l0_5 y1 y2 n fs c ps y9 with
    | true =>
      refine ⟨?_, ?_, ?_⟩
      rotate_left
      · simp only [lp_spec_l11DrawRun_l0, lt_spec_l11DrawRun_l0, LT.out, allT, spec_l11DrawRun_l0_0, spec_l11DrawRun_l0_1, spec_l11DrawRun_l0_2, spec_l11DrawRun_l0_3, spec_l11DrawRun_l0_4, h5, t1, h1, hQ, hF, hp, sA, Bool.and_self, Bool.or_true, cond_true]
        rfl
      · exact ⟨by simp only [spec_l11DrawRun_l0_6, hw]; omega, sC, rfl, rfl, by simp only; omega, rfl, rfl, hQ, hq⟩
    | false =>
      refine ⟨?_, ?_, ?_⟩
      rotate_left
      · simp only [lp_spec_l11DrawRun_l0, lt_spec_l11DrawRun_l0, LT.out, allT, spec_l11DrawRun_l0_0, spec_l11DrawRun_l0_1, spec_l11DrawRun_l0_2, spec_l11DrawRun_l0_3, spec_l11DrawRun_l0_4, spec_l11DrawRun_l0_9, spec_l11DrawRun_l0_10, spec_l11DrawRun_l0_11, spec_l11DrawRun_l0_a1, List.length_singleton, h5, t1, t5, t6, h1, hQ, hF, hp, hm, sA, Bool.and_self, Bool.or_true, cond_true, cond_false]
        rfl
      · exact ⟨by simp only [spec_l11DrawRun_l0_6, hw]; omega, sC, rfl, rfl, by simp only [spec_l11DrawRun_l0_12, spec_l11DrawRun_l0_a1, List.length_append, List.length_singleton]; omega, rfl, rfl, isT_mov hQ _, by simp only [spec_l11DrawRun_l0_13, movL_length]; exact hq⟩
  · obtain ⟨y0, y1, y2, y3, y4, y5, y6, y7, y8, y9⟩ := x
    obtain ⟨h0, h1, q4, q5, h2, q7, q8, hQ, hq⟩ := hx
    simp only at h0 h1 h2
    have t1 : ltI 0 y0 = false := ltI_f (by omega)
    exact ⟨0, by simp [lp_spec_l11DrawRun_l0, lt_spec_l11DrawRun_l0, LT.out, spec_l11DrawRun_l0_0, t1], h1, by simp only; omega⟩

theorem drawRun_ok (a s : Int) (c : List Int) (h : srcOk a s c = true) : spec_l11DrawRun_7 a s c = true ∧ (spec_l11DrawRun_3 a s c).length ≤ 9 ∧ (spec_l11DrawRun_4 a s c).length ≤ 15 ∧ (spec_l11DrawRun_5 a s c).length ≤ 202 := by
  obtain ⟨d1, d2, d3⟩ := l10Draw_ok a s c h
  obtain ⟨e1, e2, e3⟩ := drawFaults_ok (spec_l10Draw_0 a s c) _ _ c d2
  have a5 : spec_l11DrawRun_a5 a s c = spec_l11DrawRun_a0 a s c := by simp only [spec_l11DrawRun_a5, Bool.cond_self]
  have l0 : leN (spec_l11DrawRun_a0 a s c).length 9223372036854775807 = true := leN_t (by simp only [spec_l11DrawRun_a0]; omega)
  have l3 : (spec_l11DrawRun_3 a s c).length ≤ 9 := by simp only [spec_l11DrawRun_3, Bool.cond_self]; exact d3
  have l4 : (spec_l11DrawRun_4 a s c).length ≤ 15 := by simp only [spec_l11DrawRun_4, Bool.cond_self, a5]; exact e3
  cases hb : spec_l11DrawRun_a1 a s c with
  | true =>
    refine ⟨?_, l3, l4, ?_⟩
    · simp only [spec_l11DrawRun_7, allT, h, d2, l0, hb, Bool.or_true, Bool.true_or, cond_true]
    · simp [spec_l11DrawRun_5, hb]
  | false =>
    simp only [spec_l11DrawRun_a1] at hb
    have hT : isT (spec_l10Draw_0 a s c) (spec_l10Draw_3 a s c) = true := by
      cases hq : isT (spec_l10Draw_0 a s c) (spec_l10Draw_3 a s c) with
      | true => rfl
      | false => rw [hq] at hb; cases hb
    have hF : okFs (spec_l10Draw_0 a s c) (spec_l11DrawRun_a0 a s c) = true := by
      rw [hT] at hb
      simp only [Bool.not_true, cond_false, Bool.not_eq_false', Bool.and_eq_true] at hb
      exact hb.2
    have hF2 := inFs_of (isT_iff.1 hT).1 hF
    have sF : srcOk (spec_l11DrawRun_a2 a s c) (spec_l11DrawRun_a3 a s c) c = true := e2
    have n1 := nx_in (n := 16) sF (by omega)
    have s2 := src_nx (n := 16) sF
    obtain ⟨r1, j, y, r2, r3, r4⟩ := dcr_loop c (spec_l10Draw_3 a s c) (spec_l10Draw_0 a s c) (spec_l10Draw_0 a s c) (spec_l11DrawRun_a0 a s c) hT hF2 (nxV 16 (spec_l11DrawRun_a2 a s c) (spec_l11DrawRun_a3 a s c) c).toNat (by omega) _ _ s2
    have e6 : spec_l11DrawRun_a6 a s c = (((nxV 16 (spec_l11DrawRun_a2 a s c) (spec_l11DrawRun_a3 a s c) c).toNat : Int), nxA 16 (spec_l11DrawRun_a2 a s c) c, nxS 16 (spec_l11DrawRun_a2 a s c) (spec_l11DrawRun_a3 a s c) c,
        spec_l10Draw_0 a s c, spec_l10Draw_0 a s c, spec_l11DrawRun_a0 a s c, [], c, spec_l10Draw_3 a s c, spec_l10Draw_3 a s c) := by
      rw [spec_l11DrawRun_a6, a5, show (((nxV 16 (spec_l11DrawRun_a2 a s c) (spec_l11DrawRun_a3 a s c) c).toNat : Nat) : Int) = nxV 16 (spec_l11DrawRun_a2 a s c) (spec_l11DrawRun_a3 a s c) c by omega]
    have f1 : Lp.fin lp_spec_l11DrawRun_l0 (spec_l11DrawRun_a6 a s c) = true := by rw [e6]; exact r1
    have f2 : Lp.res lp_spec_l11DrawRun_l0 (spec_l11DrawRun_a6 a s c) = (j, y) := by rw [e6]; exact r2
    have g8 : spec_l11DrawRun_a8 a s c = y.2.1 := by simp only [spec_l11DrawRun_a8, spec_l11DrawRun_a7, f2]
    have g10 : spec_l11DrawRun_a10 a s c = y.2.2.1 := by simp only [spec_l11DrawRun_a10, spec_l11DrawRun_a9, spec_l11DrawRun_a7, f2]
    have g17 : spec_l11DrawRun_a17 a s c = y.2.2.2.2.2.2.1 := by simp only [spec_l11DrawRun_a17, spec_l11DrawRun_a9, spec_l11DrawRun_a7, f2]
    have s3 : srcOk (spec_l11DrawRun_a8 a s c) (spec_l11DrawRun_a10 a s c) c = true := by rw [g8, g10]; exact r3
    have s4 : spec_l11DrawRun_a19 a s c = true := src_nx s3
    have n4 := nx_in (n := 2) (src_nx (n := 60) s3) (by omega)
    have a16 : 200 ≤ spec_l11DrawRun_a16 a s c ∧ spec_l11DrawRun_a16 a s c ≤ 201 := by
      simp only [spec_l11DrawRun_a16, spec_l11DrawRun_a15]; rw [wrap_i64 (by omega) (by omega)]; omega
    have u1 : leI 0 (spec_l11DrawRun_a16 a s c) = true := leI_t (by omega)
    have u2 : leI ((8 : Nat) * spec_l11DrawRun_a16 a s c) 281474976710656 = true := leI_t (by omega)
    have u3 : leI (spec_l11DrawRun_a16 a s c) 9223372036854775807 = true := leI_t (by omega)
    have l18 : (spec_l11DrawRun_a18 a s c).length = 1 := rfl
    have u4 : leN ((spec_l11DrawRun_a17 a s c).length + (spec_l11DrawRun_a18 a s c).length) 9223372036854775807 = true := leN_t (by rw [g17, l18]; omega)
    have u5 : leN (((spec_l11DrawRun_a17 a s c).length + (spec_l11DrawRun_a18 a s c).length) * 8) 140737488355328 = true := leN_t (by rw [g17, l18]; omega)
    refine ⟨?_, l3, l4, ?_⟩
    · simp only [spec_l11DrawRun_7, allT, h, d2, l0, sF, f1, s3, s4, u1, u2, u3, u4, u5, spec_l11DrawRun_a14, one_le, leI_self, Bool.and_self, Bool.or_true, cond_true]
    · simp only [spec_l11DrawRun_5]
      cases spec_l11DrawRun_a1 a s c <;> cases spec_l11DrawRun_a12 a s c <;> cases spec_l11DrawRun_a13 a s c <;> simp only [cond_true, cond_false, List.length_replicate, List.length_append, List.length_singleton, g17, l18] <;> omega

theorem drawFirst_ok (c : List Int) (h : srcOk 0 0 c = true) : spec_DrawFirstCollision_4 c = true ∧ (spec_DrawFirstCollision_1 c).length ≤ 9 ∧ (spec_DrawFirstCollision_2 c).length ≤ 15 ∧ (spec_DrawFirstCollision_3 c).length ≤ 202 := by
  have s1 := (from_ok c h).2
  obtain ⟨d1, d2, d3, d4⟩ := drawRun_ok 0 (frS c) c s1
  exact ⟨by simp only [spec_DrawFirstCollision_4, allT, h, d1, cond_true], d2, d3, d4⟩

def N_spec_DrawFirstCollision : List SV → List Entry → Option Out
  | [.one ⟨false, [.ref 0]⟩], [.row false 5 (.int .u8) x0] => some ⟨(.tup [⟨true, [(.val (.int IntKind.i64 (spec_DrawFirstCollision_0 x0))), (.ref 1)]⟩, ⟨false, [(.ref 2)]⟩, ⟨false, [(.ref 3)]⟩]), [(.row false 5 (CTy.int IntKind.u8) x0)], [(.row false 2 (CTy.int IntKind.i64) (spec_DrawFirstCollision_1 x0)), (.row false 118 (CTy.pair (CTy.int IntKind.i64) (CTy.pair (CTy.int IntKind.i64) (CTy.int IntKind.i64))) (spec_DrawFirstCollision_2 x0)), (.row false 2 (CTy.int IntKind.i64) (spec_DrawFirstCollision_3 x0))], [srcOk 0 0 x0]⟩
  | _, _ => none

def n_spec_DrawFirstCollision : PF Try.prog := PF.alt p_spec_DrawFirstCollision N_spec_DrawFirstCollision (by
  intro args es o h hnd; unfold N_spec_DrawFirstCollision at h; split at h
  · rename_i x0
    cases h
    have hnd := nd_fst hnd
    have hh := (drawFirst_ok x0 hnd).1
    have en := hh
    exact altok rfl (nd_one en) rfl rfl rfl
  · cases h)

/-! ### Replays -/

end Go.SX

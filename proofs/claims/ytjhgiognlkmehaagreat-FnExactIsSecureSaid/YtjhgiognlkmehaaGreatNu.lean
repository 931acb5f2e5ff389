/- Rides, in plain words: valid rides, tolerant rides, steps of a ride. -/
import Derived.Test.YtjhgiognlkmehaaGreatRu
namespace Go.SX
open Go.Proofs
set_option maxRecDepth 100000

/-- A row of restraints that does not fit. -/
def rsBad (rs : List (List Int)) (b : Nat) : Bool := !(areR (rs[b]?.getD []) && (((rs[b]?.getD []).length : Int) == rowsR rs))

theorem rs_range (rs : List (List Int)) : (List.range rs.length).any (rsBad rs) = !rsOk rs := by
  have key : ∀ (l : List (List Int)) (P : List Int → Bool), ((List.range l.length).any fun b => !P (l[b]?.getD [])) = !l.all P := by
    intro l P
    rw [Bool.eq_iff_iff]
    simp only [List.any_eq_true, List.mem_range, Bool.not_eq_true', List.all_eq_false]
    constructor
    · rintro ⟨b, hb, h⟩
      rw [List.getElem?_eq_getElem hb] at h
      exact ⟨l[b], List.getElem_mem hb, by simpa using h⟩
    · rintro ⟨x, hx, h⟩
      obtain ⟨b, hb, rfl⟩ := List.getElem_of_mem hx
      exact ⟨b, hb, by rw [List.getElem?_eq_getElem hb]; simpa using h⟩
  exact key rs fun st => areR st && ((st.length : Int) == rowsR rs)

/-- How long a ride's lists may be. -/
def rideN (m : Nat) (ps : List Int) (fs : List (Int × Int × Int)) (rs : List (List Int)) (lf : List (Int × Int × Int)) (pl ls : List (Int × Int)) : Bool :=
  leN ps.length m && (leN fs.length m && (ssOk m rs && (leN lf.length m && (leN pl.length m && leN ls.length m))))

theorem rideN_iff {m : Nat} {ps : List Int} {fs : List (Int × Int × Int)} {rs : List (List Int)} {lf : List (Int × Int × Int)} {pl ls : List (Int × Int)} :
    rideN m ps fs rs lf pl ls = true ↔ ps.length ≤ m ∧ fs.length ≤ m ∧ (rs.length ≤ m ∧ ∀ x ∈ rs, x.length ≤ m) ∧ lf.length ≤ m ∧ pl.length ≤ m ∧ ls.length ≤ m := by
  simp only [rideN, Bool.and_eq_true, leN_iff, ss_iff]

theorem bad_one (x y : List Int) : (bif !areR x then true else ((bif !!areR x && true then x else []).length : Int) != (y.length : Int)) = !(areR x && ((x.length : Int) == (y.length : Int))) := by
  cases h : areR x <;> simp [bne]

theorem bad_two (x y : List Int) : (bif !areR x then true else (x.length : Int) != ((bif !!areR x && true then y else []).length : Int)) = !(areR x && ((x.length : Int) == (y.length : Int))) := by
  cases h : areR x <;> simp [bne]

theorem spec_bad (rs : List (List Int)) (b : Nat) : spec_IsRide_l0_8 (b : Int) rs = rsBad rs b := by
  exact bad_one (rs[b]?.getD []) (rs[0]?.getD [])

theorem impl_bad (rs : List (List Int)) (b : Nat) : impl_IsRide_l0_8 (b : Int) rs = rsBad rs b := by
  exact bad_two (rs[b]?.getD []) (rs[0]?.getD [])

theorem w_specRide (n mode day : Int) (ps : List Int) (fs : List (Int × Int × Int)) (rs : List (List Int)) (lf : List (Int × Int × Int)) (pl ls : List (Int × Int)) (hn : rs.length ≤ 9223372036854775807) (hA : ∀ x ∈ rs, x.length ≤ 9223372036854775807) :
    lp_spec_IsRide_l0.fin ((0 : Int), n, mode, day, ps, fs, rs, lf, pl, ls) = true ∧ (lp_spec_IsRide_l0.res ((0 : Int), n, mode, day, ps, fs, rs, lf, pl, ls)).1 = bif !rsOk rs then 0 else 1 := by
  rw [← rs_range]
  refine Lp.scan lp_spec_IsRide_l0 (fun b => ((b : Int), n, mode, day, ps, fs, rs, lf, pl, ls)) rs.length (rsBad rs) 1 (by simp only [lp_spec_IsRide_l0]; omega) (fun b hb => ?_) ?_
  · have hdec : ltI (b : Int) (rs.length : Int) = true := ltI_t (by omega)
    have hdec0 : ltI 0 (rs.length : Int) = true := ltI_t (by omega)
    have hw : IntKind.i64.wrap ((b : Int) + 1) = ((b + 1 : Nat) : Int) := by rw [wrap_i64 (by omega) (by omega)]; omega
    have hnn : leI (0 : Int) (b : Int) = true := leI_t (by omega)
    have hltd : ltN b rs.length = true := ltN_t (by omega)
    have hlt0 : ltN 0 rs.length = true := ltN_t (by omega)
    have h6 : leN (spec_IsRide_l0_a0 (b : Int) rs).length 9223372036854775807 = true := leN_t (by
      simp only [spec_IsRide_l0_a0, Int.toNat_natCast]
      cases hq : rs[b]? with
      | none => exact Nat.zero_le _
      | some x => exact hA x (List.mem_of_getElem? hq))
    have i2 := spec_bad rs b
    refine ⟨?_, ?_, ?_⟩
    · simp [lp_spec_IsRide_l0, lt_spec_IsRide_l0, LT.nds, allT, spec_IsRide_l0_0, spec_IsRide_l0_1, spec_IsRide_l0_2, spec_IsRide_l0_3, spec_IsRide_l0_4, spec_IsRide_l0_5, spec_IsRide_l0_6, spec_IsRide_l0_7, spec_l33Rows_1, hdec, hdec0, hnn, hltd, hlt0, h6]
    · simp [lp_spec_IsRide_l0, lt_spec_IsRide_l0, LT.each, spec_IsRide_l0_9, hw]
    · simp only [lp_spec_IsRide_l0, lt_spec_IsRide_l0, LT.fn, spec_IsRide_l0_0, hdec, i2, cond_true]
  · simp [lp_spec_IsRide_l0, lt_spec_IsRide_l0, LT.out, spec_IsRide_l0_0]

theorem w_implRide (n mode day : Int) (ps : List Int) (fs : List (Int × Int × Int)) (rs : List (List Int)) (lf : List (Int × Int × Int)) (pl ls : List (Int × Int)) (hn : rs.length ≤ 9223372036854775807) (hA : ∀ x ∈ rs, x.length ≤ 9223372036854775807) :
    lp_impl_IsRide_l0.fin ((0 : Int), (rs.length : Int), rs, n, mode, day, ps, fs, lf, pl, ls) = true ∧ (lp_impl_IsRide_l0.res ((0 : Int), (rs.length : Int), rs, n, mode, day, ps, fs, lf, pl, ls)).1 = bif !rsOk rs then 0 else 1 := by
  rw [← rs_range]
  refine Lp.scan lp_impl_IsRide_l0 (fun b => ((b : Int), (rs.length : Int), rs, n, mode, day, ps, fs, lf, pl, ls)) rs.length (rsBad rs) 1 (by simp only [lp_impl_IsRide_l0]; omega) (fun b hb => ?_) ?_
  · have hdec : ltI (b : Int) (rs.length : Int) = true := ltI_t (by omega)
    have hdec0 : ltI 0 (rs.length : Int) = true := ltI_t (by omega)
    have hw : IntKind.i64.wrap ((b : Int) + 1) = ((b + 1 : Nat) : Int) := by rw [wrap_i64 (by omega) (by omega)]; omega
    have hnn : leI (0 : Int) (b : Int) = true := leI_t (by omega)
    have hltd : ltN b rs.length = true := ltN_t (by omega)
    have hlt0 : ltN 0 rs.length = true := ltN_t (by omega)
    have h6 : leN (impl_IsRide_l0_a0 (b : Int) rs).length 9223372036854775807 = true := leN_t (by
      simp only [impl_IsRide_l0_a0, Int.toNat_natCast]
      cases hq : rs[b]? with
      | none => exact Nat.zero_le _
      | some x => exact hA x (List.mem_of_getElem? hq))
    have i2 := impl_bad rs b
    have h00 : leI 0 0 = true := rfl
    refine ⟨?_, ?_, ?_⟩
    · simp [lp_impl_IsRide_l0, lt_impl_IsRide_l0, LT.nds, allT, impl_IsRide_l0_0, impl_IsRide_l0_1, impl_IsRide_l0_2, impl_IsRide_l0_3, impl_IsRide_l0_4, impl_IsRide_l0_5, impl_IsRide_l0_6, impl_IsRide_l0_7, hdec, hdec0, hnn, hltd, hlt0, h6, h00]
    · simp [lp_impl_IsRide_l0, lt_impl_IsRide_l0, LT.each, impl_IsRide_l0_9, hw]
    · simp only [lp_impl_IsRide_l0, lt_impl_IsRide_l0, LT.fn, impl_IsRide_l0_0, hdec, i2, cond_true]
  · simp [lp_impl_IsRide_l0, lt_impl_IsRide_l0, LT.out, impl_IsRide_l0_0]

theorem isT_inR {n : Int} {ps : List Int} (h : isT n ps = true) : inR n 2 8 = true := inR_iff.2 (isT_iff.1 h).1

theorem dec_ne (a b : Nat) : ((a : Int) != (b : Int)) = !decide (a = b) := by
  by_cases h : a = b
  · subst h; simp
  · have : (a : Int) ≠ (b : Int) := by omega
    simp [h, this]

theorem specRide_ok (n mode day : Int) (ps : List Int) (fs : List (Int × Int × Int)) (rs : List (List Int)) (lf : List (Int × Int × Int)) (pl ls : List (Int × Int)) (h : rideN 9223372036854775807 ps fs rs lf pl ls = true) :
    spec_IsRide_0 n mode day ps fs rs lf pl ls = okRide n ps fs rs lf mode pl ls day ∧ spec_IsRide_1 n mode day ps fs rs lf pl ls = true := by
  obtain ⟨h1, h2, ⟨h3, h4⟩, h5, h6, h7⟩ := rideN_iff.1 h
  obtain ⟨w1, w2⟩ := w_specRide n mode day ps fs rs lf pl ls h3 h4
  have e : dflt (CTy.sl (2 : TypeId) (CTy.int IntKind.i64)) = [] := rfl
  have er : spec_l33Rows_0 rs = rowsR rs := rfl
  have q5 : leN lf.length 9223372036854775807 = true := leN_t h5
  have q6 : leN pl.length 9223372036854775807 = true := leN_t h6
  have q7 : leN ls.length 9223372036854775807 = true := leN_t h7
  have q2 : leN fs.length 9223372036854775807 = true := leN_t h2
  simp only [spec_IsRide_0, spec_IsRide_1, spec_IsRide_a0, spec_IsRide_a1, spec_IsRide_a2, spec_IsRide_a3, w1, w2, er, dec_ne, okRide, spec_l27Mode_0, spec_l01In_0, inR_eq, allT, q2, q5, q6, q7, Bool.or_true, cond_true]
  cases hT : isT n ps with
  | false => simp
  | true =>
    rw [isT_inR hT]
    cases hF : okFs n fs with
    | false => simp
    | true =>
      cases hl : decide (rs.length = ps.length) with
      | false => simp
      | true =>
        have hl : rs.length = ps.length := by simpa using hl
        have := (isT_iff.1 hT).2.1
        have r1 : spec_l33Rows_1 rs = true := by
          have a1 : ltI 0 (rs.length : Int) = true := ltI_t (by omega)
          have a2 : ltN 0 rs.length = true := ltN_t (by omega)
          simp [spec_l33Rows_1, allT, a1, a2]
        cases rsOk rs with
        | false => simp
        | true =>
          rw [r1]
          cases lfOk (rowsR rs) lf <;> cases inR mode 0 5 <;> cases okPl pl <;> cases okLk ls <;> simp [Nat.beq]

theorem implRide_ok (n mode day : Int) (ps : List Int) (fs : List (Int × Int × Int)) (rs : List (List Int)) (lf : List (Int × Int × Int)) (pl ls : List (Int × Int)) (h : rideN 9223372036854775807 ps fs rs lf pl ls = true) :
    impl_IsRide_0 n mode day ps fs rs lf pl ls = okRide n ps fs rs lf mode pl ls day ∧ impl_IsRide_1 n mode day ps fs rs lf pl ls = true := by
  obtain ⟨h1, h2, ⟨h3, h4⟩, h5, h6, h7⟩ := rideN_iff.1 h
  obtain ⟨w1, w2⟩ := w_implRide n mode day ps fs rs lf pl ls h3 h4
  have e : dflt (CTy.sl (2 : TypeId) (CTy.int IntKind.i64)) = [] := rfl
  have er : impl_IsRide_a3 mode rs lf = (bif lfOk (rowsR rs) lf then impl_isMode_0 mode else false) := rfl
  have q5 : leN lf.length 9223372036854775807 = true := leN_t h5
  have q6 : leN pl.length 9223372036854775807 = true := leN_t h6
  have q7 : leN ls.length 9223372036854775807 = true := leN_t h7
  have q2 : leN fs.length 9223372036854775807 = true := leN_t h2
  have h00 : leI 0 0 = true := rfl
  simp only [impl_IsRide_0, impl_IsRide_1, impl_IsRide_a0, impl_IsRide_a1, impl_IsRide_a2, er, w1, w2, dec_ne, okRide, impl_isMode_0, impl_isDay_0, impl_within_0, inR_eq, allT, q2, q5, q6, q7, h00, Bool.or_true, cond_true]
  cases hT : isT n ps with
  | false => simp
  | true =>
    cases hF : okFs n fs with
    | false => simp
    | true =>
      cases hl : decide (rs.length = ps.length) with
      | false => simp
      | true =>
        have hl : rs.length = ps.length := by simpa using hl
        have := (isT_iff.1 hT).2.1
        have a1 : ltI 0 (rs.length : Int) = true := ltI_t (by omega)
        have a2 : ltN (Int.toNat 0) rs.length = true := ltN_t (by simp; omega)
        rw [a1, a2]
        cases rsOk rs with
        | false => simp
        | true =>
          cases lfOk (rowsR rs) lf <;> cases inR mode 0 5 <;> cases okPl pl <;> cases okLk ls <;> simp [Nat.beq]

theorem okRide_iff {n : Int} {ps : List Int} {fs : List (Int × Int × Int)} {rs : List (List Int)} {lf : List (Int × Int × Int)} {mode : Int} {pl ls : List (Int × Int)} {day : Int} :
    okRide n ps fs rs lf mode pl ls day = true ↔ isT n ps = true ∧ okFs n fs = true ∧ rs.length = ps.length ∧ rsOk rs = true ∧ lfOk (rowsR rs) lf = true ∧ inR mode 0 5 = true ∧ okPl pl = true ∧ okLk ls = true ∧ inR day 0 100000 = true := by
  simp only [okRide, Bool.and_eq_true, decide_eq_true_eq]

def N_spec_IsRide : List SV → List Entry → Option Out
  | [.one ⟨true, [.val (.int .i64 x0), .ref 0, .ref 1, .ref 2, .ref 3, .val (.int .i64 x1), .ref 4, .ref 5, .val (.int .i64 x2)]⟩], [.row false 2 (.int .i64) x3, .row false 78 (.pair (.int .i64) (.pair (.int .i64) (.int .i64))) x4, .row false 22 (.sl 2 (.int .i64)) x5, .row false 82 (.pair (.int .i64) (.pair (.int .i64) (.int .i64))) x6, .row false 86 (.pair (.int .i64) (.int .i64)) x7, .row false 90 (.pair (.int .i64) (.int .i64)) x8] => some ⟨(.one ⟨false, [(.val (.bool (okRide x0 x3 x4 x5 x6 x1 x7 x8 x2)))]⟩), [(.row false 2 (CTy.int IntKind.i64) x3), (.row false 78 (CTy.pair (CTy.int IntKind.i64) (CTy.pair (CTy.int IntKind.i64) (CTy.int IntKind.i64))) x4), (.row false 22 (CTy.sl (2 : TypeId) (CTy.int IntKind.i64)) x5), (.row false 82 (CTy.pair (CTy.int IntKind.i64) (CTy.pair (CTy.int IntKind.i64) (CTy.int IntKind.i64))) x6), (.row false 86 (CTy.pair (CTy.int IntKind.i64) (CTy.int IntKind.i64)) x7), (.row false 90 (CTy.pair (CTy.int IntKind.i64) (CTy.int IntKind.i64)) x8)], [], [rideN 9223372036854775807 x3 x4 x5 x6 x7 x8]⟩
  | _, _ => none

def n_spec_IsRide : PF Tryz.prog := PF.alt p_spec_IsRide N_spec_IsRide (by
  intro args es o h hnd; unfold N_spec_IsRide at h; split at h
  · rename_i x0 x1 x2 x3 x4 x5 x6 x7 x8
    cases h
    have hnd := nd_fst hnd
    have hh := specRide_ok x0 x1 x2 x3 x4 x5 x6 x7 x8 hnd
    obtain ⟨e0, en⟩ := hh
    exact altok rfl (nd_one en) (by simp only [e0] <;> rfl) rfl rfl
  · cases h)

def N_impl_IsRide : List SV → List Entry → Option Out
  | [.one ⟨true, [.val (.int .i64 x0), .ref 0, .ref 1, .ref 2, .ref 3, .val (.int .i64 x1), .ref 4, .ref 5, .val (.int .i64 x2)]⟩], [.row false 2 (.int .i64) x3, .row false 78 (.pair (.int .i64) (.pair (.int .i64) (.int .i64))) x4, .row false 22 (.sl 2 (.int .i64)) x5, .row false 82 (.pair (.int .i64) (.pair (.int .i64) (.int .i64))) x6, .row false 86 (.pair (.int .i64) (.int .i64)) x7, .row false 90 (.pair (.int .i64) (.int .i64)) x8] => some ⟨(.one ⟨false, [(.val (.bool (okRide x0 x3 x4 x5 x6 x1 x7 x8 x2)))]⟩), [(.row false 2 (CTy.int IntKind.i64) x3), (.row false 78 (CTy.pair (CTy.int IntKind.i64) (CTy.pair (CTy.int IntKind.i64) (CTy.int IntKind.i64))) x4), (.row false 22 (CTy.sl (2 : TypeId) (CTy.int IntKind.i64)) x5), (.row false 82 (CTy.pair (CTy.int IntKind.i64) (CTy.pair (CTy.int IntKind.i64) (CTy.int IntKind.i64))) x6), (.row false 86 (CTy.pair (CTy.int IntKind.i64) (CTy.int IntKind.i64)) x7), (.row false 90 (CTy.pair (CTy.int IntKind.i64) (CTy.int IntKind.i64)) x8)], [], [rideN 9223372036854775807 x3 x4 x5 x6 x7 x8]⟩
  | _, _ => none

def n_impl_IsRide : PF Tryz.prog := PF.alt p_impl_IsRide N_impl_IsRide (by
  intro args es o h hnd; unfold N_impl_IsRide at h; split at h
  · rename_i x0 x1 x2 x3 x4 x5 x6 x7 x8
    cases h
    have hnd := nd_fst hnd
    have hh := implRide_ok x0 x1 x2 x3 x4 x5 x6 x7 x8 hnd
    obtain ⟨e0, en⟩ := hh
    exact altok rfl (nd_one en) (by simp only [e0] <;> rfl) rfl rfl
  · cases h)

end Go.SX

/- Rides, in plain words: secure rides. -/
import Derived.Test.YtjhgiognlkmehaaGreatRw
namespace Go.SX
open Go.Proofs
set_option maxRecDepth 100000

/-- A train outside of the station has an open restraint. -/
def secBad (n : Int) (ps : List Int) (rs : List (List Int)) (b : Nat) : Bool :=
  bif !loop_example_g00916_impl_Ride_isInStation_0 n (b : Int) ps then !lockedL (rs[b]?.getD []) else false
/-- A secure ride. -/
def secRide (n : Int) (ps : List Int) (fs : List (Int × Int × Int)) (rs : List (List Int)) (lf : List (Int × Int × Int)) (mode : Int) (pl ls : List (Int × Int)) (day : Int) : Bool :=
  okRide n ps fs rs lf mode pl ls day && (safeL n ps && !(List.range rs.length).any (secBad n ps rs))

theorem dflt_sl (x : Option (List Int)) : Option.getD x (dflt (CTy.sl (2 : TypeId) (CTy.int IntKind.i64))) = x.getD [] := rfl

theorem w_specSec (n mode day : Int) (ps : List Int) (fs : List (Int × Int × Int)) (rs : List (List Int)) (lf : List (Int × Int × Int)) (pl ls : List (Int × Int)) (hl : rs.length = ps.length) (hn : rs.length ≤ 9223372036854775807) (hA : ∀ x ∈ rs, x.length ≤ 9223372036854775807) (hR : ∀ x ∈ rs, areR x = true) :
    lp_spec_IsSecure_l0.fin ((0 : Int), n, mode, day, ps, fs, rs, lf, pl, ls) = true ∧ (lp_spec_IsSecure_l0.res ((0 : Int), n, mode, day, ps, fs, rs, lf, pl, ls)).1 = bif (List.range rs.length).any (secBad n ps rs) then 0 else 1 := by
  refine Lp.scan lp_spec_IsSecure_l0 (fun b => ((b : Int), n, mode, day, ps, fs, rs, lf, pl, ls)) rs.length (secBad n ps rs) 1 (by simp only [lp_spec_IsSecure_l0]; omega) (fun b hb => ?_) ?_
  · have hdec : ltI (b : Int) (rs.length : Int) = true := ltI_t (by omega)
    have hdec2 : ltI (b : Int) (ps.length : Int) = true := ltI_t (by omega)
    have hw : IntKind.i64.wrap ((b : Int) + 1) = ((b + 1 : Nat) : Int) := by rw [wrap_i64 (by omega) (by omega)]; omega
    have hnn : leI (0 : Int) (b : Int) = true := leI_t (by omega)
    have hltd : ltN b rs.length = true := ltN_t (by omega)
    have hltd2 : ltN b ps.length = true := ltN_t (by omega)
    have hx : rs[b]? = some rs[b] := List.getElem?_eq_getElem hb
    have hm : rs[b] ∈ rs := List.getElem_mem hb
    have h6 : leN (spec_IsSecure_l0_a0 (b : Int) n ps rs).length 9223372036854775807 = true := leN_t (by
      simp only [spec_IsSecure_l0_a0, Int.toNat_natCast, dflt_sl, hx, Option.getD_some]
      cases spec_l33Stands_0 n (b : Int) ps with
      | true => exact Nat.zero_le _
      | false => exact hA _ hm)
    have i2 : spec_IsSecure_l0_6 (b : Int) n ps rs = secBad n ps rs b := by
      simp only [spec_IsSecure_l0_6, spec_IsSecure_l0_a0, Int.toNat_natCast, dflt_sl, hx, Option.getD_some, secBad]
      have e : loop_example_g00916_impl_Ride_isInStation_0 n (b : Int) ps = spec_l33Stands_0 n (b : Int) ps := rfl
      rw [e]
      cases spec_l33Stands_0 n (b : Int) ps with
      | true => rfl
      | false =>
        show (!(areR rs[b] && lockedL rs[b])) = !lockedL rs[b]
        rw [hR _ hm, Bool.true_and]
    refine ⟨?_, ?_, ?_⟩
    · simp [lp_spec_IsSecure_l0, lt_spec_IsSecure_l0, LT.nds, allT, spec_IsSecure_l0_0, spec_IsSecure_l0_1, spec_IsSecure_l0_2, spec_IsSecure_l0_3, spec_IsSecure_l0_4, spec_IsSecure_l0_5, spec_l33Stands_1, hdec, hdec2, hnn, hltd, hltd2, h6]
    · simp [lp_spec_IsSecure_l0, lt_spec_IsSecure_l0, LT.each, spec_IsSecure_l0_7, hw]
    · simp only [lp_spec_IsSecure_l0, lt_spec_IsSecure_l0, LT.fn, spec_IsSecure_l0_0, hdec, i2, cond_true]
  · simp [lp_spec_IsSecure_l0, lt_spec_IsSecure_l0, LT.out, spec_IsSecure_l0_0]

theorem w_implSec (n mode day : Int) (ps : List Int) (fs : List (Int × Int × Int)) (rs : List (List Int)) (lf : List (Int × Int × Int)) (pl ls : List (Int × Int)) (hl : rs.length = ps.length) (hn : rs.length ≤ 9223372036854775807) (hA : ∀ x ∈ rs, x.length ≤ 9223372036854775807) :
    lp_impl_IsSecure_l0.fin ((0 : Int), (rs.length : Int), rs, n, mode, day, ps, fs, lf, pl, ls) = true ∧ (lp_impl_IsSecure_l0.res ((0 : Int), (rs.length : Int), rs, n, mode, day, ps, fs, lf, pl, ls)).1 = bif (List.range rs.length).any (secBad n ps rs) then 0 else 1 := by
  refine Lp.scan lp_impl_IsSecure_l0 (fun b => ((b : Int), (rs.length : Int), rs, n, mode, day, ps, fs, lf, pl, ls)) rs.length (secBad n ps rs) 1 (by simp only [lp_impl_IsSecure_l0]; omega) (fun b hb => ?_) ?_
  · have hdec : ltI (b : Int) (rs.length : Int) = true := ltI_t (by omega)
    have hdec2 : ltI (b : Int) (ps.length : Int) = true := ltI_t (by omega)
    have hw : IntKind.i64.wrap ((b : Int) + 1) = ((b + 1 : Nat) : Int) := by rw [wrap_i64 (by omega) (by omega)]; omega
    have hnn : leI (0 : Int) (b : Int) = true := leI_t (by omega)
    have hltd : ltN b rs.length = true := ltN_t (by omega)
    have hltd2 : ltN b ps.length = true := ltN_t (by omega)
    have hx : rs[b]? = some rs[b] := List.getElem?_eq_getElem hb
    have hm : rs[b] ∈ rs := List.getElem_mem hb
    have h6 : leN (impl_IsSecure_l0_a0 (b : Int) rs).length 9223372036854775807 = true := leN_t (by
      simp only [impl_IsSecure_l0_a0, Int.toNat_natCast, dflt_sl, hx, Option.getD_some]
      exact hA _ hm)
    have i2 : impl_IsSecure_l0_6 (b : Int) rs n ps = secBad n ps rs b := by
      simp only [impl_IsSecure_l0_6, impl_IsSecure_l0_a0, Int.toNat_natCast, dflt_sl, secBad]
    refine ⟨?_, ?_, ?_⟩
    · simp [lp_impl_IsSecure_l0, lt_impl_IsSecure_l0, LT.nds, allT, impl_IsSecure_l0_0, impl_IsSecure_l0_1, impl_IsSecure_l0_2, impl_IsSecure_l0_3, impl_IsSecure_l0_4, impl_IsSecure_l0_5, loop_example_g00916_impl_Ride_isInStation_1, hdec, hdec2, hnn, hltd, hltd2, h6]
    · simp [lp_impl_IsSecure_l0, lt_impl_IsSecure_l0, LT.each, impl_IsSecure_l0_7, hw]
    · simp only [lp_impl_IsSecure_l0, lt_impl_IsSecure_l0, LT.fn, impl_IsSecure_l0_0, hdec, i2, cond_true]
  · simp [lp_impl_IsSecure_l0, lt_impl_IsSecure_l0, LT.out, impl_IsSecure_l0_0]

theorem rsOk_areR {rs : List (List Int)} (h : rsOk rs = true) : ∀ x ∈ rs, areR x = true := by
  intro x hx
  simp only [rsOk, List.all_eq_true, Bool.and_eq_true] at h
  exact (h x hx).1

theorem specSecRide_ok (n mode day : Int) (ps : List Int) (fs : List (Int × Int × Int)) (rs : List (List Int)) (lf : List (Int × Int × Int)) (pl ls : List (Int × Int)) (h : rideN 9223372036854775807 ps fs rs lf pl ls = true) :
    spec_IsSecure_0 n mode day ps fs rs lf pl ls = secRide n ps fs rs lf mode pl ls day ∧ spec_IsSecure_1 n mode day ps fs rs lf pl ls = true := by
  obtain ⟨h1, h2, ⟨h3, h4⟩, h5, h6, h7⟩ := rideN_iff.1 h
  simp only [spec_IsSecure_0, spec_IsSecure_1, spec_IsSecure_a0, spec_IsSecure_a1, secRide, h, allT]
  cases ho : okRide n ps fs rs lf mode pl ls day with
  | false => simp
  | true =>
    obtain ⟨o1, o2, o3, o4, o5, o6, o7, o8, o9⟩ := okRide_iff.1 ho
    obtain ⟨w1, w2⟩ := w_specSec n mode day ps fs rs lf pl ls o3 h3 h4 (rsOk_areR o4)
    have e : isSf n ps = safeL n ps := by simp [isSf, o1]
    rw [w1, w2, e]
    cases safeL n ps <;> cases (List.range rs.length).any (secBad n ps rs) <;> simp [Nat.beq]

theorem implSecRide_ok (n mode day : Int) (ps : List Int) (fs : List (Int × Int × Int)) (rs : List (List Int)) (lf : List (Int × Int × Int)) (pl ls : List (Int × Int)) (h : rideN 9223372036854775807 ps fs rs lf pl ls = true) :
    impl_IsSecure_0 n mode day ps fs rs lf pl ls = secRide n ps fs rs lf mode pl ls day ∧ impl_IsSecure_1 n mode day ps fs rs lf pl ls = true := by
  obtain ⟨h1, h2, ⟨h3, h4⟩, h5, h6, h7⟩ := rideN_iff.1 h
  simp only [impl_IsSecure_0, impl_IsSecure_1, impl_IsSecure_a0, impl_IsSecure_a1, secRide, h, allT]
  cases ho : okRide n ps fs rs lf mode pl ls day with
  | false => simp
  | true =>
    obtain ⟨o1, o2, o3, o4, o5, o6, o7, o8, o9⟩ := okRide_iff.1 ho
    obtain ⟨w1, w2⟩ := w_implSec n mode day ps fs rs lf pl ls o3 h3 h4
    rw [w1, w2, o1]
    cases safeL n ps <;> cases (List.range rs.length).any (secBad n ps rs) <;> simp [Nat.beq]

def N_spec_IsSecure : List SV → List Entry → Option Out
  | [.one ⟨true, [.val (.int .i64 x0), .ref 0, .ref 1, .ref 2, .ref 3, .val (.int .i64 x1), .ref 4, .ref 5, .val (.int .i64 x2)]⟩], [.row false 2 (.int .i64) x3, .row false 78 (.pair (.int .i64) (.pair (.int .i64) (.int .i64))) x4, .row false 22 (.sl 2 (.int .i64)) x5, .row false 82 (.pair (.int .i64) (.pair (.int .i64) (.int .i64))) x6, .row false 86 (.pair (.int .i64) (.int .i64)) x7, .row false 90 (.pair (.int .i64) (.int .i64)) x8] => some ⟨(.one ⟨false, [(.val (.bool (secRide x0 x3 x4 x5 x6 x1 x7 x8 x2)))]⟩), [(.row false 2 (CTy.int IntKind.i64) x3), (.row false 78 (CTy.pair (CTy.int IntKind.i64) (CTy.pair (CTy.int IntKind.i64) (CTy.int IntKind.i64))) x4), (.row false 22 (CTy.sl (2 : TypeId) (CTy.int IntKind.i64)) x5), (.row false 82 (CTy.pair (CTy.int IntKind.i64) (CTy.pair (CTy.int IntKind.i64) (CTy.int IntKind.i64))) x6), (.row false 86 (CTy.pair (CTy.int IntKind.i64) (CTy.int IntKind.i64)) x7), (.row false 90 (CTy.pair (CTy.int IntKind.i64) (CTy.int IntKind.i64)) x8)], [], [rideN 9223372036854775807 x3 x4 x5 x6 x7 x8]⟩
  | _, _ => none

def n_spec_IsSecure : PF Tryz.prog := PF.alt p_spec_IsSecure N_spec_IsSecure (by
  intro args es o h hnd; unfold N_spec_IsSecure at h; split at h
  · rename_i x0 x1 x2 x3 x4 x5 x6 x7 x8
    cases h
    have hnd := nd_fst hnd
    have hh := specSecRide_ok x0 x1 x2 x3 x4 x5 x6 x7 x8 hnd
    obtain ⟨e0, en⟩ := hh
    exact altok rfl (nd_one en) (by simp only [e0] <;> rfl) rfl rfl
  · cases h)

def N_impl_IsSecure : List SV → List Entry → Option Out
  | [.one ⟨true, [.val (.int .i64 x0), .ref 0, .ref 1, .ref 2, .ref 3, .val (.int .i64 x1), .ref 4, .ref 5, .val (.int .i64 x2)]⟩], [.row false 2 (.int .i64) x3, .row false 78 (.pair (.int .i64) (.pair (.int .i64) (.int .i64))) x4, .row false 22 (.sl 2 (.int .i64)) x5, .row false 82 (.pair (.int .i64) (.pair (.int .i64) (.int .i64))) x6, .row false 86 (.pair (.int .i64) (.int .i64)) x7, .row false 90 (.pair (.int .i64) (.int .i64)) x8] => some ⟨(.one ⟨false, [(.val (.bool (secRide x0 x3 x4 x5 x6 x1 x7 x8 x2)))]⟩), [(.row false 2 (CTy.int IntKind.i64) x3), (.row false 78 (CTy.pair (CTy.int IntKind.i64) (CTy.pair (CTy.int IntKind.i64) (CTy.int IntKind.i64))) x4), (.row false 22 (CTy.sl (2 : TypeId) (CTy.int IntKind.i64)) x5), (.row false 82 (CTy.pair (CTy.int IntKind.i64) (CTy.pair (CTy.int IntKind.i64) (CTy.int IntKind.i64))) x6), (.row false 86 (CTy.pair (CTy.int IntKind.i64) (CTy.int IntKind.i64)) x7), (.row false 90 (CTy.pair (CTy.int IntKind.i64) (CTy.int IntKind.i64)) x8)], [], [rideN 9223372036854775807 x3 x4 x5 x6 x7 x8]⟩
  | _, _ => none

def n_impl_IsSecure : PF Tryz.prog := PF.alt p_impl_IsSecure N_impl_IsSecure (by
  intro args es o h hnd; unfold N_impl_IsSecure at h; split at h
  · rename_i x0 x1 x2 x3 x4 x5 x6 x7 x8
    cases h
    have hnd := nd_fst hnd
    have hh := implSecRide_ok x0 x1 x2 x3 x4 x5 x6 x7 x8 hnd
    obtain ⟨e0, en⟩ := hh
    exact altok rfl (nd_one en) (by simp only [e0] <;> rfl) rfl rfl
  · cases h)

end Go.SX

/- The laws of rides, in plain words: secure. -/
import Derived.Test.YtjhgiognlkmehaaGreatRx
namespace Go.SX
open Go.Proofs
set_option maxRecDepth 100000

def decV (k : Int) (n : Nat) : Int := bif ltI (k - (n : Int)) 0 then -1 else k - (n : Int)

theorem decV_small {k : Int} {n : Nat} (h : ltI (decV k n) 0 = false) : (n : Int) ≤ k ∧ 0 ≤ decV k n ∧ decV k n ≤ k := by
  have h0 := ltI_not.1 h
  unfold decV at h0 ⊢
  cases hz : ltI (k - (n : Int)) 0 with
  | true => rw [hz] at h0; simp at h0
  | false => have := ltI_not.1 hz; simp; omega

theorem sz_dec {k : Int} {n : Nat} (hk : 0 ≤ k ∧ k ≤ 1048576) (hn : n ≤ 9223372036854775807) : (bif ltI (IntKind.i64.wrap (k - (n : Int))) 0 then (-1 : Int) else IntKind.i64.wrap (k - (n : Int))) = decV k n := by
  rw [wrap_i64 (by omega) (by omega)]; rfl

/-- A ride that is not too great has short lists, and its size is had without a fault. -/
theorem szRide_ok (ps : List Int) (fs : List (Int × Int × Int)) (rs : List (List Int)) (lf : List (Int × Int × Int)) (pl ls : List (Int × Int)) (h : rideN 9223372036854775807 ps fs rs lf pl ls = true) :
    laws_szRide_1 1048576 ps fs rs = true ∧ (ltI (laws_szRide_0 1048576 ps fs rs lf pl ls) 0 = false → rideN 1048576 ps fs rs lf pl ls = true) := by
  obtain ⟨h1, h2, ⟨h3, h4⟩, h5, h6, h7⟩ := rideN_iff.1 h
  have q1 : leN ps.length 9223372036854775807 = true := leN_t h1
  have q3 : ssOk 9223372036854775807 rs = true := ss_iff.2 ⟨h3, h4⟩
  have e1 : szV 1048576 ps = decV 1048576 ps.length := rfl
  have p1 : leI (-1) 1048576 = true := leI_t (by omega)
  have p2 : leI 1048576 1048576 = true := leI_t (by omega)
  have n1 : ltI (-1) 0 = true := ltI_t (by omega)
  simp only [laws_szRide_1, laws_szRide_0, laws_szRide_a0, e1, q1, q3, p1, p2, allT, Bool.and_true, Bool.true_and, cond_true]
  cases a1 : ltI (decV 1048576 ps.length) 0 with
  | true => simp [n1]
  | false =>
    obtain ⟨b1, c1, d1⟩ := decV_small a1
    have e2 : laws_szSensorFaultS_0 (decV 1048576 ps.length) fs = decV (decV 1048576 ps.length) fs.length := sz_dec ⟨c1, d1⟩ h2
    rw [e2]
    cases a2 : ltI (decV (decV 1048576 ps.length) fs.length) 0 with
    | true => simp [n1]
    | false =>
      obtain ⟨b2, c2, d2⟩ := decV_small a2
      have p3 : leI (-1) (decV (decV 1048576 ps.length) fs.length) = true := leI_t (by omega)
      have p4 : leI (decV (decV 1048576 ps.length) fs.length) 1048576 = true := leI_t (by omega)
      rw [p3, p4]
      refine ⟨rfl, ?_⟩
      simp only [cond_false]
      cases a3 : ltI (szSS (decV (decV 1048576 ps.length) fs.length) rs) 0 with
      | true => simp [n1]
      | false =>
        obtain ⟨b3, c3, d3⟩ := szSS_small (by omega) a3
        obtain ⟨b3, b4⟩ := ss_iff.1 b3
        have e4 : laws_szLockFaultS_0 (szSS (decV (decV 1048576 ps.length) fs.length) rs) lf = decV (szSS (decV (decV 1048576 ps.length) fs.length) rs) lf.length := sz_dec ⟨c3, by omega⟩ h5
        rw [e4, cond_false]
        cases a4 : ltI (decV (szSS (decV (decV 1048576 ps.length) fs.length) rs) lf.length) 0 with
        | true => simp [n1]
        | false =>
          obtain ⟨b5, c5, d5⟩ := decV_small a4
          have e5 : laws_szTaskS_0 (decV (szSS (decV (decV 1048576 ps.length) fs.length) rs) lf.length) pl = decV (decV (szSS (decV (decV 1048576 ps.length) fs.length) rs) lf.length) pl.length := sz_dec ⟨c5, by omega⟩ h6
          rw [e5, cond_false]
          cases a5 : ltI (decV (decV (szSS (decV (decV 1048576 ps.length) fs.length) rs) lf.length) pl.length) 0 with
          | true => simp [n1]
          | false =>
            obtain ⟨b6, c6, d6⟩ := decV_small a5
            have e6 : laws_szLockS_0 (decV (decV (szSS (decV (decV 1048576 ps.length) fs.length) rs) lf.length) pl.length) ls = decV (decV (decV (szSS (decV (decV 1048576 ps.length) fs.length) rs) lf.length) pl.length) ls.length := sz_dec ⟨c6, by omega⟩ h7
            rw [e6, cond_false]
            cases a6 : ltI (decV (decV (decV (szSS (decV (decV 1048576 ps.length) fs.length) rs) lf.length) pl.length) ls.length) 0 with
            | true => simp [n1]
            | false =>
              obtain ⟨b7, c7, d7⟩ := decV_small a6
              exact fun _ => rideN_iff.2 ⟨by omega, by omega, ⟨b3, b4⟩, by omega, by omega, by omega⟩

theorem toRide_need (ps : List Int) (fs : List (Int × Int × Int)) (rs : List (List Int)) (lf : List (Int × Int × Int)) (pl ls : List (Int × Int)) (h : rideN 1048576 ps fs rs lf pl ls = true) : laws_toRide_0 ps fs rs lf pl ls = true := by
  simp only [rideN, Bool.and_eq_true] at h
  obtain ⟨h1, h2, h3, h4, h5, h6⟩ := h
  simp only [laws_toRide_0, allT, h1, h2, h3, h4, h5, h6, cond_true]

theorem eqRide_refl (n mode day : Int) (ps : List Int) (fs : List (Int × Int × Int)) (rs : List (List Int)) (lf : List (Int × Int × Int)) (pl ls : List (Int × Int)) (h : rideN 9223372036854775807 ps fs rs lf pl ls = true) :
    laws_eqRide_0 n mode day n mode day ps fs rs lf pl ls ps fs rs lf pl ls = true ∧ laws_eqRide_1 n mode n mode ps fs rs lf pl ls ps fs rs lf pl = true := by
  simp only [rideN, Bool.and_eq_true] at h
  obtain ⟨h1, h2, h3, h4, h5, h6⟩ := h
  have e1 : eqT n n ps ps = true := by simp [eqT, eqL]
  have e2 : eqFls fs fs = true := by simp [eqFls]
  have e3 : eqSS rs rs = true := by simp [eqSS]
  have e4 : eqFls lf lf = true := by simp [eqFls]
  have e5 : eqPr pl pl = true := by simp [eqPr]
  have e6 : eqPr ls ls = true := by simp [eqPr]
  simp [laws_eqRide_0, laws_eqRide_1, allT, e1, e2, e3, e4, e5, e6, h1, h2, h3, h4, h5, h6]

theorem rideN_of {ps : List Int} {fs : List (Int × Int × Int)} {rs : List (List Int)} {lf : List (Int × Int × Int)} {pl ls : List (Int × Int)} (h1 : ps.length ≤ maxLen) (h2 : fs.length ≤ maxLen) (h3 : rs.length ≤ maxLen) (h4 : ∀ x ∈ rs, x.length ≤ maxLen) (h5 : lf.length ≤ maxLen) (h6 : pl.length ≤ maxLen) (h7 : ls.length ≤ maxLen) : rideN 9223372036854775807 ps fs rs lf pl ls = true :=
  rideN_iff.2 ⟨h1, h2, ⟨h3, h4⟩, h5, h6, h7⟩

theorem law_IsSecure (n : Int) (ps : List Int) (fs : List (Int × Int × Int)) (rs : List (List Int)) (lf : List (Int × Int × Int)) (mode : Int) (pl ls : List (Int × Int)) (day : Int)
    (h1 : ps.length ≤ maxLen) (h2 : fs.length ≤ maxLen) (h3 : rs.length ≤ maxLen) (h4 : ∀ x ∈ rs, x.length ≤ maxLen) (h5 : lf.length ≤ maxLen) (h6 : pl.length ≤ maxLen) (h7 : ls.length ≤ maxLen) :
    laws_FnExactIsSecure_0 n mode day ps fs rs lf pl ls = true ∧ laws_FnExactIsSecure_1 n mode day ps fs rs lf pl ls = true := by
  have h := rideN_of h1 h2 h3 h4 h5 h6 h7
  obtain ⟨s1, s2⟩ := szRide_ok ps fs rs lf pl ls h
  obtain ⟨g1, g2⟩ := eqRide_refl n mode day ps fs rs lf pl ls h
  simp only [laws_FnExactIsSecure_0, laws_FnExactIsSecure_1, laws_FnExactIsSecure_a0, laws_FnExactIsSecure_a1, laws_FnExactIsSecure_a2, laws_FnExactIsSecure_a3, s1, g1, g2, h, allT, Bool.or_true, cond_true]
  cases hz : ltI (laws_szRide_0 1048576 ps fs rs lf pl ls) 0 with
  | true => simp
  | false => simp [toRide_need _ _ _ _ _ _ (s2 hz)]

end Go.SX

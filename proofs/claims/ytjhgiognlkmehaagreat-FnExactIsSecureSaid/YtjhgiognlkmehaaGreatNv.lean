/- Rides, in plain words: locked restraints. -/
import Derived.Test.YtjhgiognlkmehaaGreatRv
namespace Go.SX
open Go.Proofs
set_option maxRecDepth 100000

/-- All restraints are locked. -/
def lockedL (st : List Int) : Bool := st.all fun x => x == 2

def f_spec_l26Least_l0  (b : Int) : (Int) → Nat ⊕ (Int)
  | y1 => (.inr ((ifLt ((b)) y1 ((b)) y1)))

def st_spec_l26Least_l0 (y2 : List Int) (i : Nat) : (Int) → X_spec_l26Least_l0
  | y1 => (((i + 1 : Nat) : Int), y1, y2)

def pr_spec_l26Least_l0 : X_spec_l26Least_l0 → Int
  | (_, y1, _) => y1

theorem w_spec_l26Least_l0 (y2 : List Int) (y1 : Int) (hn : y2.length ≤ 9223372036854775807)  :
    lp_spec_l26Least_l0.fin ((1 : Int), y1, y2) = true ∧ lp_spec_l26Least_l0.res ((1 : Int), y1, y2) = ((walkL (f_spec_l26Least_l0) 0 (y2.drop 1) 0 y1).1, (st_spec_l26Least_l0 y2) (walkL (f_spec_l26Least_l0) 0 (y2.drop 1) 0 y1).2.1 (walkL (f_spec_l26Least_l0) 0 (y2.drop 1) 0 y1).2.2) := by
  have key := lp_spec_l26Least_l0.along (st_spec_l26Least_l0 y2) pr_spec_l26Least_l0 (f_spec_l26Least_l0) 0 (fun _ _ => True) (y2.drop 1) y1 (by trivial) (by simp only [lp_spec_l26Least_l0, st_spec_l26Least_l0, List.length_drop]; omega) (fun i b a hb hI => ?_) (fun a hI => ?_)
  · exact key
  · obtain y1 := a
    rw [List.getElem?_drop, Nat.add_comm] at hb
    have hlt := (List.getElem?_eq_some_iff.1 hb).1
    have hget : ∀ d, Option.getD y2[i + 1]? d = b := fun d => by rw [hb]; rfl
    have hw : IntKind.i64.wrap (((i + 1 : Nat) : Int) + 1) = ((i + 1 + 1 : Nat) : Int) := by rw [wrap_i64 (by omega) (by omega)]; omega
    have hdec : ltI ((i + 1 : Nat) : Int) (y2.length : Int) = true := ltI_t (by omega)
    have hnn : leI (0 : Int) ((i + 1 : Nat) : Int) = true := leI_t (by omega)
    have hltd : ltN (i + 1) y2.length = true := ltN_t hlt
    refine ⟨?_, ?_, ?_, ?_⟩
    · simp only [spec_l26Least_l0_a0, spec_l26Least_l0_0, spec_l26Least_l0_1, spec_l26Least_l0_2, spec_l26Least_l0_3, spec_l26Least_l0_4, lt_spec_l26Least_l0, lp_spec_l26Least_l0, LT.nds, allT, st_spec_l26Least_l0, Int.toNat_natCast, hdec, hnn, hltd, hget, cond_true]
    · simp only [spec_l26Least_l0_a0, spec_l26Least_l0_0, spec_l26Least_l0_1, spec_l26Least_l0_2, spec_l26Least_l0_3, spec_l26Least_l0_4, lt_spec_l26Least_l0, lp_spec_l26Least_l0, LT.each, st_spec_l26Least_l0, pr_spec_l26Least_l0, hw, and_self]
    · simp only [spec_l26Least_l0_a0, spec_l26Least_l0_0, spec_l26Least_l0_1, spec_l26Least_l0_2, spec_l26Least_l0_3, spec_l26Least_l0_4, lt_spec_l26Least_l0, lp_spec_l26Least_l0, LT.fn, st_spec_l26Least_l0, pr_spec_l26Least_l0, f_spec_l26Least_l0, Int.toNat_natCast, hdec, hnn, hltd, hget, cond_true, Bool.cond_self]
    · exact fun _ _ => trivial
  · obtain y1 := a
    simp only [spec_l26Least_l0_a0, spec_l26Least_l0_0, spec_l26Least_l0_1, spec_l26Least_l0_2, spec_l26Least_l0_3, spec_l26Least_l0_4, lt_spec_l26Least_l0, lp_spec_l26Least_l0, LT.out, st_spec_l26Least_l0, List.length_drop]; rw [show ltI (((y2.length - 1) + 1 : Nat) : Int) (y2.length : Int) = false from ltI_f (by omega)]; rfl

def f_slices_IndexFunc_int64_int64_q2301_l0  (b : Int) : (Unit) → Nat ⊕ (Unit)
  | _ => (bif ((impl_allLocked_1_q2302_0 (b))) then (.inl 0) else (.inr ()))

def st_slices_IndexFunc_int64_int64_q2301_l0 (y2 : List Int) (i : Nat) : (Unit) → X_slices_IndexFunc_int64_int64_q2301_l0
  | _ => ((i : Int), (↑(List.length y2) : Int), y2)

def pr_slices_IndexFunc_int64_int64_q2301_l0 : X_slices_IndexFunc_int64_int64_q2301_l0 → Unit
  | (_, _, _) => ()

theorem w_slices_IndexFunc_int64_int64_q2301_l0 (y2 : List Int)  (hn : y2.length ≤ 9223372036854775807)  :
    lp_slices_IndexFunc_int64_int64_q2301_l0.fin ((0 : Int), (↑(List.length y2) : Int), y2) = true ∧ lp_slices_IndexFunc_int64_int64_q2301_l0.res ((0 : Int), (↑(List.length y2) : Int), y2) = ((walkL (f_slices_IndexFunc_int64_int64_q2301_l0) 1 y2 0 ()).1, (st_slices_IndexFunc_int64_int64_q2301_l0 y2) (walkL (f_slices_IndexFunc_int64_int64_q2301_l0) 1 y2 0 ()).2.1 (walkL (f_slices_IndexFunc_int64_int64_q2301_l0) 1 y2 0 ()).2.2) := by
  have key := lp_slices_IndexFunc_int64_int64_q2301_l0.along (st_slices_IndexFunc_int64_int64_q2301_l0 y2) pr_slices_IndexFunc_int64_int64_q2301_l0 (f_slices_IndexFunc_int64_int64_q2301_l0) 1 (fun _ _ => True) y2 () (by trivial) (by simp only [lp_slices_IndexFunc_int64_int64_q2301_l0, st_slices_IndexFunc_int64_int64_q2301_l0]; omega) (fun i b a hb hI => ?_) (fun a hI => ?_)
  · exact key
  · obtain ⟨⟩ := a
    have hlt := (List.getElem?_eq_some_iff.1 hb).1
    have hget : ∀ d, Option.getD y2[i]? d = b := fun d => by rw [hb]; rfl
    have hw := wrap64 hlt hn
    have hdec : ltI (i : Int) (y2.length : Int) = true := ltI_t (by omega)
    have hnn : leI (0 : Int) (i : Int) = true := leI_t (by omega)
    have hltd : ltN i y2.length = true := ltN_t hlt
    refine ⟨?_, ?_, ?_, ?_⟩
    · simp [slices_IndexFunc_int64_int64_q2301_l0_0, slices_IndexFunc_int64_int64_q2301_l0_1, slices_IndexFunc_int64_int64_q2301_l0_2, slices_IndexFunc_int64_int64_q2301_l0_3, slices_IndexFunc_int64_int64_q2301_l0_4, slices_IndexFunc_int64_int64_q2301_l0_5, lt_slices_IndexFunc_int64_int64_q2301_l0, lp_slices_IndexFunc_int64_int64_q2301_l0, LT.nds, allT, st_slices_IndexFunc_int64_int64_q2301_l0, hdec, hnn, hltd, hget]
    · simp [slices_IndexFunc_int64_int64_q2301_l0_0, slices_IndexFunc_int64_int64_q2301_l0_1, slices_IndexFunc_int64_int64_q2301_l0_2, slices_IndexFunc_int64_int64_q2301_l0_3, slices_IndexFunc_int64_int64_q2301_l0_4, slices_IndexFunc_int64_int64_q2301_l0_5, lt_slices_IndexFunc_int64_int64_q2301_l0, lp_slices_IndexFunc_int64_int64_q2301_l0, LT.each, st_slices_IndexFunc_int64_int64_q2301_l0, pr_slices_IndexFunc_int64_int64_q2301_l0, hw]
    · simp only [slices_IndexFunc_int64_int64_q2301_l0_0, slices_IndexFunc_int64_int64_q2301_l0_1, slices_IndexFunc_int64_int64_q2301_l0_2, slices_IndexFunc_int64_int64_q2301_l0_3, slices_IndexFunc_int64_int64_q2301_l0_4, slices_IndexFunc_int64_int64_q2301_l0_5, lt_slices_IndexFunc_int64_int64_q2301_l0, lp_slices_IndexFunc_int64_int64_q2301_l0, LT.fn, st_slices_IndexFunc_int64_int64_q2301_l0, pr_slices_IndexFunc_int64_int64_q2301_l0, f_slices_IndexFunc_int64_int64_q2301_l0, Int.toNat_natCast, hdec, hnn, hltd, hget, cond_true, Bool.cond_self]
    · exact fun _ _ => trivial
  · obtain ⟨⟩ := a
    simp [slices_IndexFunc_int64_int64_q2301_l0_0, slices_IndexFunc_int64_int64_q2301_l0_1, slices_IndexFunc_int64_int64_q2301_l0_2, slices_IndexFunc_int64_int64_q2301_l0_3, slices_IndexFunc_int64_int64_q2301_l0_4, slices_IndexFunc_int64_int64_q2301_l0_5, lt_slices_IndexFunc_int64_int64_q2301_l0, lp_slices_IndexFunc_int64_int64_q2301_l0, LT.out, st_slices_IndexFunc_int64_int64_q2301_l0]

theorem areR_iff {st : List Int} : areR st = true ↔ (1 ≤ st.length ∧ st.length ≤ 12) ∧ ∀ v ∈ st, 0 ≤ v ∧ v ≤ 2 := by
  simp only [areR, Bool.and_eq_true, inR_iff, List.all_eq_true]
  constructor
  · rintro ⟨h1, h2⟩; exact ⟨by omega, h2⟩
  · rintro ⟨h1, h2⟩; exact ⟨by omega, h2⟩

theorem least_ok (st : List Int) (h : areR st = true) : (spec_l26Least_0 st == 2) = lockedL st ∧ spec_l26Least_1 st = true := by
  obtain ⟨h1, h2⟩ := areR_iff.1 h
  match st, h1, h2 with
  | x :: xs, h1, h2 =>
    have hx := h2 x (by simp)
    obtain ⟨w1, w2⟩ := w_spec_l26Least_l0 (x :: xs) x (by omega)
    rw [walk_gather (f := f_spec_l26Least_l0) (g := fun m b => bif ltI b m then b else m) (fun b a => by simp only [f_spec_l26Least_l0, ifLt_eq])] at w2
    have e0 : Option.getD (x :: xs)[Int.toNat 0]? 0 = x := rfl
    refine ⟨?_, ?_⟩
    · simp only [spec_l26Least_0, spec_l26Least_a0, e0, w2, st_spec_l26Least_l0, List.drop_one, List.tail_cons]
      rw [least_two xs x hx.1 hx.2 fun y hy => h2 y (by simp [hy])]
      rfl
    · simp only [spec_l26Least_1, spec_l26Least_a0, e0, w1, allT]
      simp

theorem specLocked_ok (st : List Int) (h : leN st.length 9223372036854775807 = true) : spec_AllLocked_0 st = (areR st && lockedL st) ∧ spec_AllLocked_1 st = true := by
  simp only [spec_AllLocked_0, spec_AllLocked_1, allT, h]
  cases ha : areR st with
  | false => simp
  | true =>
    obtain ⟨e1, e2⟩ := least_ok st ha
    simp [e1, e2]

theorem implLocked_ok (st : List Int) (h : leN st.length 9223372036854775807 = true) : impl_allLocked_0 st = lockedL st ∧ impl_allLocked_1 st = true := by
  obtain ⟨w1, w2⟩ := w_slices_IndexFunc_int64_int64_q2301_l0 st (leN_iff.1 h)
  rw [walk_stop (P := fun v => v != 2) (j := 0) (fun v => by simp only [f_slices_IndexFunc_int64_int64_q2301_l0, impl_allLocked_1_q2302_0])] at w2
  have e5 : (st.any fun v => v != 2) = !lockedL st := by simp [lockedL, List.all_eq_not_any_not, bne]
  rw [e5] at w2
  simp only [impl_allLocked_0, impl_allLocked_1, slices_ContainsFunc_int64_int64_q2300_0, slices_ContainsFunc_int64_int64_q2300_1, slices_IndexFunc_int64_int64_q2301_0, slices_IndexFunc_int64_int64_q2301_1, slices_IndexFunc_int64_int64_q2301_a0, w1, w2, allT, st_slices_IndexFunc_int64_int64_q2301_l0]
  cases lockedL st with
  | true => exact ⟨rfl, rfl⟩
  | false =>
    simp only [Bool.not_false, cond_true, Nat.beq]
    rw [leI_t (by omega)]; simp

def N_spec_AllLocked : List SV → List Entry → Option Out
  | [.one ⟨false, [.ref 0]⟩], [.row false 2 (.int .i64) x0] => some ⟨(.one ⟨false, [(.val (.bool (areR x0 && lockedL x0)))]⟩), [(.row false 2 (CTy.int IntKind.i64) x0)], [], [leN x0.length 9223372036854775807]⟩
  | _, _ => none

def n_spec_AllLocked : PF Tryz.prog := PF.alt p_spec_AllLocked N_spec_AllLocked (by
  intro args es o h hnd; unfold N_spec_AllLocked at h; split at h
  · rename_i x0
    cases h
    have hnd := nd_fst hnd
    have hh := specLocked_ok x0 hnd
    obtain ⟨e0, en⟩ := hh
    exact altok rfl (nd_one en) (by simp only [e0] <;> rfl) rfl rfl
  · cases h)

def N_impl_allLocked : List SV → List Entry → Option Out
  | [.one ⟨false, [.ref 0]⟩], [.row false 2 (.int .i64) x0] => some ⟨(.one ⟨false, [(.val (.bool (lockedL x0)))]⟩), [(.row false 2 (CTy.int IntKind.i64) x0)], [], [leN x0.length 9223372036854775807]⟩
  | _, _ => none

def n_impl_allLocked : PF Tryz.prog := PF.alt p_impl_allLocked N_impl_allLocked (by
  intro args es o h hnd; unfold N_impl_allLocked at h; split at h
  · rename_i x0
    cases h
    have hnd := nd_fst hnd
    have hh := implLocked_ok x0 hnd
    obtain ⟨e0, en⟩ := hh
    exact altok rfl (nd_one en) (by simp only [e0] <;> rfl) rfl rfl
  · cases h)

end Go.SX

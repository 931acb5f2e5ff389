/- Traffic, in plain words: safe traffics. -/
import Derived.Test.YtjhgiognlkmehaaGreatRd
namespace Go.SX
open Go.Proofs
set_option maxRecDepth 100000

/-- No two trains use one block. -/
def safeL (n : Int) (ps : List Int) : Bool := (List.range n.toNat).all fun b => leI (cntB n ps (b : Int) : Int) 1
def isSf (n : Int) (ps : List Int) : Bool := isT n ps && safeL n ps

def f_spec_IsSafeTraffic_l0 (y1 : Int) (y2 : List Int) (b : Nat) : (Unit) → Nat ⊕ (Unit)
  | _ => (bif ((ltI (1 : Int) (↑(cntB y1 y2 (↑b : Int)) : Int))) then (.inl 0) else (.inr ()))

def st_spec_IsSafeTraffic_l0 (y1 : Int) (y2 : List Int) (i : Nat) : (Unit) → X_spec_IsSafeTraffic_l0
  | _ => ((i : Int), y1, y2)

def pr_spec_IsSafeTraffic_l0 : X_spec_IsSafeTraffic_l0 → Unit
  | (_, _, _) => ()

theorem w_spec_IsSafeTraffic_l0 (y1 : Int) (y2 : List Int)  (hn : y1 ≤ 9223372036854775807) (hT : isT y1 y2 = true) :
    lp_spec_IsSafeTraffic_l0.fin ((0 : Int), y1, y2) = true ∧ lp_spec_IsSafeTraffic_l0.res ((0 : Int), y1, y2) = ((walkL (f_spec_IsSafeTraffic_l0 y1 y2) 1 (List.range y1.toNat) 0 ()).1, (st_spec_IsSafeTraffic_l0 y1 y2) (walkL (f_spec_IsSafeTraffic_l0 y1 y2) 1 (List.range y1.toNat) 0 ()).2.1 (walkL (f_spec_IsSafeTraffic_l0 y1 y2) 1 (List.range y1.toNat) 0 ()).2.2) := by
  have key := lp_spec_IsSafeTraffic_l0.along (st_spec_IsSafeTraffic_l0 y1 y2) pr_spec_IsSafeTraffic_l0 (f_spec_IsSafeTraffic_l0 y1 y2) 1 (fun _ _ => True) (List.range y1.toNat) () (by trivial) (by simp only [lp_spec_IsSafeTraffic_l0, st_spec_IsSafeTraffic_l0, List.length_range]; omega) (fun i b a hb hI => ?_) (fun a hI => ?_)
  · exact key
  · obtain ⟨⟩ := a
    obtain ⟨rfl, hlt⟩ := range_get hb
    have hw : IntKind.i64.wrap ((b : Int) + 1) = ((b + 1 : Nat) : Int) := by rw [wrap_i64 (by omega) (by omega)]; omega
    have hdec : ltI (b : Int) y1 = true := ltI_t (by omega)
    have hnn : leI (0 : Int) (b : Int) = true := leI_t (by omega)
    refine ⟨?_, ?_, ?_, ?_⟩
    · simp [spec_IsSafeTraffic_l0_0, spec_IsSafeTraffic_l0_1, spec_IsSafeTraffic_l0_2, spec_IsSafeTraffic_l0_3, lt_spec_IsSafeTraffic_l0, lp_spec_IsSafeTraffic_l0, LT.nds, allT, st_spec_IsSafeTraffic_l0, hdec, hnn, hT]
    · simp [spec_IsSafeTraffic_l0_0, spec_IsSafeTraffic_l0_1, spec_IsSafeTraffic_l0_2, spec_IsSafeTraffic_l0_3, lt_spec_IsSafeTraffic_l0, lp_spec_IsSafeTraffic_l0, LT.each, st_spec_IsSafeTraffic_l0, pr_spec_IsSafeTraffic_l0, hw, hT]
    · simp only [spec_IsSafeTraffic_l0_0, spec_IsSafeTraffic_l0_1, spec_IsSafeTraffic_l0_2, spec_IsSafeTraffic_l0_3, lt_spec_IsSafeTraffic_l0, lp_spec_IsSafeTraffic_l0, LT.fn, st_spec_IsSafeTraffic_l0, pr_spec_IsSafeTraffic_l0, f_spec_IsSafeTraffic_l0, Int.toNat_natCast, hdec, hnn, cond_true, Bool.cond_self, hT]
    · exact fun _ _ => trivial
  · obtain ⟨⟩ := a
    simp only [spec_IsSafeTraffic_l0_0, spec_IsSafeTraffic_l0_1, spec_IsSafeTraffic_l0_2, spec_IsSafeTraffic_l0_3, lt_spec_IsSafeTraffic_l0, lp_spec_IsSafeTraffic_l0, LT.out, st_spec_IsSafeTraffic_l0, List.length_range, ltI_toNat, ltI_down, cond_false]

theorem not_le_lt (a b : Int) : (!leI a b) = ltI b a := by
  cases h : leI a b with
  | true => have := leI_iff.1 h; exact (ltI_f (by omega)).symm
  | false => have := leI_not.1 h; exact (ltI_t (by omega)).symm

theorem specSafe_ok (n : Int) (ps : List Int) : spec_IsSafeTraffic_0 n ps = isSf n ps ∧ spec_IsSafeTraffic_1 n ps = true := by
  simp only [spec_IsSafeTraffic_a0, spec_IsSafeTraffic_0, spec_IsSafeTraffic_1, isSf]
  cases hT : isT n ps with
  | false => simp [allT]
  | true =>
    have h1 := (isT_iff.1 hT).1
    obtain ⟨w1, w2⟩ := w_spec_IsSafeTraffic_l0 n ps (by omega) hT
    rw [walk_stop (P := fun b => !leI (cntB n ps ((b : Nat) : Int) : Int) 1) (j := 0) (fun b => by simp only [f_spec_IsSafeTraffic_l0, not_le_lt])] at w2
    have e5 : ((List.range n.toNat).any fun b => !leI (cntB n ps ((b : Nat) : Int) : Int) 1) = !safeL n ps := by simp [safeL, List.all_eq_not_any_not]
    rw [e5] at w2
    simp only [w1, w2, allT]
    cases safeL n ps <;> simp <;> rfl

def N_spec_IsSafeTraffic : List SV → List Entry → Option Out
  | [.one ⟨true, [.val (.int .i64 x0), .ref 0]⟩], [.row false 2 (.int .i64) x1] => some ⟨(.one ⟨false, [(.val (.bool (isSf x0 x1)))]⟩), [(.row false 2 (CTy.int IntKind.i64) x1)], [], []⟩
  | _, _ => none

def n_spec_IsSafeTraffic : PF Tryz.prog := PF.alt p_spec_IsSafeTraffic N_spec_IsSafeTraffic (by
  intro args es o h hnd; unfold N_spec_IsSafeTraffic at h; split at h
  · rename_i x0 x1
    cases h
    have hh := specSafe_ok x0 x1
    obtain ⟨e0, en⟩ := hh
    exact altok rfl (nd_one en) (by simp only [e0] <;> rfl) rfl rfl
  · cases h)

end Go.SX

/- Traffic, in plain words: what small functions come to. -/
import Derived.Test.YtepaifhehlpbaaaDoorRa
namespace Go.SX
open Go.Proofs
set_option maxRecDepth 100000

def inR (a lo hi : Int) : Bool := leI lo a && leI a hi
def eqL (xs ys : List Int) : Bool := decide (xs = ys)

theorem eqL_refl (xs : List Int) : eqL xs xs = true := by simp [eqL]

theorem inR_iff {a lo hi : Int} : inR a lo hi = true ↔ lo ≤ a ∧ a ≤ hi := by simp [inR]

theorem inR_eq (a lo hi : Int) : (bif leI lo a then leI a hi else false) = inR a lo hi := by
  unfold inR; cases leI lo a <;> rfl

def f_laws_likeInts_l0 (y1 : List Int) (y2 : List Int) (b : Nat) : (Unit) → Nat ⊕ (Unit)
  | _ => (bif ((Option.getD y1[b]? (0 : Int) != Option.getD y2[b]? (0 : Int))) then (.inl 0) else (.inr ()))

def st_laws_likeInts_l0 (y1 : List Int) (y2 : List Int) (i : Nat) : (Unit) → X_laws_likeInts_l0
  | _ => ((i : Int), y1, y2)

def pr_laws_likeInts_l0 : X_laws_likeInts_l0 → Unit
  | (_, _, _) => ()

theorem w_laws_likeInts_l0 (y1 : List Int) (y2 : List Int)  (hn : y1.length ≤ 9223372036854775807) (he : y2.length = y1.length) :
    lp_laws_likeInts_l0.fin ((0 : Int), y1, y2) = true ∧ lp_laws_likeInts_l0.res ((0 : Int), y1, y2) = ((walkL (f_laws_likeInts_l0 y1 y2) 1 (List.range y1.length) 0 ()).1, (st_laws_likeInts_l0 y1 y2) (walkL (f_laws_likeInts_l0 y1 y2) 1 (List.range y1.length) 0 ()).2.1 (walkL (f_laws_likeInts_l0 y1 y2) 1 (List.range y1.length) 0 ()).2.2) := by
  have key := lp_laws_likeInts_l0.along (st_laws_likeInts_l0 y1 y2) pr_laws_likeInts_l0 (f_laws_likeInts_l0 y1 y2) 1 (fun _ _ => True) (List.range y1.length) () (by trivial) (by simp only [lp_laws_likeInts_l0, st_laws_likeInts_l0, List.length_range]; omega) (fun i b a hb hI => ?_) (fun a hI => ?_)
  · exact key
  · obtain ⟨⟩ := a
    obtain ⟨rfl, hlt⟩ := range_get hb
    have hw : IntKind.i64.wrap ((b : Int) + 1) = ((b + 1 : Nat) : Int) := by rw [wrap_i64 (by omega) (by omega)]; omega
    have hdec : ltI (b : Int) (y1.length : Int) = true := ltI_t (by omega)
    have hnn : leI (0 : Int) (b : Int) = true := leI_t (by omega)
    have hltd : ltN b y1.length = true := ltN_t (by omega)
    refine ⟨?_, ?_, ?_, ?_⟩
    · simp [laws_likeInts_l0_0, laws_likeInts_l0_1, laws_likeInts_l0_2, laws_likeInts_l0_3, laws_likeInts_l0_4, laws_likeInts_l0_5, laws_likeInts_l0_6, lt_laws_likeInts_l0, lp_laws_likeInts_l0, LT.nds, allT, st_laws_likeInts_l0, hdec, hnn, hltd, he]
    · simp [laws_likeInts_l0_0, laws_likeInts_l0_1, laws_likeInts_l0_2, laws_likeInts_l0_3, laws_likeInts_l0_4, laws_likeInts_l0_5, laws_likeInts_l0_6, lt_laws_likeInts_l0, lp_laws_likeInts_l0, LT.each, st_laws_likeInts_l0, pr_laws_likeInts_l0, hw, he]
    · simp only [laws_likeInts_l0_0, laws_likeInts_l0_1, laws_likeInts_l0_2, laws_likeInts_l0_3, laws_likeInts_l0_4, laws_likeInts_l0_5, laws_likeInts_l0_6, lt_laws_likeInts_l0, lp_laws_likeInts_l0, LT.fn, st_laws_likeInts_l0, pr_laws_likeInts_l0, f_laws_likeInts_l0, Int.toNat_natCast, hdec, cond_true]
    · exact fun _ _ => trivial
  · obtain ⟨⟩ := a
    simp [laws_likeInts_l0_0, laws_likeInts_l0_1, laws_likeInts_l0_2, laws_likeInts_l0_3, laws_likeInts_l0_4, laws_likeInts_l0_5, laws_likeInts_l0_6, lt_laws_likeInts_l0, lp_laws_likeInts_l0, LT.out, st_laws_likeInts_l0, List.length_range]

/-! ### Copies, comparisons, marks -/

theorem likeInts_ok (xs ys : List Int) (hn : leN xs.length 9223372036854775807 = true) : laws_likeInts_0 xs ys = eqL xs ys ∧ laws_likeInts_1 xs ys = true := by
  have hn := leN_iff.1 hn
  unfold eqL
  by_cases hl : ys.length = xs.length
  · obtain ⟨w1, w2⟩ := w_laws_likeInts_l0 xs ys hn hl
    have ha := any_ne (d := (0 : Int)) hl (P := fun b => Option.getD xs[b]? 0 != Option.getD ys[b]? 0) (fun b => by simp [bne, BEq.beq])
    rw [walk_stop (P := fun b => Option.getD xs[b]? 0 != Option.getD ys[b]? 0) (j := 0) (fun b => rfl), ha] at w2
    simp only [laws_likeInts_a0, laws_likeInts_a1, laws_likeInts_0, laws_likeInts_1, w1, w2, allT]
    by_cases he : xs = ys
    · subst he; simp; decide
    · simp [he, hl]
  · have hne : xs ≠ ys := fun h => hl (by rw [h])
    simp [laws_likeInts_a0, laws_likeInts_a1, laws_likeInts_0, laws_likeInts_1, allT, hne]
    omega

def N_laws_likeInts : List SV → List Entry → Option Out
  | [.one ⟨false, [.ref 0]⟩, .one ⟨false, [.ref 1]⟩], [.row false 2 (.int .i64) x0, .row false 2 (.int .i64) x1] => some ⟨(.one ⟨false, [(.val (.bool (eqL x0 x1)))]⟩), [(.row false 2 (CTy.int IntKind.i64) x0), (.row false 2 (CTy.int IntKind.i64) x1)], [], [leN x0.length 9223372036854775807]⟩
  | _, _ => none

def n_laws_likeInts : PF Tryd.prog := PF.alt p_laws_likeInts N_laws_likeInts (by
  intro args es o h hnd; unfold N_laws_likeInts at h; split at h
  · rename_i x0 x1
    cases h
    have hnd := nd_fst hnd
    have hh := likeInts_ok x0 x1 hnd
    obtain ⟨e0, en⟩ := hh
    exact altok rfl (nd_one en) (by simp only [e0] <;> rfl) rfl rfl
  · cases h)

/-! ### Valid traffics -/

theorem own_ok (xs : List Int) (h : leN xs.length 1048576 = true) : spec_l01Own_0 xs = true := by
  have h := leN_iff.1 h
  simp [spec_l01Own_0, allT]
  omega

def N_spec_l01Own : List SV → List Entry → Option Out
  | [.one ⟨false, [.ref 0]⟩], [.row false 2 (.int .i64) x0] => some ⟨(.one ⟨false, [(.ref 1)]⟩), [(.row false 2 (CTy.int IntKind.i64) x0)], [(.row true 2 (CTy.int IntKind.i64) x0)], [leN x0.length 1048576]⟩
  | _, _ => none

def n_spec_l01Own : PF Tryd.prog := PF.alt p_spec_l01Own N_spec_l01Own (by
  intro args es o h hnd; unfold N_spec_l01Own at h; split at h
  · rename_i x0
    cases h
    have hnd := nd_fst hnd
    have hh := own_ok x0 hnd
    have en := hh
    exact altok rfl (nd_one en) rfl rfl rfl
  · cases h)

/-! ### Uses -/

end Go.SX

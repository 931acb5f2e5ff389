/- Traffic, in plain words: what small functions come to. -/
import Derived.Test.YtepaifhehlpbaaaDoorRa
namespace Go.SX
open Go.Proofs
set_option maxRecDepth 100000

def inR (a lo hi : Int) : Bool := leI lo a && leI a hi
def eqL (xs ys : List Int) : Bool := decide (xs = ys)

theorem eqL_refl (xs : List Int) : eqL xs xs = true := by simp [eqL]

theorem inR_iff {a lo hi : Int} : inR a lo hi = true ↔ lo ≤ a ∧ a ≤ hi := by simp [inR]

theorem inR_eq (a lo hi : Int) : (bif leI lo a then leI a hi else false) = inR a lo hi := by
  unfold inR; cases leI lo a <;> rfl

def f_laws_toInt64S_l0 (y1 : List Int) (b : Nat) : (List Int) → Nat ⊕ (List Int)
  | y2 => (.inr ((List.set y2 (b) (Option.getD y1[b]? (0 : Int)))))

def st_laws_toInt64S_l0 (y1 : List Int) (i : Nat) : (List Int) → X_laws_toInt64S_l0
  | y2 => ((i : Int), y1, y2)

def pr_laws_toInt64S_l0 : X_laws_toInt64S_l0 → List Int
  | (_, _, y2) => y2

theorem w_laws_toInt64S_l0 (y1 : List Int) (y2 : List Int) (hn : y1.length ≤ 9223372036854775807) (hl : y2.length = y1.length) :
    lp_laws_toInt64S_l0.fin ((0 : Int), y1, y2) = true ∧ lp_laws_toInt64S_l0.res ((0 : Int), y1, y2) = ((walkL (f_laws_toInt64S_l0 y1) 0 (List.range y1.length) 0 y2).1, (st_laws_toInt64S_l0 y1) (walkL (f_laws_toInt64S_l0 y1) 0 (List.range y1.length) 0 y2).2.1 (walkL (f_laws_toInt64S_l0 y1) 0 (List.range y1.length) 0 y2).2.2) := by
  have key := lp_laws_toInt64S_l0.along (st_laws_toInt64S_l0 y1) pr_laws_toInt64S_l0 (f_laws_toInt64S_l0 y1) 0 (fun _ a => a.length = y1.length) (List.range y1.length) y2 hl (by simp only [lp_laws_toInt64S_l0, st_laws_toInt64S_l0, List.length_range]; omega) (fun i b a hb hI => ?_) (fun a hI => ?_)
  · exact key
  · obtain y2 := a
    obtain ⟨rfl, hlt⟩ := range_get hb
    have hw : IntKind.i64.wrap ((b : Int) + 1) = ((b + 1 : Nat) : Int) := by rw [wrap_i64 (by omega) (by omega)]; omega
    have hdec : ltI (b : Int) (y1.length : Int) = true := ltI_t (by omega)
    have hnn : leI (0 : Int) (b : Int) = true := leI_t (by omega)
    have hltd : ltN b y1.length = true := ltN_t (by omega)
    refine ⟨?_, ?_, ?_, ?_⟩
    · simp [laws_toInt64S_l0_0, laws_toInt64S_l0_1, laws_toInt64S_l0_2, laws_toInt64S_l0_3, laws_toInt64S_l0_4, laws_toInt64S_l0_5, laws_toInt64S_l0_6, lt_laws_toInt64S_l0, lp_laws_toInt64S_l0, LT.nds, allT, st_laws_toInt64S_l0, hdec, hnn, hltd, hI]
    · simp [laws_toInt64S_l0_0, laws_toInt64S_l0_1, laws_toInt64S_l0_2, laws_toInt64S_l0_3, laws_toInt64S_l0_4, laws_toInt64S_l0_5, laws_toInt64S_l0_6, lt_laws_toInt64S_l0, lp_laws_toInt64S_l0, LT.each, st_laws_toInt64S_l0, pr_laws_toInt64S_l0, hw, hI]
    · simp only [laws_toInt64S_l0_0, laws_toInt64S_l0_1, laws_toInt64S_l0_2, laws_toInt64S_l0_3, laws_toInt64S_l0_4, laws_toInt64S_l0_5, laws_toInt64S_l0_6, lt_laws_toInt64S_l0, lp_laws_toInt64S_l0, LT.fn, st_laws_toInt64S_l0, pr_laws_toInt64S_l0, f_laws_toInt64S_l0, Int.toNat_natCast, hdec, cond_true]
    · intro a' hf; simp only [f_laws_toInt64S_l0, Sum.inr.injEq] at hf; subst hf; simpa using hI
  · obtain y2 := a
    simp [laws_toInt64S_l0_0, laws_toInt64S_l0_1, laws_toInt64S_l0_2, laws_toInt64S_l0_3, laws_toInt64S_l0_4, laws_toInt64S_l0_5, laws_toInt64S_l0_6, lt_laws_toInt64S_l0, lp_laws_toInt64S_l0, LT.out, st_laws_toInt64S_l0, List.length_range]

def f_laws_eqInt64S_l0 (y1 : List Int) (y2 : List Int) (b : Nat) : (Unit) → Nat ⊕ (Unit)
  | _ => (bif ((Option.getD y1[b]? (0 : Int) != Option.getD y2[b]? (0 : Int))) then (.inl 0) else (.inr ()))

def st_laws_eqInt64S_l0 (y1 : List Int) (y2 : List Int) (i : Nat) : (Unit) → X_laws_eqInt64S_l0
  | _ => ((i : Int), y1, y2)

def pr_laws_eqInt64S_l0 : X_laws_eqInt64S_l0 → Unit
  | (_, _, _) => ()

theorem w_laws_eqInt64S_l0 (y1 : List Int) (y2 : List Int)  (hn : y1.length ≤ 9223372036854775807) (he : y2.length = y1.length) :
    lp_laws_eqInt64S_l0.fin ((0 : Int), y1, y2) = true ∧ lp_laws_eqInt64S_l0.res ((0 : Int), y1, y2) = ((walkL (f_laws_eqInt64S_l0 y1 y2) 1 (List.range y1.length) 0 ()).1, (st_laws_eqInt64S_l0 y1 y2) (walkL (f_laws_eqInt64S_l0 y1 y2) 1 (List.range y1.length) 0 ()).2.1 (walkL (f_laws_eqInt64S_l0 y1 y2) 1 (List.range y1.length) 0 ()).2.2) := by
  have key := lp_laws_eqInt64S_l0.along (st_laws_eqInt64S_l0 y1 y2) pr_laws_eqInt64S_l0 (f_laws_eqInt64S_l0 y1 y2) 1 (fun _ _ => True) (List.range y1.length) () (by trivial) (by simp only [lp_laws_eqInt64S_l0, st_laws_eqInt64S_l0, List.length_range]; omega) (fun i b a hb hI => ?_) (fun a hI => ?_)
  · exact key
  · obtain ⟨⟩ := a
    obtain ⟨rfl, hlt⟩ := range_get hb
    have hw : IntKind.i64.wrap ((b : Int) + 1) = ((b + 1 : Nat) : Int) := by rw [wrap_i64 (by omega) (by omega)]; omega
    have hdec : ltI (b : Int) (y1.length : Int) = true := ltI_t (by omega)
    have hnn : leI (0 : Int) (b : Int) = true := leI_t (by omega)
    have hltd : ltN b y1.length = true := ltN_t (by omega)
    refine ⟨?_, ?_, ?_, ?_⟩
    · simp [laws_eqInt64S_l0_0, laws_eqInt64S_l0_1, laws_eqInt64S_l0_2, laws_eqInt64S_l0_3, laws_eqInt64S_l0_4, laws_eqInt64S_l0_5, laws_eqInt64S_l0_6, lt_laws_eqInt64S_l0, lp_laws_eqInt64S_l0, LT.nds, allT, st_laws_eqInt64S_l0, hdec, hnn, hltd, he]
    · simp [laws_eqInt64S_l0_0, laws_eqInt64S_l0_1, laws_eqInt64S_l0_2, laws_eqInt64S_l0_3, laws_eqInt64S_l0_4, laws_eqInt64S_l0_5, laws_eqInt64S_l0_6, lt_laws_eqInt64S_l0, lp_laws_eqInt64S_l0, LT.each, st_laws_eqInt64S_l0, pr_laws_eqInt64S_l0, hw, he]
    · simp only [laws_eqInt64S_l0_0, laws_eqInt64S_l0_1, laws_eqInt64S_l0_2, laws_eqInt64S_l0_3, laws_eqInt64S_l0_4, laws_eqInt64S_l0_5, laws_eqInt64S_l0_6, lt_laws_eqInt64S_l0, lp_laws_eqInt64S_l0, LT.fn, st_laws_eqInt64S_l0, pr_laws_eqInt64S_l0, f_laws_eqInt64S_l0, Int.toNat_natCast, hdec, cond_true]
    · exact fun _ _ => trivial
  · obtain ⟨⟩ := a
    simp [laws_eqInt64S_l0_0, laws_eqInt64S_l0_1, laws_eqInt64S_l0_2, laws_eqInt64S_l0_3, laws_eqInt64S_l0_4, laws_eqInt64S_l0_5, laws_eqInt64S_l0_6, lt_laws_eqInt64S_l0, lp_laws_eqInt64S_l0, LT.out, st_laws_eqInt64S_l0, List.length_range]

/-! ### Copies, comparisons, marks -/

theorem toInts_ok (xs : List Int) (hn : leN xs.length 1048576 = true) : laws_toInt64S_0 xs = xs ∧ laws_toInt64S_1 xs = true := by
  have hn := leN_iff.1 hn
  have hr : (List.replicate (Int.toNat (xs.length : Int)) (0 : Int)).length = xs.length := by simp
  obtain ⟨w1, w2⟩ := w_laws_toInt64S_l0 xs (List.replicate (Int.toNat (xs.length : Int)) (0 : Int)) (by omega) hr
  have hc := walk_copy (xs := xs) (d := (0 : Int)) (g := fun x => x) (f := f_laws_toInt64S_l0 xs) (e := 0) (fun b a => rfl) hr
  rw [hc] at w2
  refine ⟨?_, ?_⟩
  · simp only [laws_toInt64S_a0, laws_toInt64S_0, laws_toInt64S_1, w2, st_laws_toInt64S_l0]; simp
  · simp only [laws_toInt64S_a0, laws_toInt64S_0, laws_toInt64S_1, w1, allT]; simp; omega

def N_laws_toInt64S : List SV → List Entry → Option Out
  | [.one ⟨false, [.ref 0]⟩], [.row false 2 (.int .i64) x0] => some ⟨(.one ⟨false, [(.ref 1)]⟩), [(.row false 2 (CTy.int IntKind.i64) x0)], [(.row true 2 (CTy.int IntKind.i64) (x0))], [leN x0.length 1048576]⟩
  | _, _ => none

def n_laws_toInt64S : PF Tryd.prog := PF.alt p_laws_toInt64S N_laws_toInt64S (by
  intro args es o h hnd; unfold N_laws_toInt64S at h; split at h
  · rename_i x0
    cases h
    have hnd := nd_fst hnd
    have hh := toInts_ok x0 hnd
    obtain ⟨e0, en⟩ := hh
    exact altok rfl (nd_one en) rfl rfl (by simp only [e0] <;> rfl)
  · cases h)

theorem eqInts_ok (xs ys : List Int) (hn : leN xs.length 9223372036854775807 = true) : laws_eqInt64S_0 xs ys = eqL xs ys ∧ laws_eqInt64S_1 xs ys = true := by
  have hn := leN_iff.1 hn
  unfold eqL
  by_cases hl : ys.length = xs.length
  · obtain ⟨w1, w2⟩ := w_laws_eqInt64S_l0 xs ys hn hl
    have ha := any_ne (d := (0 : Int)) hl (P := fun b => Option.getD xs[b]? 0 != Option.getD ys[b]? 0) (fun b => by simp [bne, BEq.beq])
    rw [walk_stop (P := fun b => Option.getD xs[b]? 0 != Option.getD ys[b]? 0) (j := 0) (fun b => rfl), ha] at w2
    simp only [laws_eqInt64S_a0, laws_eqInt64S_a1, laws_eqInt64S_0, laws_eqInt64S_1, w1, w2, allT]
    by_cases he : xs = ys
    · subst he; simp; decide
    · simp [he, hl]
  · have hne : xs ≠ ys := fun h => hl (by rw [h])
    simp [laws_eqInt64S_a0, laws_eqInt64S_a1, laws_eqInt64S_0, laws_eqInt64S_1, allT, hne]
    omega

def N_laws_eqInt64S : List SV → List Entry → Option Out
  | [.one ⟨false, [.ref 0]⟩, .one ⟨false, [.ref 1]⟩], [.row false 2 (.int .i64) x0, .row false 2 (.int .i64) x1] => some ⟨(.one ⟨false, [(.val (.bool (eqL x0 x1)))]⟩), [(.row false 2 (CTy.int IntKind.i64) x0), (.row false 2 (CTy.int IntKind.i64) x1)], [], [leN x0.length 9223372036854775807]⟩
  | _, _ => none

def n_laws_eqInt64S : PF Tryd.prog := PF.alt p_laws_eqInt64S N_laws_eqInt64S (by
  intro args es o h hnd; unfold N_laws_eqInt64S at h; split at h
  · rename_i x0 x1
    cases h
    have hnd := nd_fst hnd
    have hh := eqInts_ok x0 x1 hnd
    obtain ⟨e0, en⟩ := hh
    exact altok rfl (nd_one en) (by simp only [e0] <;> rfl) rfl rfl
  · cases h)

/-! ### Valid traffics -/

/-! ### Uses -/

end Go.SX

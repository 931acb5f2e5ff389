/- Traffic, in plain words: what small functions come to. -/
import Derived.Test.YtepaifhehlpbaaaDoorRa
namespace Go.SX
open Go.Proofs
set_option maxRecDepth 100000

def inR (a lo hi : Int) : Bool := leI lo a && leI a hi
def eqL (xs ys : List Int) : Bool := decide (xs = ys)

theorem eqL_refl (xs : List Int) : eqL xs xs = true := by simp [eqL]

theorem inR_iff {a lo hi : Int} : inR a lo hi = true ↔ lo ≤ a ∧ a ≤ hi := by simp [inR]

theorem inR_eq (a lo hi : Int) : (bif leI lo a then leI a hi else false) = inR a lo hi := by
  unfold inR; cases leI lo a <;> rfl

def f_laws_toInt64S_l0 (y1 : List Int) (b : Nat) : (List Int) → Nat ⊕ (List Int)
  | y2 => (.inr ((List.set y2 (b) (Option.getD y1[b]? (0 : Int)))))

def st_laws_toInt64S_l0 (y1 : List Int) (i : Nat) : (List Int) → X_laws_toInt64S_l0
  | y2 => ((i : Int), y1, y2)

def pr_laws_toInt64S_l0 : X_laws_toInt64S_l0 → List Int
  | (_, _, y2) => y2

theorem w_laws_toInt64S_l0 (y1 : List Int) (y2 : List Int) (hn : y1.length ≤ 9223372036854775807) (hl : y2.length = y1.length) :
    lp_laws_toInt64S_l0.fin ((0 : Int), y1, y2) = true ∧ lp_laws_toInt64S_l0.res ((0 : Int), y1, y2) = ((walkL (f_laws_toInt64S_l0 y1) 0 (List.range y1.length) 0 y2).1, (st_laws_toInt64S_l0 y1) (walkL (f_laws_toInt64S_l0 y1) 0 (List.range y1.length) 0 y2).2.1 (walkL (f_laws_toInt64S_l0 y1) 0 (List.range y1.length) 0 y2).2.2) := by
  have key := lp_laws_toInt64S_l0.along (st_laws_toInt64S_l0 y1) pr_laws_toInt64S_l0 (f_laws_toInt64S_l0 y1) 0 (fun _ a => a.length = y1.length) (List.range y1.length) y2 hl (by simp only [lp_laws_toInt64S_l0, st_laws_toInt64S_l0, List.length_range]; omega) (fun i b a hb hI => ?_) (fun a hI => ?_)
  · exact key
  · obtain y2 := a
    obtain ⟨rfl, hlt⟩ := range_get hb
    have hw : IntKind.i64.wrap ((b : Int) + 1) = ((b + 1 : Nat) : Int) := by rw [wrap_i64 (by omega) (by omega)]; omega
    have hdec : ltI (b : Int) (y1.length : Int) = true := ltI_t (by omega)
    have hnn : leI (0 : Int) (b : Int) = true := leI_t (by omega)
    have hltd : ltN b y1.length = true := ltN_t (by omega)
    refine ⟨?_, ?_, ?_, ?_⟩
    · simp [laws_toInt64S_l0_0, laws_toInt64S_l0_1, laws_toInt64S_l0_2, laws_toInt64S_l0_3, laws_toInt64S_l0_4, laws_toInt64S_l0_5, laws_toInt64S_l0_6, lt_laws_toInt64S_l0, lp_laws_toInt64S_l0, LT.nds, allT, st_laws_toInt64S_l0, hdec, hnn, hltd, hI]
    · simp [laws_toInt64S_l0_0, laws_toInt64S_l0_1, laws_toInt64S_l0_2, laws_toInt64S_l0_3, laws_toInt64S_l0_4, laws_toInt64S_l0_5, laws_toInt64S_l0_6, lt_laws_toInt64S_l0, lp_laws_toInt64S_l0, LT.each, st_laws_toInt64S_l0, pr_laws_toInt64S_l0, hw, hI]
    · simp only [laws_toInt64S_l0_0, laws_toInt64S_l0_1, laws_toInt64S_l0_2, laws_toInt64S_l0_3, laws_toInt64S_l0_4, laws_toInt64S_l0_5, laws_toInt64S_l0_6, lt_laws_toInt64S_l0, lp_laws_toInt64S_l0, LT.fn, st_laws_toInt64S_l0, pr_laws_toInt64S_l0, f_laws_toInt64S_l0, Int.toNat_natCast, hdec, cond_true]
    · intro a' hf; simp only [f_laws_toInt64S_l0, Sum.inr.injEq] at hf; subst hf; simpa using hI
  · obtain y2 := a
    simp [laws_toInt64S_l0_0, laws_toInt64S_l0_1, laws_toInt64S_l0_2, laws_toInt64S_l0_3, laws_toInt64S_l0_4, laws_toInt64S_l0_5, laws_toInt64S_l0_6, lt_laws_toInt64S_l0, lp_laws_toInt64S_l0, LT.out, st_laws_toInt64S_l0, List.length_range]

def f_laws_eqInt64S_l0 (y1 : List Int) (y2 : List Int) (b : Nat) : (Unit) → Nat ⊕ (Unit)
  | _ => (bif ((Option.getD y1[b]? (0 : Int) != Option.getD y2[b]? (0 : Int))) then (.inl 0) else (.inr ()))

def st_laws_eqInt64S_l0 (y1 : List Int) (y2 : List Int) (i : Nat) : (Unit) → X_laws_eqInt64S_l0
  | _ => ((i : Int), y1, y2)

def pr_laws_eqInt64S_l0 : X_laws_eqInt64S_l0 → Unit
  | (_, _, _) => ()

theorem w_laws_eqInt64S_l0 (y1 : List Int) (y2 : List Int)  (hn : y1.length ≤ 9223372036854775807) (he : y2.length = y1.length) :
    lp_laws_eqInt64S_l0.fin ((0 : Int), y1, y2) = true ∧ lp_laws_eqInt64S_l0.res ((0 : Int), y1, y2) = ((walkL (f_laws_eqInt64S_l0 y1 y2) 1 (List.range y1.length) 0 ()).1, (st_laws_eqInt64S_l0 y1 y2) (walkL (f_laws_eqInt64S_l0 y1 y2) 1 (List.range y1.length) 0 ()).2.1 (walkL (f_laws_eqInt64S_l0 y1 y2) 1 (List.range y1.length) 0 ()).2.2) := by
  have key := lp_laws_eqInt64S_l0.along (st_laws_eqInt64S_l0 y1 y2) pr_laws_eqInt64S_l0 (f_laws_eqInt64S_l0 y1 y2) 1 (fun _ _ => True) (List.range y1.length) () (by trivial) (by simp only [lp_laws_eqInt64S_l0, st_laws_eqInt64S_l0, List.length_range]; omega) (fun i b a hb hI => ?_) (fun a hI => ?_)
  · exact key
  · obtain ⟨⟩ := a
    obtain ⟨rfl, hlt⟩ := range_get hb
    have hw : IntKind.i64.wrap ((b : Int) + 1) = ((b + 1 : Nat) : Int) := by rw [wrap_i64 (by omega) (by omega)]; omega
    have hdec : ltI (b : Int) (y1.length : Int) = true := ltI_t (by omega)
    have hnn : leI (0 : Int) (b : Int) = true := leI_t (by omega)
    have hltd : ltN b y1.length = true := ltN_t (by omega)
    refine ⟨?_, ?_, ?_, ?_⟩
    · simp [laws_eqInt64S_l0_0, laws_eqInt64S_l0_1, laws_eqInt64S_l0_2, laws_eqInt64S_l0_3, laws_eqInt64S_l0_4, laws_eqInt64S_l0_5, laws_eqInt64S_l0_6, lt_laws_eqInt64S_l0, lp_laws_eqInt64S_l0, LT.nds, allT, st_laws_eqInt64S_l0, hdec, hnn, hltd, he]
    · simp [laws_eqInt64S_l0_0, laws_eqInt64S_l0_1, laws_eqInt64S_l0_2, laws_eqInt64S_l0_3, laws_eqInt64S_l0_4, laws_eqInt64S_l0_5, laws_eqInt64S_l0_6, lt_laws_eqInt64S_l0, lp_laws_eqInt64S_l0, LT.each, st_laws_eqInt64S_l0, pr_laws_eqInt64S_l0, hw, he]
    · simp only [laws_eqInt64S_l0_0, laws_eqInt64S_l0_1, laws_eqInt64S_l0_2, laws_eqInt64S_l0_3, laws_eqInt64S_l0_4, laws_eqInt64S_l0_5, laws_eqInt64S_l0_6, lt_laws_eqInt64S_l0, lp_laws_eqInt64S_l0, LT.fn, st_laws_eqInt64S_l0, pr_laws_eqInt64S_l0, f_laws_eqInt64S_l0, Int.toNat_natCast, hdec, cond_true]
    · exact fun _ _ => trivial
  · obtain ⟨⟩ := a
    simp [laws_eqInt64S_l0_0, laws_eqInt64S_l0_1, laws_eqInt64S_l0_2, laws_eqInt64S_l0_3, laws_eqInt64S_l0_4, laws_eqInt64S_l0_5, laws_eqInt64S_l0_6, lt_laws_eqInt64S_l0, lp_laws_eqInt64S_l0, LT.out, st_laws_eqInt64S_l0, List.length_range]

def f_laws_markInt64S_l0  (b : Nat) : (Int × List Int) → Nat ⊕ (Int × List Int)
  | (y1, y2) => (.inr (((IntKind.wrap IntKind.i64 (y1 + (1 : Int)))), ((List.set y2 (b) y1))))

def st_laws_markInt64S_l0  (i : Nat) : (Int × List Int) → X_laws_markInt64S_l0
  | (y1, y2) => ((i : Int), y1, y2)

def pr_laws_markInt64S_l0 : X_laws_markInt64S_l0 → Int × List Int
  | (_, y1, y2) => (y1, y2)

theorem w_laws_markInt64S_l0  (y1 : Int) (y2 : List Int) (n : Nat) (hl : y2.length = n) (hn : n ≤ 9223372036854775807)  :
    lp_laws_markInt64S_l0.fin ((0 : Int), y1, y2) = true ∧ lp_laws_markInt64S_l0.res ((0 : Int), y1, y2) = ((walkL (f_laws_markInt64S_l0) 0 (List.range n) 0 (y1, y2)).1, (st_laws_markInt64S_l0) (walkL (f_laws_markInt64S_l0) 0 (List.range n) 0 (y1, y2)).2.1 (walkL (f_laws_markInt64S_l0) 0 (List.range n) 0 (y1, y2)).2.2) := by
  have key := lp_laws_markInt64S_l0.along (st_laws_markInt64S_l0) pr_laws_markInt64S_l0 (f_laws_markInt64S_l0) 0 (fun _ a => a.2.length = n) (List.range n) (y1, y2) hl (by simp only [lp_laws_markInt64S_l0, st_laws_markInt64S_l0, List.length_range]; omega) (fun i b a hb hI => ?_) (fun a hI => ?_)
  · exact key
  · obtain ⟨y1, y2⟩ := a
    obtain ⟨rfl, hlt⟩ := range_get hb
    have hI0 : y2.length = n := hI
    have hw : IntKind.i64.wrap ((b : Int) + 1) = ((b + 1 : Nat) : Int) := by rw [wrap_i64 (by omega) (by omega)]; omega
    have hdec : ltI (b : Int) (y2.length : Int) = true := ltI_t (by omega)
    have hnn : leI (0 : Int) (b : Int) = true := leI_t (by omega)
    have hltd : ltN b y2.length = true := ltN_t (by omega)
    refine ⟨?_, ?_, ?_, ?_⟩
    · simp [laws_markInt64S_l0_0, laws_markInt64S_l0_1, laws_markInt64S_l0_2, laws_markInt64S_l0_3, laws_markInt64S_l0_4, laws_markInt64S_l0_5, lt_laws_markInt64S_l0, lp_laws_markInt64S_l0, LT.nds, allT, st_laws_markInt64S_l0, hdec, hnn, hltd]
    · simp [laws_markInt64S_l0_0, laws_markInt64S_l0_1, laws_markInt64S_l0_2, laws_markInt64S_l0_3, laws_markInt64S_l0_4, laws_markInt64S_l0_5, lt_laws_markInt64S_l0, lp_laws_markInt64S_l0, LT.each, st_laws_markInt64S_l0, pr_laws_markInt64S_l0, hw]
    · simp only [laws_markInt64S_l0_0, laws_markInt64S_l0_1, laws_markInt64S_l0_2, laws_markInt64S_l0_3, laws_markInt64S_l0_4, laws_markInt64S_l0_5, lt_laws_markInt64S_l0, lp_laws_markInt64S_l0, LT.fn, st_laws_markInt64S_l0, pr_laws_markInt64S_l0, f_laws_markInt64S_l0, Int.toNat_natCast, hdec, hnn, hltd, cond_true, Bool.cond_self]
    · intro a' hf; simp only [f_laws_markInt64S_l0, Sum.inr.injEq] at hf; subst hf; simp [hI0]
  · obtain ⟨y1, y2⟩ := a
    have hI0 : y2.length = n := hI
    simp [laws_markInt64S_l0_0, laws_markInt64S_l0_1, laws_markInt64S_l0_2, laws_markInt64S_l0_3, laws_markInt64S_l0_4, laws_markInt64S_l0_5, lt_laws_markInt64S_l0, lp_laws_markInt64S_l0, LT.out, st_laws_markInt64S_l0, hI0, List.length_range]

def f_laws_heldInt64S_l0  (b : Int) : (Int) → Nat ⊕ (Int)
  | y1 => (bif ((b != y1)) then (.inl 0) else (.inr ((IntKind.wrap IntKind.i64 (y1 + (1 : Int))))))

def st_laws_heldInt64S_l0 (y2 : List Int) (i : Nat) : (Int) → X_laws_heldInt64S_l0
  | y1 => ((i : Int), y1, y2)

def pr_laws_heldInt64S_l0 : X_laws_heldInt64S_l0 → Int
  | (_, y1, _) => y1

theorem w_laws_heldInt64S_l0 (y2 : List Int) (y1 : Int) (hn : y2.length ≤ 9223372036854775807)  :
    lp_laws_heldInt64S_l0.fin ((0 : Int), y1, y2) = true ∧ lp_laws_heldInt64S_l0.res ((0 : Int), y1, y2) = ((walkL (f_laws_heldInt64S_l0) 1 y2 0 y1).1, (st_laws_heldInt64S_l0 y2) (walkL (f_laws_heldInt64S_l0) 1 y2 0 y1).2.1 (walkL (f_laws_heldInt64S_l0) 1 y2 0 y1).2.2) := by
  have key := lp_laws_heldInt64S_l0.along (st_laws_heldInt64S_l0 y2) pr_laws_heldInt64S_l0 (f_laws_heldInt64S_l0) 1 (fun _ _ => True) y2 y1 (by trivial) (by simp only [lp_laws_heldInt64S_l0, st_laws_heldInt64S_l0]; omega) (fun i b a hb hI => ?_) (fun a hI => ?_)
  · exact key
  · obtain y1 := a
    have hlt := (List.getElem?_eq_some_iff.1 hb).1
    have hget : ∀ d, Option.getD y2[i]? d = b := fun d => by rw [hb]; rfl
    have hw := wrap64 hlt hn
    have hdec : ltI (i : Int) (y2.length : Int) = true := ltI_t (by omega)
    have hnn : leI (0 : Int) (i : Int) = true := leI_t (by omega)
    have hltd : ltN i y2.length = true := ltN_t hlt
    refine ⟨?_, ?_, ?_, ?_⟩
    · simp [laws_heldInt64S_l0_0, laws_heldInt64S_l0_1, laws_heldInt64S_l0_2, laws_heldInt64S_l0_3, laws_heldInt64S_l0_4, laws_heldInt64S_l0_5, laws_heldInt64S_l0_6, lt_laws_heldInt64S_l0, lp_laws_heldInt64S_l0, LT.nds, allT, st_laws_heldInt64S_l0, hdec, hnn, hltd, hget]
    · simp [laws_heldInt64S_l0_0, laws_heldInt64S_l0_1, laws_heldInt64S_l0_2, laws_heldInt64S_l0_3, laws_heldInt64S_l0_4, laws_heldInt64S_l0_5, laws_heldInt64S_l0_6, lt_laws_heldInt64S_l0, lp_laws_heldInt64S_l0, LT.each, st_laws_heldInt64S_l0, pr_laws_heldInt64S_l0, hw]
    · simp only [laws_heldInt64S_l0_0, laws_heldInt64S_l0_1, laws_heldInt64S_l0_2, laws_heldInt64S_l0_3, laws_heldInt64S_l0_4, laws_heldInt64S_l0_5, laws_heldInt64S_l0_6, lt_laws_heldInt64S_l0, lp_laws_heldInt64S_l0, LT.fn, st_laws_heldInt64S_l0, pr_laws_heldInt64S_l0, f_laws_heldInt64S_l0, Int.toNat_natCast, hdec, hnn, hltd, hget, cond_true, Bool.cond_self]
    · exact fun _ _ => trivial
  · obtain y1 := a
    simp [laws_heldInt64S_l0_0, laws_heldInt64S_l0_1, laws_heldInt64S_l0_2, laws_heldInt64S_l0_3, laws_heldInt64S_l0_4, laws_heldInt64S_l0_5, laws_heldInt64S_l0_6, lt_laws_heldInt64S_l0, lp_laws_heldInt64S_l0, LT.out, st_laws_heldInt64S_l0]

/-! ### Copies, comparisons, marks -/

theorem toInts_ok (xs : List Int) (hn : leN xs.length 1048576 = true) : laws_toInt64S_0 xs = xs ∧ laws_toInt64S_1 xs = true := by
  have hn := leN_iff.1 hn
  have hr : (List.replicate (Int.toNat (xs.length : Int)) (0 : Int)).length = xs.length := by simp
  obtain ⟨w1, w2⟩ := w_laws_toInt64S_l0 xs (List.replicate (Int.toNat (xs.length : Int)) (0 : Int)) (by omega) hr
  have hc := walk_copy (xs := xs) (d := (0 : Int)) (g := fun x => x) (f := f_laws_toInt64S_l0 xs) (e := 0) (fun b a => rfl) hr
  rw [hc] at w2
  refine ⟨?_, ?_⟩
  · simp only [laws_toInt64S_a0, laws_toInt64S_0, laws_toInt64S_1, w2, st_laws_toInt64S_l0]; simp
  · simp only [laws_toInt64S_a0, laws_toInt64S_0, laws_toInt64S_1, w1, allT]; simp; omega

def N_laws_toInt64S : List SV → List Entry → Option Out
  | [.one ⟨false, [.ref 0]⟩], [.row false 2 (.int .i64) x0] => some ⟨(.one ⟨false, [(.ref 1)]⟩), [(.row false 2 (CTy.int IntKind.i64) x0)], [(.row true 2 (CTy.int IntKind.i64) (x0))], [leN x0.length 1048576]⟩
  | _, _ => none

def n_laws_toInt64S : PF Tryd.prog := PF.alt p_laws_toInt64S N_laws_toInt64S (by
  intro args es o h hnd; unfold N_laws_toInt64S at h; split at h
  · rename_i x0
    cases h
    have hnd := nd_fst hnd
    have hh := toInts_ok x0 hnd
    obtain ⟨e0, en⟩ := hh
    exact altok rfl (nd_one en) rfl rfl (by simp only [e0] <;> rfl)
  · cases h)

theorem eqInts_ok (xs ys : List Int) (hn : leN xs.length 9223372036854775807 = true) : laws_eqInt64S_0 xs ys = eqL xs ys ∧ laws_eqInt64S_1 xs ys = true := by
  have hn := leN_iff.1 hn
  unfold eqL
  by_cases hl : ys.length = xs.length
  · obtain ⟨w1, w2⟩ := w_laws_eqInt64S_l0 xs ys hn hl
    have ha := any_ne (d := (0 : Int)) hl (P := fun b => Option.getD xs[b]? 0 != Option.getD ys[b]? 0) (fun b => by simp [bne, BEq.beq])
    rw [walk_stop (P := fun b => Option.getD xs[b]? 0 != Option.getD ys[b]? 0) (j := 0) (fun b => rfl), ha] at w2
    simp only [laws_eqInt64S_a0, laws_eqInt64S_a1, laws_eqInt64S_0, laws_eqInt64S_1, w1, w2, allT]
    by_cases he : xs = ys
    · subst he; simp; decide
    · simp [he, hl]
  · have hne : xs ≠ ys := fun h => hl (by rw [h])
    simp [laws_eqInt64S_a0, laws_eqInt64S_a1, laws_eqInt64S_0, laws_eqInt64S_1, allT, hne]
    omega

def N_laws_eqInt64S : List SV → List Entry → Option Out
  | [.one ⟨false, [.ref 0]⟩, .one ⟨false, [.ref 1]⟩], [.row false 2 (.int .i64) x0, .row false 2 (.int .i64) x1] => some ⟨(.one ⟨false, [(.val (.bool (eqL x0 x1)))]⟩), [(.row false 2 (CTy.int IntKind.i64) x0), (.row false 2 (CTy.int IntKind.i64) x1)], [], [leN x0.length 9223372036854775807]⟩
  | _, _ => none

def n_laws_eqInt64S : PF Tryd.prog := PF.alt p_laws_eqInt64S N_laws_eqInt64S (by
  intro args es o h hnd; unfold N_laws_eqInt64S at h; split at h
  · rename_i x0 x1
    cases h
    have hnd := nd_fst hnd
    have hh := eqInts_ok x0 x1 hnd
    obtain ⟨e0, en⟩ := hh
    exact altok rfl (nd_one en) (by simp only [e0] <;> rfl) rfl rfl
  · cases h)

/-- Numbers that a list is marked with stay numbers. -/
def mkOk (k : Int) (n : Nat) : Bool := leI 0 k && leI (k + n) 9223372036854775807

theorem mkOk_iff {k : Int} {n : Nat} : mkOk k n = true ↔ 0 ≤ k ∧ k + n ≤ 9223372036854775807 := by simp [mkOk]

theorem markInts_ok (k : Int) (xs : List Int) (h : mkOk k xs.length = true) : laws_markInt64S_0 k xs = k + xs.length ∧ laws_markInt64S_1 k xs = upFrom k xs.length ∧ laws_markInt64S_2 k xs = true := by
  obtain ⟨h0, h1⟩ := mkOk_iff.1 h
  obtain ⟨w1, w2⟩ := w_laws_markInt64S_l0 k xs xs.length rfl (by omega)
  rw [walk_mark (f := f_laws_markInt64S_l0) (fun b k xs => rfl) h0 h1] at w2
  refine ⟨?_, ?_, ?_⟩
  · simp only [laws_markInt64S_a0, laws_markInt64S_a1, laws_markInt64S_0, laws_markInt64S_1, laws_markInt64S_2, w2, st_laws_markInt64S_l0]
  · simp only [laws_markInt64S_a0, laws_markInt64S_a1, laws_markInt64S_0, laws_markInt64S_1, laws_markInt64S_2, w2, st_laws_markInt64S_l0]
  · simp only [laws_markInt64S_a0, laws_markInt64S_a1, laws_markInt64S_0, laws_markInt64S_1, laws_markInt64S_2, w1, allT, cond_true]

def N_laws_markInt64S : List SV → List Entry → Option Out
  | [.one ⟨false, [.ref 0]⟩, .one ⟨false, [.val (.int .i64 x0)]⟩], [.row true 2 (.int .i64) x1] => some ⟨(.one ⟨false, [(.val (.int IntKind.i64 (x0 + (x1.length : Int))))]⟩), [(.row true 2 (CTy.int IntKind.i64) (upFrom x0 x1.length))], [], [mkOk x0 x1.length]⟩
  | _, _ => none

def n_laws_markInt64S : PF Tryd.prog := PF.alt p_laws_markInt64S N_laws_markInt64S (by
  intro args es o h hnd; unfold N_laws_markInt64S at h; split at h
  · rename_i x0 x1
    cases h
    have hnd := nd_fst hnd
    have hh := markInts_ok x0 x1 hnd
    obtain ⟨e0, e1, en⟩ := hh
    exact altok rfl (nd_one en) (by simp only [e0] <;> rfl) (by simp only [e1] <;> rfl) rfl
  · cases h)

/-- What a marked list is found to be. -/
def heldV (k : Int) (xs : List Int) : Int := laws_heldInt64S_0 k xs

theorem heldV_up (k : Int) (n : Nat) (h : mkOk k n = true) : heldV k (upFrom k n) = k + n := by
  obtain ⟨h0, h1⟩ := mkOk_iff.1 h
  obtain ⟨w1, w2⟩ := w_laws_heldInt64S_l0 (upFrom k n) k (by rw [upFrom_length]; omega)
  rw [walk_held (f := f_laws_heldInt64S_l0) (fun b k => rfl) h0 h1] at w2
  simp only [heldV, laws_heldInt64S_a0, laws_heldInt64S_0, laws_heldInt64S_1, w2, st_laws_heldInt64S_l0]
  rfl

theorem heldInts_ok (k : Int) (xs : List Int) (h : leN xs.length 9223372036854775807 = true) : laws_heldInt64S_0 k xs = heldV k xs ∧ laws_heldInt64S_1 k xs = true := by
  obtain ⟨w1, w2⟩ := w_laws_heldInt64S_l0 xs k (leN_iff.1 h)
  exact ⟨rfl, by simp only [laws_heldInt64S_a0, laws_heldInt64S_0, laws_heldInt64S_1, w1, allT, cond_true]⟩

def N_laws_heldInt64S : List SV → List Entry → Option Out
  | [.one ⟨false, [.ref 0]⟩, .one ⟨false, [.val (.int .i64 x0)]⟩], [.row false 2 (.int .i64) x1] => some ⟨(.one ⟨false, [(.val (.int IntKind.i64 (heldV x0 x1)))]⟩), [(.row false 2 (CTy.int IntKind.i64) x1)], [], [leN x1.length 9223372036854775807]⟩
  | _, _ => none

def n_laws_heldInt64S : PF Tryd.prog := PF.alt p_laws_heldInt64S N_laws_heldInt64S (by
  intro args es o h hnd; unfold N_laws_heldInt64S at h; split at h
  · rename_i x0 x1
    cases h
    have hnd := nd_fst hnd
    have hh := heldInts_ok x0 x1 hnd
    obtain ⟨e0, en⟩ := hh
    exact altok rfl (nd_one en) (by simp only [e0] <;> rfl) rfl rfl
  · cases h)

def szV (k : Int) (xs : List Int) : Int := bif ltI (k - xs.length) 0 then -1 else k - xs.length

theorem szInts_ok (k : Int) (xs : List Int) (h : (leN xs.length 9223372036854775807 && (leI (-1) k && leI k 1048576)) = true) : laws_szInt64S_0 k xs = szV k xs := by
  simp only [Bool.and_eq_true, leN_iff, leI_iff] at h
  simp only [laws_szInt64S_a0, laws_szInt64S_0, szV]
  rw [wrap_i64 (by omega) (by omega)]

def N_laws_szInt64S : List SV → List Entry → Option Out
  | [.one ⟨false, [.ref 0]⟩, .one ⟨false, [.val (.int .i64 x0)]⟩], [.row false 2 (.int .i64) x1] => some ⟨(.one ⟨false, [(.val (.int IntKind.i64 (szV x0 x1)))]⟩), [(.row false 2 (CTy.int IntKind.i64) x1)], [], [leN x1.length 9223372036854775807 && (leI (-1) x0 && leI x0 1048576)]⟩
  | _, _ => none

def n_laws_szInt64S : PF Tryd.prog := PF.alt p_laws_szInt64S N_laws_szInt64S (by
  intro args es o h hnd; unfold N_laws_szInt64S at h; split at h
  · rename_i x0 x1
    cases h
    have hnd := nd_fst hnd
    have hh := szInts_ok x0 x1 hnd
    have e0 := hh
    exact altok rfl (fun _ h => by cases h) (by simp only [e0] <;> rfl) rfl rfl
  · cases h)

/-! ### Valid traffics -/

theorem clone_ok (xs : List Int) (h : (leN 1 xs.length && leN xs.length 1048576) = true) : slices_Clone_int64_int64_0 xs = true := by
  simp only [Bool.and_eq_true, leN_iff] at h
  simp [slices_Clone_int64_int64_0, allT]
  omega

/-- slices.Clone at nil, at a slice of no elements; at any slice. -/
def F_clone_nil : List SV → List Entry → Option Out
  | [.one ⟨false, [.val (.slice none 0 0)]⟩], [] => some ⟨.one ⟨false, [.ref 0]⟩, [], [.row true 2 (.int .i64) []], [true]⟩
  | _, _ => none
def p_clone_nil : PF Tryd.prog := PF.ofG Tryd.prog [PF.raw Tryd.prog] [] hmix 141 Tryd.f141 Tryd.func141 (fun c _ => LOk.nil c) F_clone_nil (by
  intro vs es r h; unfold F_clone_nil at h; split at h
  · cases h; kernel_rfl
  · cases h)
def F_clone_lit : List SV → List Entry → Option Out
  | [.one ⟨false, [.val (.slice (some _) 0 _)]⟩], [] => some ⟨.one ⟨false, [.ref 0]⟩, [], [.row true 2 (.int .i64) []], [true]⟩
  | _, _ => none
def p_clone_lit : PF Tryd.prog := PF.ofG Tryd.prog [] [] hmix 141 Tryd.f141 Tryd.func141 (fun c _ => LOk.nil c) F_clone_lit (by
  intro vs es r h; unfold F_clone_lit at h; split at h
  · cases h; kernel_rfl
  · cases h)
def N_slices_Clone_int64_int64 : List SV → List Entry → Option Out
  | [.one ⟨false, [.ref 0]⟩], [.row false 2 (.int .i64) x0] => some ⟨.one ⟨false, [.ref 1]⟩, [.row false 2 (.int .i64) x0], [.row true 2 (.int .i64) x0], [leN x0.length 1048576]⟩
  | _, _ => none
def n_slices_Clone_int64_int64 : PF Tryd.prog where
  k := 141
  F := N_slices_Clone_int64_int64
  ok := by
    intro args es o h hnd mem ρ w hp
    unfold N_slices_Clone_int64_int64 at h
    split at h
    · rename_i x0
      cases h
      have hl := hnd _ (List.mem_singleton.2 rfl)
      cases x0 with
      | nil =>
        exact (clone0 p_clone_nil p_clone_lit rfl rfl rfl (fun _ _ => rfl) (by simp) (by simp) hp).mono fun en w' ⟨ρ', h1, h2, h3⟩ => ⟨ρ', h1, h2, rfl, (by intro v hv; rw [List.mem_singleton.1 hv]; rfl), h3⟩
      | cons x xs => exact p_slices_Clone_int64_int64.ok _ _ ⟨_, _, _, [slices_Clone_int64_int64_0 (x :: xs)]⟩ rfl (fun b hb => by rw [List.mem_singleton.1 hb]; exact clone_ok (x :: xs) ((Bool.and_eq_true _ _).mpr ⟨leN_t (Nat.succ_pos _), hl⟩)) mem ρ w hp
    · cases h

theorem own_ok (xs : List Int) (h : leN xs.length 1048576 = true) : spec_l01Own_0 xs = true := by
  have h := leN_iff.1 h
  simp [spec_l01Own_0, allT]
  omega

def N_spec_l01Own : List SV → List Entry → Option Out
  | [.one ⟨false, [.ref 0]⟩], [.row false 2 (.int .i64) x0] => some ⟨(.one ⟨false, [(.ref 1)]⟩), [(.row false 2 (CTy.int IntKind.i64) x0)], [(.row true 2 (CTy.int IntKind.i64) x0)], [leN x0.length 1048576]⟩
  | _, _ => none

def n_spec_l01Own : PF Tryd.prog := PF.alt p_spec_l01Own N_spec_l01Own (by
  intro args es o h hnd; unfold N_spec_l01Own at h; split at h
  · rename_i x0
    cases h
    have hnd := nd_fst hnd
    have hh := own_ok x0 hnd
    have en := hh
    exact altok rfl (nd_one en) rfl rfl rfl
  · cases h)

/-! ### Uses -/

end Go.SX

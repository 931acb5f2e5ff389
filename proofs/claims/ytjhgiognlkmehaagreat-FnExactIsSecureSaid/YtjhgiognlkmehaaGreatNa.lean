/- Traffic, in plain words: what small functions come to. -/
import Derived.Test.YtjhgiognlkmehaaGreatRa
namespace Go.SX
open Go.Proofs
set_option maxRecDepth 100000

def blk (p : Int) : Int := Int.tdiv p 3
def phs (p : Int) : Int := Int.tmod p 3
def inR (a lo hi : Int) : Bool := leI lo a && leI a hi
/-- A valid traffic. -/
def isT (n : Int) (ps : List Int) : Bool := inR n 2 8 && inR ps.length 1 4 && ps.all fun p => inR p 0 (3 * n - 1)
/-- A train in place p uses block b. -/
def usesB (n p b : Int) : Bool := blk p == b || (phs p == 2 && Int.tmod (blk p + 1) n == b)
def cntB (n : Int) (ps : List Int) (b : Int) : Nat := ps.countP fun p => usesB n p b
def eqL (xs ys : List Int) : Bool := decide (xs = ys)

theorem inR_iff {a lo hi : Int} : inR a lo hi = true ↔ lo ≤ a ∧ a ≤ hi := by simp [inR]

theorem inR_eq (a lo hi : Int) : (bif leI lo a then leI a hi else false) = inR a lo hi := by
  unfold inR; cases leI lo a <;> rfl

theorem isT_iff {n : Int} {ps : List Int} : isT n ps = true ↔ (2 ≤ n ∧ n ≤ 8) ∧ (1 ≤ ps.length ∧ ps.length ≤ 4) ∧ ∀ p ∈ ps, 0 ≤ p ∧ p ≤ 3 * n - 1 := by
  simp only [isT, Bool.and_eq_true, inR_iff, List.all_eq_true]
  constructor
  · rintro ⟨⟨h1, h2⟩, h3⟩; exact ⟨h1, by omega, h3⟩
  · rintro ⟨h1, h2, h3⟩; exact ⟨⟨h1, by omega⟩, h3⟩

def f_spec_IsTraffic_l0 (y1 : Int) (b : Int) : (Unit) → Nat ⊕ (Unit)
  | _ => (bif ((!spec_l01In_0 (b) (0 : Int) (IntKind.wrap IntKind.i64 (IntKind.wrap IntKind.i64 ((3 : Int) * y1) - (1 : Int))))) then (.inl 0) else (.inr ()))

def st_spec_IsTraffic_l0 (y1 : Int) (y2 : List Int) (i : Nat) : (Unit) → X_spec_IsTraffic_l0
  | _ => ((i : Int), y1, y2)

def pr_spec_IsTraffic_l0 : X_spec_IsTraffic_l0 → Unit
  | (_, _, _) => ()

theorem w_spec_IsTraffic_l0 (y1 : Int) (y2 : List Int)  (hn : y2.length ≤ 9223372036854775807)  :
    lp_spec_IsTraffic_l0.fin ((0 : Int), y1, y2) = true ∧ lp_spec_IsTraffic_l0.res ((0 : Int), y1, y2) = ((walkL (f_spec_IsTraffic_l0 y1) 1 y2 0 ()).1, (st_spec_IsTraffic_l0 y1 y2) (walkL (f_spec_IsTraffic_l0 y1) 1 y2 0 ()).2.1 (walkL (f_spec_IsTraffic_l0 y1) 1 y2 0 ()).2.2) := by
  have key := lp_spec_IsTraffic_l0.along (st_spec_IsTraffic_l0 y1 y2) pr_spec_IsTraffic_l0 (f_spec_IsTraffic_l0 y1) 1 (fun _ _ => True) y2 () (by trivial) (by simp only [lp_spec_IsTraffic_l0, st_spec_IsTraffic_l0]; omega) (fun i b a hb hI => ?_) (fun a hI => ?_)
  · exact key
  · obtain ⟨⟩ := a
    have hlt := (List.getElem?_eq_some_iff.1 hb).1
    have hget : ∀ d, Option.getD y2[i]? d = b := fun d => by rw [hb]; rfl
    have hw := wrap64 hlt hn
    have hdec : ltI (i : Int) (y2.length : Int) = true := ltI_t (by omega)
    have hnn : leI (0 : Int) (i : Int) = true := leI_t (by omega)
    have hltd : ltN i y2.length = true := ltN_t hlt
    refine ⟨?_, ?_, ?_, ?_⟩
    · simp [spec_IsTraffic_l0_0, spec_IsTraffic_l0_1, spec_IsTraffic_l0_2, spec_IsTraffic_l0_3, spec_IsTraffic_l0_4, lt_spec_IsTraffic_l0, lp_spec_IsTraffic_l0, LT.nds, allT, st_spec_IsTraffic_l0, hdec, hnn, hltd, hget]
    · simp [spec_IsTraffic_l0_0, spec_IsTraffic_l0_1, spec_IsTraffic_l0_2, spec_IsTraffic_l0_3, spec_IsTraffic_l0_4, lt_spec_IsTraffic_l0, lp_spec_IsTraffic_l0, LT.each, st_spec_IsTraffic_l0, pr_spec_IsTraffic_l0, hw]
    · simp only [spec_IsTraffic_l0_0, spec_IsTraffic_l0_1, spec_IsTraffic_l0_2, spec_IsTraffic_l0_3, spec_IsTraffic_l0_4, lt_spec_IsTraffic_l0, lp_spec_IsTraffic_l0, LT.fn, st_spec_IsTraffic_l0, pr_spec_IsTraffic_l0, f_spec_IsTraffic_l0, Int.toNat_natCast, hdec, hnn, hltd, hget, cond_true, Bool.cond_self]
    · exact fun _ _ => trivial
  · obtain ⟨⟩ := a
    simp [spec_IsTraffic_l0_0, spec_IsTraffic_l0_1, spec_IsTraffic_l0_2, spec_IsTraffic_l0_3, spec_IsTraffic_l0_4, lt_spec_IsTraffic_l0, lp_spec_IsTraffic_l0, LT.out, st_spec_IsTraffic_l0]

def f_slices_IndexFunc_int64_int64_q1_l0 (y2 : Int) (b : Int) : (Unit) → Nat ⊕ (Unit)
  | _ => (bif ((impl_IsTraffic_1_q2_0 (b) y2)) then (.inl 0) else (.inr ()))

def st_slices_IndexFunc_int64_int64_q1_l0 (y2 : Int) (y3 : List Int) (i : Nat) : (Unit) → X_slices_IndexFunc_int64_int64_q1_l0
  | _ => ((i : Int), (↑(List.length y3) : Int), y2, y3)

def pr_slices_IndexFunc_int64_int64_q1_l0 : X_slices_IndexFunc_int64_int64_q1_l0 → Unit
  | (_, _, _, _) => ()

theorem w_slices_IndexFunc_int64_int64_q1_l0 (y2 : Int) (y3 : List Int)  (hn : y3.length ≤ 9223372036854775807)  :
    lp_slices_IndexFunc_int64_int64_q1_l0.fin ((0 : Int), (↑(List.length y3) : Int), y2, y3) = true ∧ lp_slices_IndexFunc_int64_int64_q1_l0.res ((0 : Int), (↑(List.length y3) : Int), y2, y3) = ((walkL (f_slices_IndexFunc_int64_int64_q1_l0 y2) 1 y3 0 ()).1, (st_slices_IndexFunc_int64_int64_q1_l0 y2 y3) (walkL (f_slices_IndexFunc_int64_int64_q1_l0 y2) 1 y3 0 ()).2.1 (walkL (f_slices_IndexFunc_int64_int64_q1_l0 y2) 1 y3 0 ()).2.2) := by
  have key := lp_slices_IndexFunc_int64_int64_q1_l0.along (st_slices_IndexFunc_int64_int64_q1_l0 y2 y3) pr_slices_IndexFunc_int64_int64_q1_l0 (f_slices_IndexFunc_int64_int64_q1_l0 y2) 1 (fun _ _ => True) y3 () (by trivial) (by simp only [lp_slices_IndexFunc_int64_int64_q1_l0, st_slices_IndexFunc_int64_int64_q1_l0]; omega) (fun i b a hb hI => ?_) (fun a hI => ?_)
  · exact key
  · obtain ⟨⟩ := a
    have hlt := (List.getElem?_eq_some_iff.1 hb).1
    have hget : ∀ d, Option.getD y3[i]? d = b := fun d => by rw [hb]; rfl
    have hw := wrap64 hlt hn
    have hdec : ltI (i : Int) (y3.length : Int) = true := ltI_t (by omega)
    have hnn : leI (0 : Int) (i : Int) = true := leI_t (by omega)
    have hltd : ltN i y3.length = true := ltN_t hlt
    refine ⟨?_, ?_, ?_, ?_⟩
    · simp [slices_IndexFunc_int64_int64_q1_l0_0, slices_IndexFunc_int64_int64_q1_l0_1, slices_IndexFunc_int64_int64_q1_l0_2, slices_IndexFunc_int64_int64_q1_l0_3, slices_IndexFunc_int64_int64_q1_l0_4, slices_IndexFunc_int64_int64_q1_l0_5, lt_slices_IndexFunc_int64_int64_q1_l0, lp_slices_IndexFunc_int64_int64_q1_l0, LT.nds, allT, st_slices_IndexFunc_int64_int64_q1_l0, hdec, hnn, hltd, hget]
    · simp [slices_IndexFunc_int64_int64_q1_l0_0, slices_IndexFunc_int64_int64_q1_l0_1, slices_IndexFunc_int64_int64_q1_l0_2, slices_IndexFunc_int64_int64_q1_l0_3, slices_IndexFunc_int64_int64_q1_l0_4, slices_IndexFunc_int64_int64_q1_l0_5, lt_slices_IndexFunc_int64_int64_q1_l0, lp_slices_IndexFunc_int64_int64_q1_l0, LT.each, st_slices_IndexFunc_int64_int64_q1_l0, pr_slices_IndexFunc_int64_int64_q1_l0, hw]
    · simp only [slices_IndexFunc_int64_int64_q1_l0_0, slices_IndexFunc_int64_int64_q1_l0_1, slices_IndexFunc_int64_int64_q1_l0_2, slices_IndexFunc_int64_int64_q1_l0_3, slices_IndexFunc_int64_int64_q1_l0_4, slices_IndexFunc_int64_int64_q1_l0_5, lt_slices_IndexFunc_int64_int64_q1_l0, lp_slices_IndexFunc_int64_int64_q1_l0, LT.fn, st_slices_IndexFunc_int64_int64_q1_l0, pr_slices_IndexFunc_int64_int64_q1_l0, f_slices_IndexFunc_int64_int64_q1_l0, Int.toNat_natCast, hdec, hnn, hltd, hget, cond_true, Bool.cond_self]
    · exact fun _ _ => trivial
  · obtain ⟨⟩ := a
    simp [slices_IndexFunc_int64_int64_q1_l0_0, slices_IndexFunc_int64_int64_q1_l0_1, slices_IndexFunc_int64_int64_q1_l0_2, slices_IndexFunc_int64_int64_q1_l0_3, slices_IndexFunc_int64_int64_q1_l0_4, slices_IndexFunc_int64_int64_q1_l0_5, lt_slices_IndexFunc_int64_int64_q1_l0, lp_slices_IndexFunc_int64_int64_q1_l0, LT.out, st_slices_IndexFunc_int64_int64_q1_l0]

def f_laws_toInt64S_l0 (y1 : List Int) (b : Nat) : (List Int) → Nat ⊕ (List Int)
  | y2 => (.inr ((List.set y2 (b) (Option.getD y1[b]? (0 : Int)))))

def st_laws_toInt64S_l0 (y1 : List Int) (i : Nat) : (List Int) → X_laws_toInt64S_l0
  | y2 => ((i : Int), y1, y2)

def pr_laws_toInt64S_l0 : X_laws_toInt64S_l0 → List Int
  | (_, _, y2) => y2

theorem w_laws_toInt64S_l0 (y1 : List Int) (y2 : List Int) (hn : y1.length ≤ 9223372036854775807) (hl : y2.length = y1.length) :
    lp_laws_toInt64S_l0.fin ((0 : Int), y1, y2) = true ∧ lp_laws_toInt64S_l0.res ((0 : Int), y1, y2) = ((walkL (f_laws_toInt64S_l0 y1) 0 (List.range y1.length) 0 y2).1, (st_laws_toInt64S_l0 y1) (walkL (f_laws_toInt64S_l0 y1) 0 (List.range y1.length) 0 y2).2.1 (walkL (f_laws_toInt64S_l0 y1) 0 (List.range y1.length) 0 y2).2.2) := by
  have key := lp_laws_toInt64S_l0.along (st_laws_toInt64S_l0 y1) pr_laws_toInt64S_l0 (f_laws_toInt64S_l0 y1) 0 (fun _ a => a.length = y1.length) (List.range y1.length) y2 hl (by simp only [lp_laws_toInt64S_l0, st_laws_toInt64S_l0, List.length_range]; omega) (fun i b a hb hI => ?_) (fun a hI => ?_)
  · exact key
  · obtain y2 := a
    obtain ⟨rfl, hlt⟩ := range_get hb
    have hw : IntKind.i64.wrap ((b : Int) + 1) = ((b + 1 : Nat) : Int) := by rw [wrap_i64 (by omega) (by omega)]; omega
    have hdec : ltI (b : Int) (y1.length : Int) = true := ltI_t (by omega)
    have hnn : leI (0 : Int) (b : Int) = true := leI_t (by omega)
    have hltd : ltN b y1.length = true := ltN_t (by omega)
    refine ⟨?_, ?_, ?_, ?_⟩
    · simp [laws_toInt64S_l0_0, laws_toInt64S_l0_1, laws_toInt64S_l0_2, laws_toInt64S_l0_3, laws_toInt64S_l0_4, laws_toInt64S_l0_5, laws_toInt64S_l0_6, lt_laws_toInt64S_l0, lp_laws_toInt64S_l0, LT.nds, allT, st_laws_toInt64S_l0, hdec, hnn, hltd, hI]
    · simp [laws_toInt64S_l0_0, laws_toInt64S_l0_1, laws_toInt64S_l0_2, laws_toInt64S_l0_3, laws_toInt64S_l0_4, laws_toInt64S_l0_5, laws_toInt64S_l0_6, lt_laws_toInt64S_l0, lp_laws_toInt64S_l0, LT.each, st_laws_toInt64S_l0, pr_laws_toInt64S_l0, hw, hI]
    · simp only [laws_toInt64S_l0_0, laws_toInt64S_l0_1, laws_toInt64S_l0_2, laws_toInt64S_l0_3, laws_toInt64S_l0_4, laws_toInt64S_l0_5, laws_toInt64S_l0_6, lt_laws_toInt64S_l0, lp_laws_toInt64S_l0, LT.fn, st_laws_toInt64S_l0, pr_laws_toInt64S_l0, f_laws_toInt64S_l0, Int.toNat_natCast, hdec, cond_true]
    · intro a' hf; simp only [f_laws_toInt64S_l0, Sum.inr.injEq] at hf; subst hf; simpa using hI
  · obtain y2 := a
    simp [laws_toInt64S_l0_0, laws_toInt64S_l0_1, laws_toInt64S_l0_2, laws_toInt64S_l0_3, laws_toInt64S_l0_4, laws_toInt64S_l0_5, laws_toInt64S_l0_6, lt_laws_toInt64S_l0, lp_laws_toInt64S_l0, LT.out, st_laws_toInt64S_l0, List.length_range]

def f_laws_eqInt64S_l0 (y1 : List Int) (y2 : List Int) (b : Nat) : (Unit) → Nat ⊕ (Unit)
  | _ => (bif ((Option.getD y1[b]? (0 : Int) != Option.getD y2[b]? (0 : Int))) then (.inl 0) else (.inr ()))

def st_laws_eqInt64S_l0 (y1 : List Int) (y2 : List Int) (i : Nat) : (Unit) → X_laws_eqInt64S_l0
  | _ => ((i : Int), y1, y2)

def pr_laws_eqInt64S_l0 : X_laws_eqInt64S_l0 → Unit
  | (_, _, _) => ()

theorem w_laws_eqInt64S_l0 (y1 : List Int) (y2 : List Int)  (hn : y1.length ≤ 9223372036854775807) (he : y2.length = y1.length) :
    lp_laws_eqInt64S_l0.fin ((0 : Int), y1, y2) = true ∧ lp_laws_eqInt64S_l0.res ((0 : Int), y1, y2) = ((walkL (f_laws_eqInt64S_l0 y1 y2) 1 (List.range y1.length) 0 ()).1, (st_laws_eqInt64S_l0 y1 y2) (walkL (f_laws_eqInt64S_l0 y1 y2) 1 (List.range y1.length) 0 ()).2.1 (walkL (f_laws_eqInt64S_l0 y1 y2) 1 (List.range y1.length) 0 ()).2.2) := by
  have key := lp_laws_eqInt64S_l0.along (st_laws_eqInt64S_l0 y1 y2) pr_laws_eqInt64S_l0 (f_laws_eqInt64S_l0 y1 y2) 1 (fun _ _ => True) (List.range y1.length) () (by trivial) (by simp only [lp_laws_eqInt64S_l0, st_laws_eqInt64S_l0, List.length_range]; omega) (fun i b a hb hI => ?_) (fun a hI => ?_)
  · exact key
  · obtain ⟨⟩ := a
    obtain ⟨rfl, hlt⟩ := range_get hb
    have hw : IntKind.i64.wrap ((b : Int) + 1) = ((b + 1 : Nat) : Int) := by rw [wrap_i64 (by omega) (by omega)]; omega
    have hdec : ltI (b : Int) (y1.length : Int) = true := ltI_t (by omega)
    have hnn : leI (0 : Int) (b : Int) = true := leI_t (by omega)
    have hltd : ltN b y1.length = true := ltN_t (by omega)
    refine ⟨?_, ?_, ?_, ?_⟩
    · simp [laws_eqInt64S_l0_0, laws_eqInt64S_l0_1, laws_eqInt64S_l0_2, laws_eqInt64S_l0_3, laws_eqInt64S_l0_4, laws_eqInt64S_l0_5, laws_eqInt64S_l0_6, lt_laws_eqInt64S_l0, lp_laws_eqInt64S_l0, LT.nds, allT, st_laws_eqInt64S_l0, hdec, hnn, hltd, he]
    · simp [laws_eqInt64S_l0_0, laws_eqInt64S_l0_1, laws_eqInt64S_l0_2, laws_eqInt64S_l0_3, laws_eqInt64S_l0_4, laws_eqInt64S_l0_5, laws_eqInt64S_l0_6, lt_laws_eqInt64S_l0, lp_laws_eqInt64S_l0, LT.each, st_laws_eqInt64S_l0, pr_laws_eqInt64S_l0, hw, he]
    · simp only [laws_eqInt64S_l0_0, laws_eqInt64S_l0_1, laws_eqInt64S_l0_2, laws_eqInt64S_l0_3, laws_eqInt64S_l0_4, laws_eqInt64S_l0_5, laws_eqInt64S_l0_6, lt_laws_eqInt64S_l0, lp_laws_eqInt64S_l0, LT.fn, st_laws_eqInt64S_l0, pr_laws_eqInt64S_l0, f_laws_eqInt64S_l0, Int.toNat_natCast, hdec, cond_true]
    · exact fun _ _ => trivial
  · obtain ⟨⟩ := a
    simp [laws_eqInt64S_l0_0, laws_eqInt64S_l0_1, laws_eqInt64S_l0_2, laws_eqInt64S_l0_3, laws_eqInt64S_l0_4, laws_eqInt64S_l0_5, laws_eqInt64S_l0_6, lt_laws_eqInt64S_l0, lp_laws_eqInt64S_l0, LT.out, st_laws_eqInt64S_l0, List.length_range]

def f_slices_Max_int64_int64_l0  (b : Int) : (Int) → Nat ⊕ (Int)
  | y1 => (.inr ((ifLt y1 ((b)) ((b)) y1)))

def st_slices_Max_int64_int64_l0 (y2 : List Int) (i : Nat) : (Int) → X_slices_Max_int64_int64_l0
  | y1 => (((i + 1 : Nat) : Int), y1, y2)

def pr_slices_Max_int64_int64_l0 : X_slices_Max_int64_int64_l0 → Int
  | (_, y1, _) => y1

theorem w_slices_Max_int64_int64_l0 (y2 : List Int) (y1 : Int) (hn : y2.length ≤ 9223372036854775807)  :
    lp_slices_Max_int64_int64_l0.fin ((1 : Int), y1, y2) = true ∧ lp_slices_Max_int64_int64_l0.res ((1 : Int), y1, y2) = ((walkL (f_slices_Max_int64_int64_l0) 0 (y2.drop 1) 0 y1).1, (st_slices_Max_int64_int64_l0 y2) (walkL (f_slices_Max_int64_int64_l0) 0 (y2.drop 1) 0 y1).2.1 (walkL (f_slices_Max_int64_int64_l0) 0 (y2.drop 1) 0 y1).2.2) := by
  have key := lp_slices_Max_int64_int64_l0.along (st_slices_Max_int64_int64_l0 y2) pr_slices_Max_int64_int64_l0 (f_slices_Max_int64_int64_l0) 0 (fun _ _ => True) (y2.drop 1) y1 (by trivial) (by simp only [lp_slices_Max_int64_int64_l0, st_slices_Max_int64_int64_l0, List.length_drop]; omega) (fun i b a hb hI => ?_) (fun a hI => ?_)
  · exact key
  · obtain y1 := a
    rw [List.getElem?_drop, Nat.add_comm] at hb
    have hlt := (List.getElem?_eq_some_iff.1 hb).1
    have hget : ∀ d, Option.getD y2[i + 1]? d = b := fun d => by rw [hb]; rfl
    have hw : IntKind.i64.wrap (((i + 1 : Nat) : Int) + 1) = ((i + 1 + 1 : Nat) : Int) := by rw [wrap_i64 (by omega) (by omega)]; omega
    have hdec : ltI ((i + 1 : Nat) : Int) (y2.length : Int) = true := ltI_t (by omega)
    have hnn : leI (0 : Int) ((i + 1 : Nat) : Int) = true := leI_t (by omega)
    have hltd : ltN (i + 1) y2.length = true := ltN_t hlt
    refine ⟨?_, ?_, ?_, ?_⟩
    · simp only [slices_Max_int64_int64_l0_a0, slices_Max_int64_int64_l0_0, slices_Max_int64_int64_l0_1, slices_Max_int64_int64_l0_2, slices_Max_int64_int64_l0_3, slices_Max_int64_int64_l0_4, lt_slices_Max_int64_int64_l0, lp_slices_Max_int64_int64_l0, LT.nds, allT, st_slices_Max_int64_int64_l0, Int.toNat_natCast, hdec, hnn, hltd, hget, cond_true]
    · simp only [slices_Max_int64_int64_l0_a0, slices_Max_int64_int64_l0_0, slices_Max_int64_int64_l0_1, slices_Max_int64_int64_l0_2, slices_Max_int64_int64_l0_3, slices_Max_int64_int64_l0_4, lt_slices_Max_int64_int64_l0, lp_slices_Max_int64_int64_l0, LT.each, st_slices_Max_int64_int64_l0, pr_slices_Max_int64_int64_l0, hw, and_self]
    · simp only [slices_Max_int64_int64_l0_a0, slices_Max_int64_int64_l0_0, slices_Max_int64_int64_l0_1, slices_Max_int64_int64_l0_2, slices_Max_int64_int64_l0_3, slices_Max_int64_int64_l0_4, lt_slices_Max_int64_int64_l0, lp_slices_Max_int64_int64_l0, LT.fn, st_slices_Max_int64_int64_l0, pr_slices_Max_int64_int64_l0, f_slices_Max_int64_int64_l0, Int.toNat_natCast, hdec, hnn, hltd, hget, cond_true, Bool.cond_self]
    · exact fun _ _ => trivial
  · obtain y1 := a
    simp only [slices_Max_int64_int64_l0_a0, slices_Max_int64_int64_l0_0, slices_Max_int64_int64_l0_1, slices_Max_int64_int64_l0_2, slices_Max_int64_int64_l0_3, slices_Max_int64_int64_l0_4, lt_slices_Max_int64_int64_l0, lp_slices_Max_int64_int64_l0, LT.out, st_slices_Max_int64_int64_l0, List.length_drop]; rw [show ltI (((y2.length - 1) + 1 : Nat) : Int) (y2.length : Int) = false from ltI_f (by omega)]; rfl

/-! ### Copies, comparisons, marks -/

theorem toInts_ok (xs : List Int) (hn : leN xs.length 1048576 = true) : laws_toInt64S_0 xs = xs ∧ laws_toInt64S_1 xs = true := by
  have hn := leN_iff.1 hn
  have hr : (List.replicate (Int.toNat (xs.length : Int)) (0 : Int)).length = xs.length := by simp
  obtain ⟨w1, w2⟩ := w_laws_toInt64S_l0 xs (List.replicate (Int.toNat (xs.length : Int)) (0 : Int)) (by omega) hr
  have hc := walk_copy (xs := xs) (d := (0 : Int)) (g := fun x => x) (f := f_laws_toInt64S_l0 xs) (e := 0) (fun b a => rfl) hr
  rw [hc] at w2
  refine ⟨?_, ?_⟩
  · simp only [laws_toInt64S_a0, laws_toInt64S_0, laws_toInt64S_1, w2, st_laws_toInt64S_l0]; simp
  · simp only [laws_toInt64S_a0, laws_toInt64S_0, laws_toInt64S_1, w1, allT]; simp; omega

def N_laws_toInt64S : List SV → List Entry → Option Out
  | [.one ⟨false, [.ref 0]⟩], [.row false 2 (.int .i64) x0] => some ⟨(.one ⟨false, [(.ref 1)]⟩), [(.row false 2 (CTy.int IntKind.i64) x0)], [(.row true 2 (CTy.int IntKind.i64) (x0))], [leN x0.length 1048576]⟩
  | _, _ => none

def n_laws_toInt64S : PF Tryz.prog := PF.alt p_laws_toInt64S N_laws_toInt64S (by
  intro args es o h hnd; unfold N_laws_toInt64S at h; split at h
  · rename_i x0
    cases h
    have hnd := nd_fst hnd
    have hh := toInts_ok x0 hnd
    obtain ⟨e0, en⟩ := hh
    exact altok rfl (nd_one en) rfl rfl (by simp only [e0] <;> rfl)
  · cases h)

theorem eqInts_ok (xs ys : List Int) (hn : leN xs.length 9223372036854775807 = true) : laws_eqInt64S_0 xs ys = eqL xs ys ∧ laws_eqInt64S_1 xs ys = true := by
  have hn := leN_iff.1 hn
  unfold eqL
  by_cases hl : ys.length = xs.length
  · obtain ⟨w1, w2⟩ := w_laws_eqInt64S_l0 xs ys hn hl
    have ha := any_ne (d := (0 : Int)) hl (P := fun b => Option.getD xs[b]? 0 != Option.getD ys[b]? 0) (fun b => by simp [bne, BEq.beq])
    rw [walk_stop (P := fun b => Option.getD xs[b]? 0 != Option.getD ys[b]? 0) (j := 0) (fun b => rfl), ha] at w2
    simp only [laws_eqInt64S_a0, laws_eqInt64S_a1, laws_eqInt64S_0, laws_eqInt64S_1, w1, w2, allT]
    by_cases he : xs = ys
    · subst he; simp; decide
    · simp [he, hl]
  · have hne : xs ≠ ys := fun h => hl (by rw [h])
    simp [laws_eqInt64S_a0, laws_eqInt64S_a1, laws_eqInt64S_0, laws_eqInt64S_1, allT, hne]
    omega

def N_laws_eqInt64S : List SV → List Entry → Option Out
  | [.one ⟨false, [.ref 0]⟩, .one ⟨false, [.ref 1]⟩], [.row false 2 (.int .i64) x0, .row false 2 (.int .i64) x1] => some ⟨(.one ⟨false, [(.val (.bool (eqL x0 x1)))]⟩), [(.row false 2 (CTy.int IntKind.i64) x0), (.row false 2 (CTy.int IntKind.i64) x1)], [], [leN x0.length 9223372036854775807]⟩
  | _, _ => none

def n_laws_eqInt64S : PF Tryz.prog := PF.alt p_laws_eqInt64S N_laws_eqInt64S (by
  intro args es o h hnd; unfold N_laws_eqInt64S at h; split at h
  · rename_i x0 x1
    cases h
    have hnd := nd_fst hnd
    have hh := eqInts_ok x0 x1 hnd
    obtain ⟨e0, en⟩ := hh
    exact altok rfl (nd_one en) (by simp only [e0] <;> rfl) rfl rfl
  · cases h)

def szV (k : Int) (xs : List Int) : Int := bif ltI (k - xs.length) 0 then -1 else k - xs.length

theorem szInts_ok (k : Int) (xs : List Int) (h : (leN xs.length 9223372036854775807 && (leI (-1) k && leI k 1048576)) = true) : laws_szInt64S_0 k xs = szV k xs := by
  simp only [Bool.and_eq_true, leN_iff, leI_iff] at h
  simp only [laws_szInt64S_a0, laws_szInt64S_0, szV]
  rw [wrap_i64 (by omega) (by omega)]

def N_laws_szInt64S : List SV → List Entry → Option Out
  | [.one ⟨false, [.ref 0]⟩, .one ⟨false, [.val (.int .i64 x0)]⟩], [.row false 2 (.int .i64) x1] => some ⟨(.one ⟨false, [(.val (.int IntKind.i64 (szV x0 x1)))]⟩), [(.row false 2 (CTy.int IntKind.i64) x1)], [], [leN x1.length 9223372036854775807 && (leI (-1) x0 && leI x0 1048576)]⟩
  | _, _ => none

def n_laws_szInt64S : PF Tryz.prog := PF.alt p_laws_szInt64S N_laws_szInt64S (by
  intro args es o h hnd; unfold N_laws_szInt64S at h; split at h
  · rename_i x0 x1
    cases h
    have hnd := nd_fst hnd
    have hh := szInts_ok x0 x1 hnd
    have e0 := hh
    exact altok rfl (fun _ h => by cases h) (by simp only [e0] <;> rfl) rfl rfl
  · cases h)

/-! ### Valid traffics -/

theorem place_bound {n : Int} (h : 2 ≤ n ∧ n ≤ 8) : IntKind.i64.wrap (IntKind.i64.wrap (3 * n) - 1) = 3 * n - 1 := by
  rw [wrap_i64 (x := 3 * n) (by omega) (by omega), wrap_i64 (by omega) (by omega)]

theorem specIsT_ok (n : Int) (ps : List Int) : spec_IsTraffic_0 n ps = isT n ps ∧ spec_IsTraffic_1 n ps = true := by
  simp only [spec_IsTraffic_a0, spec_IsTraffic_a1, spec_IsTraffic_0, spec_IsTraffic_1, spec_l01In_0, inR_eq, isT]
  cases h1 : inR n 2 8 with
  | false => simp [allT]
  | true =>
    cases h2 : inR (ps.length : Int) 1 4 with
    | false => simp [allT]
    | true =>
      have h2' := inR_iff.1 h2
      obtain ⟨w1, w2⟩ := w_spec_IsTraffic_l0 n ps (by omega)
      rw [walk_stop (P := fun b => !inR b 0 (3 * n - 1)) (j := 0) (fun b => by simp only [f_spec_IsTraffic_l0, place_bound (inR_iff.1 h1), spec_l01In_0, inR_eq])] at w2
      have e5 : (ps.any fun b => !inR b 0 (3 * n - 1)) = !(ps.all fun b => inR b 0 (3 * n - 1)) := by simp [List.all_eq_not_any_not]
      rw [e5] at w2
      simp only [w1, w2, allT]
      cases (ps.all fun b => inR b 0 (3 * n - 1)) <;> simp <;> rfl

def N_spec_IsTraffic : List SV → List Entry → Option Out
  | [.one ⟨true, [.val (.int .i64 x0), .ref 0]⟩], [.row false 2 (.int .i64) x1] => some ⟨(.one ⟨false, [(.val (.bool (isT x0 x1)))]⟩), [(.row false 2 (CTy.int IntKind.i64) x1)], [], []⟩
  | _, _ => none

def n_spec_IsTraffic : PF Tryz.prog := PF.alt p_spec_IsTraffic N_spec_IsTraffic (by
  intro args es o h hnd; unfold N_spec_IsTraffic at h; split at h
  · rename_i x0 x1
    cases h
    have hh := specIsT_ok x0 x1
    obtain ⟨e0, en⟩ := hh
    exact altok rfl (nd_one en) (by simp only [e0] <;> rfl) rfl rfl
  · cases h)

theorem contains_ok (n : Int) (h : 2 ≤ n ∧ n ≤ 8) (ps : List Int) (hn : ps.length ≤ 9223372036854775807) :
    slices_ContainsFunc_int64_int64_q0_0 ps n = (ps.any fun b => !inR b 0 (3 * n - 1)) ∧ slices_ContainsFunc_int64_int64_q0_2 ps n = true := by
  obtain ⟨w1, w2⟩ := w_slices_IndexFunc_int64_int64_q1_l0 n ps hn
  rw [walk_stop (P := fun b => !inR b 0 (3 * n - 1)) (j := 0) (fun b => by simp only [f_slices_IndexFunc_int64_int64_q1_l0, impl_IsTraffic_1_q2_0, place_bound h, impl_within_0, inR_eq])] at w2
  simp only [slices_ContainsFunc_int64_int64_q0_0, slices_ContainsFunc_int64_int64_q0_1, slices_ContainsFunc_int64_int64_q0_2, slices_IndexFunc_int64_int64_q1_a0, slices_IndexFunc_int64_int64_q1_a1, slices_IndexFunc_int64_int64_q1_0, slices_IndexFunc_int64_int64_q1_1, slices_IndexFunc_int64_int64_q1_2, w1, w2, allT, cond_true, and_true, st_slices_IndexFunc_int64_int64_q1_l0]
  cases (ps.any fun b => !inR b 0 (3 * n - 1)) with
  | true => exact leI_t (Int.natCast_nonneg _)
  | false => rfl

theorem implIsT_ok (n : Int) (ps : List Int) : impl_IsTraffic_0 n ps = isT n ps ∧ impl_IsTraffic_1 n ps = true := by
  simp only [impl_IsTraffic_a0, impl_IsTraffic_0, impl_IsTraffic_1, impl_isBlockCount_0, impl_within_0, impl_length_int64_0, inR_eq, isT]
  cases h1 : inR n 2 8 with
  | false => simp [allT]
  | true =>
    cases h2 : inR (ps.length : Int) 1 4 with
    | false => simp [allT]
    | true =>
      have h2' := inR_iff.1 h2
      obtain ⟨c1, c2⟩ := contains_ok n (inR_iff.1 h1) ps (by omega)
      simp only [c1, c2, allT]
      simp [List.all_eq_not_any_not]

def N_impl_IsTraffic : List SV → List Entry → Option Out
  | [.one ⟨true, [.val (.int .i64 x0), .ref 0]⟩], [.row false 2 (.int .i64) x1] => some ⟨(.one ⟨false, [(.val (.bool (isT x0 x1)))]⟩), [(.row false 2 (CTy.int IntKind.i64) x1)], [], []⟩
  | _, _ => none

def n_impl_IsTraffic : PF Tryz.prog := PF.alt p_impl_IsTraffic N_impl_IsTraffic (by
  intro args es o h hnd; unfold N_impl_IsTraffic at h; split at h
  · rename_i x0 x1
    cases h
    have hh := implIsT_ok x0 x1
    obtain ⟨e0, en⟩ := hh
    exact altok rfl (nd_one en) (by simp only [e0] <;> rfl) rfl rfl
  · cases h)

def hasT (ps : List Int) (t : Int) : Bool := inR t 0 ((ps.length : Int) - 1)

theorem hasT_iff {ps : List Int} {t : Int} : hasT ps t = true ↔ 0 ≤ t ∧ t < ps.length := by
  rw [hasT, inR_iff]; omega

/-! ### Uses -/

def okP (n p : Int) : Bool := inR n 2 8 && inR p 0 (3 * n - 1)

theorem okP_iff {n p : Int} : okP n p = true ↔ (2 ≤ n ∧ n ≤ 8) ∧ 0 ≤ p ∧ p ≤ 3 * n - 1 := by simp [okP, inR_iff]

theorem isT_okP {n : Int} {ps : List Int} (h : isT n ps = true) {p : Int} (hp : p ∈ ps) : okP n p = true := by
  obtain ⟨h1, _, h3⟩ := isT_iff.1 h
  exact okP_iff.2 ⟨h1, h3 p hp⟩

theorem blk_eq {p : Int} (h : 0 ≤ p) : blk p = p / 3 := by rw [blk, Int.tdiv_eq_ediv_of_nonneg h]
theorem uses_ok (n p b : Int) (h : okP n p = true) : spec_l10Uses_0 n p b = usesB n p b ∧ spec_l10Uses_1 n p b = true := by
  obtain ⟨⟨h1, h2⟩, h3, h4⟩ := okP_iff.1 h
  have e1 : IntKind.i64.wrap (Int.tdiv p 3) = blk p := by
    rw [Int.tdiv_eq_ediv_of_nonneg h3, blk_eq h3, wrap_i64 (by omega) (by omega)]
  have e2 : IntKind.i64.wrap (blk p + 1) = blk p + 1 := by rw [blk_eq h3, wrap_i64 (by omega) (by omega)]
  refine ⟨?_, ?_⟩
  · simp only [spec_l10Uses_a0, spec_l10Uses_a1, spec_l10Uses_0, spec_l10Uses_1, e1, e2, usesB, phs]
    cases (blk p == b) <;> cases (Int.tmod p 3 == 2) <;> simp
  · have hn : neI n 0 = true := neI_t (by omega)
    simp [spec_l10Uses_1, allT, hn]

def N_spec_l10Uses : List SV → List Entry → Option Out
  | [.one ⟨false, [.val (.int .i64 x0)]⟩, .one ⟨false, [.val (.int .i64 x1)]⟩, .one ⟨false, [.val (.int .i64 x2)]⟩], [] => some ⟨(.one ⟨false, [(.val (.bool (usesB x0 x1 x2)))]⟩), [], [], [okP x0 x1]⟩
  | _, _ => none

def n_spec_l10Uses : PF Tryz.prog := PF.alt p_spec_l10Uses N_spec_l10Uses (by
  intro args es o h hnd; unfold N_spec_l10Uses at h; split at h
  · rename_i x0 x1 x2
    cases h
    have hnd := nd_fst hnd
    have hh := uses_ok x0 x1 x2 hnd
    obtain ⟨e0, en⟩ := hh
    exact altok rfl (nd_one en) (by simp only [e0] <;> rfl) rfl rfl
  · cases h)

end Go.SX

/- Lists of lists: copies, comparisons, marks; in plain words. -/
import Derived.Test.YtepaifhehlpbaaaDoorRh
namespace Go.SX
open Go.Proofs
set_option maxRecDepth 100000

def totN (ll : List (List Int)) : Nat := (ll.map List.length).sum
def upSS : Int → List (List Int) → List (List Int)
  | _, [] => []
  | k, l :: r => upFrom k l.length :: upSS (k + l.length) r
def szGo : Int → List (List Int) → Int
  | k, [] => k
  | k, l :: r => bif ltI (szV k l) 0 then -1 else szGo (szV k l) r
def szSS (k : Int) (ll : List (List Int)) : Int := bif ltI (k - ll.length) 0 then -1 else szGo (k - ll.length) ll
def eqSS (xs ys : List (List Int)) : Bool := decide (xs = ys)

theorem eqSS_refl (xs : List (List Int)) : eqSS xs xs = true := by simp [eqSS]

theorem totN_append (a b : List (List Int)) : totN (a ++ b) = totN a + totN b := by simp [totN]

theorem upSS_append : ∀ (a b : List (List Int)) (k : Int), upSS k (a ++ b) = upSS k a ++ upSS (k + totN a) b
  | [], b, k => by simp [upSS, totN]
  | l :: a, b, k => by
    simp only [List.cons_append, upSS, upSS_append a b]
    congr 3
    simp [totN]; omega

theorem upSS_length : ∀ (a : List (List Int)) (k : Int), (upSS k a).length = a.length
  | [], _ => rfl
  | l :: a, k => by simp [upSS, upSS_length a]

theorem totN_le {x : List Int} {xs : List (List Int)} (h : x ∈ xs) : x.length ≤ totN xs := by
  induction xs with
  | nil => cases h
  | cons l r ih =>
    simp only [totN, List.map_cons, List.sum_cons]
    rcases List.mem_cons.1 h with rfl | h
    · omega
    · have := ih h; simp only [totN] at this; omega

theorem szGo_small : ∀ (r : List (List Int)) (k : Int), ltI (szGo k r) 0 = false → (totN r : Int) ≤ k
  | [], k, h => by simp [totN]; have := ltI_not.1 h; simpa [szGo] using this
  | l :: r, k, h => by
    simp only [szGo] at h
    cases h1 : ltI (szV k l) 0 with
    | true => rw [h1] at h; simp at h
    | false =>
      rw [h1, cond_false] at h
      have h2 := szGo_small r _ h
      have h3 : szV k l = k - l.length := by
        simp only [szV] at h1 ⊢
        cases h4 : ltI (k - (l.length : Int)) 0 with
        | true => rw [h4] at h1; simp at h1
        | false => rfl
      rw [h3] at h2
      simp [totN] at h2 ⊢; omega

theorem szSS_small {k : Int} {ll : List (List Int)} (h : ltI (szSS k ll) 0 = false) : (ll.length : Int) + totN ll ≤ k := by
  simp only [szSS] at h
  cases h1 : ltI (k - (ll.length : Int)) 0 with
  | true => rw [h1] at h; simp at h
  | false =>
    rw [h1, cond_false] at h
    have := szGo_small _ _ h
    omega

theorem ssOk_of {m : Nat} {ll : List (List Int)} (h1 : ll.length ≤ m) (h2 : totN ll ≤ m) : ssOk m ll = true :=
  ss_iff.2 ⟨h1, fun x hx => Nat.le_trans (totN_le hx) h2⟩

theorem ssGet {m : Nat} {xs : List (List Int)} (h : ∀ x ∈ xs, x.length ≤ m) (b : Nat) : ((xs[b]?).getD []).length ≤ m := by
  cases hb : xs[b]? with
  | none => simp
  | some x => simpa using h x (List.mem_of_getElem? hb)

/-- Lists are numbered through. -/
theorem walk_markSS {f : Nat → Int × List (List Int) → Nat ⊕ (Int × List (List Int))} {e : Nat} (hf : ∀ b k xs, f b (k, xs) = .inr (k + (((xs[b]?).getD []).length : Int), xs.set b (upFrom k ((xs[b]?).getD []).length))) (xs : List (List Int)) (k : Int) :
    walkL f e (List.range xs.length) 0 (k, xs) = (e, xs.length, (k + totN xs, upSS k xs)) := by
  rw [walk_gather (g := fun a b => (a.1 + (((a.2[b]?).getD []).length : Int), a.2.set b (upFrom a.1 ((a.2[b]?).getD []).length))) (fun b a => hf b a.1 a.2)]
  have key : ∀ (n : Nat), n ≤ xs.length → (List.range n).foldl (fun (a : Int × List (List Int)) b => (a.1 + (((a.2[b]?).getD []).length : Int), a.2.set b (upFrom a.1 ((a.2[b]?).getD []).length))) (k, xs) = (k + totN (xs.take n), upSS k (xs.take n) ++ xs.drop n) := by
    intro n
    induction n with
    | zero => intro _; simp [totN, upSS]
    | succ n ih =>
      intro hn
      rw [List.range_succ, List.foldl_append, ih (by omega)]
      have hl : (upSS k (xs.take n)).length = n := by rw [upSS_length, List.length_take]; omega
      have hg : (upSS k (xs.take n) ++ xs.drop n)[n]? = some (xs[n]'(by omega)) := by
        rw [List.getElem?_append_right (by omega), hl, Nat.sub_self, List.getElem?_drop, Nat.add_zero, List.getElem?_eq_getElem (by omega)]
      have ht : xs.take (n + 1) = xs.take n ++ [xs[n]'(by omega)] := by rw [List.take_succ_eq_append_getElem (by omega)]
      simp only [List.foldl_cons, List.foldl_nil, hg, Option.getD_some, ht, totN_append, upSS_append, Prod.mk.injEq]
      refine ⟨by simp [totN]; omega, ?_⟩
      have h3 : xs.drop n = xs[n]'(by omega) :: xs.drop (n + 1) := by rw [List.drop_eq_getElem_cons (by omega)]
      rw [List.set_append_right _ _ (by omega), hl, Nat.sub_self, h3, List.set_cons_zero]
      simp only [upSS, List.append_assoc, List.cons_append, List.nil_append]
  rw [key xs.length (Nat.le_refl _)]
  simp

def f_laws_toInt64SS_l0 (y1 : List (List Int)) (b : Nat) : (List (List Int)) → Nat ⊕ (List (List Int))
  | y2 => (.inr ((List.set y2 (b) ((Option.getD y1[b]? (dflt (CTy.sl (2 : TypeId) (CTy.int IntKind.i64))))))))

def st_laws_toInt64SS_l0 (y1 : List (List Int)) (i : Nat) : (List (List Int)) → X_laws_toInt64SS_l0
  | y2 => ((i : Int), y1, y2)

def pr_laws_toInt64SS_l0 : X_laws_toInt64SS_l0 → List (List Int)
  | (_, _, y2) => y2

theorem w_laws_toInt64SS_l0 (y1 : List (List Int)) (y2 : List (List Int)) (hn : y1.length ≤ 9223372036854775807) (hl : y2.length = y1.length) (hA : ∀ x ∈ y1, x.length ≤ 1048576) :
    lp_laws_toInt64SS_l0.fin ((0 : Int), y1, y2) = true ∧ lp_laws_toInt64SS_l0.res ((0 : Int), y1, y2) = ((walkL (f_laws_toInt64SS_l0 y1) 0 (List.range y1.length) 0 y2).1, (st_laws_toInt64SS_l0 y1) (walkL (f_laws_toInt64SS_l0 y1) 0 (List.range y1.length) 0 y2).2.1 (walkL (f_laws_toInt64SS_l0 y1) 0 (List.range y1.length) 0 y2).2.2) := by
  have key := lp_laws_toInt64SS_l0.along (st_laws_toInt64SS_l0 y1) pr_laws_toInt64SS_l0 (f_laws_toInt64SS_l0 y1) 0 (fun _ a => a.length = y1.length) (List.range y1.length) y2 hl (by simp only [lp_laws_toInt64SS_l0, st_laws_toInt64SS_l0, List.length_range]; omega) (fun i b a hb hI => ?_) (fun a hI => ?_)
  · exact key
  · obtain y2 := a
    obtain ⟨rfl, hlt⟩ := range_get hb
    have hw : IntKind.i64.wrap ((b : Int) + 1) = ((b + 1 : Nat) : Int) := by rw [wrap_i64 (by omega) (by omega)]; omega
    have hdec : ltI (b : Int) (y1.length : Int) = true := ltI_t (by omega)
    have hnn : leI (0 : Int) (b : Int) = true := leI_t (by omega)
    have hltd : ltN b y1.length = true := ltN_t (by omega)
    refine ⟨?_, ?_, ?_, ?_⟩
    · have h6 : laws_toInt64SS_l0_3 (b : Int) y1 = true := leN_t (by simp only [laws_toInt64SS_l0_a0, Int.toNat_natCast]; exact ssGet hA b)
      simp [laws_toInt64SS_l0_0, laws_toInt64SS_l0_1, laws_toInt64SS_l0_2, laws_toInt64SS_l0_4, laws_toInt64SS_l0_5, lt_laws_toInt64SS_l0, lp_laws_toInt64SS_l0, LT.nds, allT, st_laws_toInt64SS_l0, hdec, hnn, hltd, hI, h6]
    · simp [laws_toInt64SS_l0_a0, laws_toInt64SS_l0_0, laws_toInt64SS_l0_1, laws_toInt64SS_l0_2, laws_toInt64SS_l0_3, laws_toInt64SS_l0_4, laws_toInt64SS_l0_5, laws_toInt64SS_l0_6, laws_toInt64SS_l0_7, lt_laws_toInt64SS_l0, lp_laws_toInt64SS_l0, LT.each, st_laws_toInt64SS_l0, pr_laws_toInt64SS_l0, hw, hI]
    · simp only [laws_toInt64SS_l0_a0, laws_toInt64SS_l0_0, laws_toInt64SS_l0_1, laws_toInt64SS_l0_2, laws_toInt64SS_l0_3, laws_toInt64SS_l0_4, laws_toInt64SS_l0_5, laws_toInt64SS_l0_6, laws_toInt64SS_l0_7, lt_laws_toInt64SS_l0, lp_laws_toInt64SS_l0, LT.fn, st_laws_toInt64SS_l0, pr_laws_toInt64SS_l0, f_laws_toInt64SS_l0, Int.toNat_natCast, hdec, cond_true]
    · intro a' hf; simp only [f_laws_toInt64SS_l0, Sum.inr.injEq] at hf; subst hf; simpa using hI
  · obtain y2 := a
    simp [laws_toInt64SS_l0_a0, laws_toInt64SS_l0_0, laws_toInt64SS_l0_1, laws_toInt64SS_l0_2, laws_toInt64SS_l0_3, laws_toInt64SS_l0_4, laws_toInt64SS_l0_5, laws_toInt64SS_l0_6, laws_toInt64SS_l0_7, lt_laws_toInt64SS_l0, lp_laws_toInt64SS_l0, LT.out, st_laws_toInt64SS_l0, List.length_range]

def f_laws_eqInt64SS_l0 (y1 : List (List Int)) (y2 : List (List Int)) (b : Nat) : (Unit) → Nat ⊕ (Unit)
  | _ => (bif ((!eqL ((Option.getD y1[b]? (dflt (CTy.sl (2 : TypeId) (CTy.int IntKind.i64))))) (Option.getD y2[b]? (dflt (CTy.sl (2 : TypeId) (CTy.int IntKind.i64)))))) then (.inl 0) else (.inr ()))

def st_laws_eqInt64SS_l0 (y1 : List (List Int)) (y2 : List (List Int)) (i : Nat) : (Unit) → X_laws_eqInt64SS_l0
  | _ => ((i : Int), y1, y2)

def pr_laws_eqInt64SS_l0 : X_laws_eqInt64SS_l0 → Unit
  | (_, _, _) => ()

theorem w_laws_eqInt64SS_l0 (y1 : List (List Int)) (y2 : List (List Int))  (hn : y1.length ≤ 9223372036854775807) (he : y2.length = y1.length) (hA : ∀ x ∈ y1, x.length ≤ 9223372036854775807) :
    lp_laws_eqInt64SS_l0.fin ((0 : Int), y1, y2) = true ∧ lp_laws_eqInt64SS_l0.res ((0 : Int), y1, y2) = ((walkL (f_laws_eqInt64SS_l0 y1 y2) 1 (List.range y1.length) 0 ()).1, (st_laws_eqInt64SS_l0 y1 y2) (walkL (f_laws_eqInt64SS_l0 y1 y2) 1 (List.range y1.length) 0 ()).2.1 (walkL (f_laws_eqInt64SS_l0 y1 y2) 1 (List.range y1.length) 0 ()).2.2) := by
  have key := lp_laws_eqInt64SS_l0.along (st_laws_eqInt64SS_l0 y1 y2) pr_laws_eqInt64SS_l0 (f_laws_eqInt64SS_l0 y1 y2) 1 (fun _ _ => True) (List.range y1.length) () (by trivial) (by simp only [lp_laws_eqInt64SS_l0, st_laws_eqInt64SS_l0, List.length_range]; omega) (fun i b a hb hI => ?_) (fun a hI => ?_)
  · exact key
  · obtain ⟨⟩ := a
    obtain ⟨rfl, hlt⟩ := range_get hb
    have hw : IntKind.i64.wrap ((b : Int) + 1) = ((b + 1 : Nat) : Int) := by rw [wrap_i64 (by omega) (by omega)]; omega
    have hdec : ltI (b : Int) (y1.length : Int) = true := ltI_t (by omega)
    have hnn : leI (0 : Int) (b : Int) = true := leI_t (by omega)
    have hltd : ltN b y1.length = true := ltN_t (by omega)
    refine ⟨?_, ?_, ?_, ?_⟩
    · have h6 : laws_eqInt64SS_l0_5 (b : Int) y1 = true := leN_t (by simp only [laws_eqInt64SS_l0_a0, Int.toNat_natCast]; exact ssGet hA b)
      simp [laws_eqInt64SS_l0_0, laws_eqInt64SS_l0_1, laws_eqInt64SS_l0_2, laws_eqInt64SS_l0_3, laws_eqInt64SS_l0_4, laws_eqInt64SS_l0_6, laws_eqInt64SS_l0_7, lt_laws_eqInt64SS_l0, lp_laws_eqInt64SS_l0, LT.nds, allT, st_laws_eqInt64SS_l0, hdec, hnn, hltd, he, h6]
    · simp [laws_eqInt64SS_l0_a0, laws_eqInt64SS_l0_0, laws_eqInt64SS_l0_1, laws_eqInt64SS_l0_2, laws_eqInt64SS_l0_3, laws_eqInt64SS_l0_4, laws_eqInt64SS_l0_5, laws_eqInt64SS_l0_6, laws_eqInt64SS_l0_7, lt_laws_eqInt64SS_l0, lp_laws_eqInt64SS_l0, LT.each, st_laws_eqInt64SS_l0, pr_laws_eqInt64SS_l0, hw, he]
    · simp only [laws_eqInt64SS_l0_a0, laws_eqInt64SS_l0_0, laws_eqInt64SS_l0_1, laws_eqInt64SS_l0_2, laws_eqInt64SS_l0_3, laws_eqInt64SS_l0_4, laws_eqInt64SS_l0_5, laws_eqInt64SS_l0_6, laws_eqInt64SS_l0_7, lt_laws_eqInt64SS_l0, lp_laws_eqInt64SS_l0, LT.fn, st_laws_eqInt64SS_l0, pr_laws_eqInt64SS_l0, f_laws_eqInt64SS_l0, Int.toNat_natCast, hdec, cond_true]
    · exact fun _ _ => trivial
  · obtain ⟨⟩ := a
    simp [laws_eqInt64SS_l0_a0, laws_eqInt64SS_l0_0, laws_eqInt64SS_l0_1, laws_eqInt64SS_l0_2, laws_eqInt64SS_l0_3, laws_eqInt64SS_l0_4, laws_eqInt64SS_l0_5, laws_eqInt64SS_l0_6, laws_eqInt64SS_l0_7, lt_laws_eqInt64SS_l0, lp_laws_eqInt64SS_l0, LT.out, st_laws_eqInt64SS_l0, List.length_range]

def f_laws_markInt64SS_l0  (b : Nat) : (Int × List (List Int)) → Nat ⊕ (Int × List (List Int))
  | (y1, y2) => (.inr (((y1 + (↑(List.length (Option.getD y2[b]? (dflt (CTy.sl (2 : TypeId) (CTy.int IntKind.i64))))) : Int))), ((List.set y2 (b) (upFrom y1 (List.length (Option.getD y2[b]? (dflt (CTy.sl (2 : TypeId) (CTy.int IntKind.i64))))))))))

def st_laws_markInt64SS_l0  (i : Nat) : (Int × List (List Int)) → X_laws_markInt64SS_l0
  | (y1, y2) => ((i : Int), y1, y2)

def pr_laws_markInt64SS_l0 : X_laws_markInt64SS_l0 → Int × List (List Int)
  | (_, y1, y2) => (y1, y2)

theorem w_laws_markInt64SS_l0  (y1 : Int) (y2 : List (List Int)) (n : Nat) (hl : y2.length = n) (hn : n ≤ 9223372036854775807) (h1 : 0 ≤ y1) (h2 : y1 + totN y2 ≤ 9223372036854775807) :
    lp_laws_markInt64SS_l0.fin ((0 : Int), y1, y2) = true ∧ lp_laws_markInt64SS_l0.res ((0 : Int), y1, y2) = ((walkL (f_laws_markInt64SS_l0) 0 (List.range n) 0 (y1, y2)).1, (st_laws_markInt64SS_l0) (walkL (f_laws_markInt64SS_l0) 0 (List.range n) 0 (y1, y2)).2.1 (walkL (f_laws_markInt64SS_l0) 0 (List.range n) 0 (y1, y2)).2.2) := by
  have key := lp_laws_markInt64SS_l0.along (st_laws_markInt64SS_l0) pr_laws_markInt64SS_l0 (f_laws_markInt64SS_l0) 0 (fun i a => a.2.length = n ∧ 0 ≤ a.1 ∧ a.1 + totN (a.2.drop i) ≤ 9223372036854775807) (List.range n) (y1, y2) ⟨hl, h1, by simpa using h2⟩ (by simp only [lp_laws_markInt64SS_l0, st_laws_markInt64SS_l0, List.length_range]; omega) (fun i b a hb hI => ?_) (fun a hI => ?_)
  · exact key
  · obtain ⟨y1, y2⟩ := a
    obtain ⟨rfl, hlt⟩ := range_get hb
    have hI0 : y2.length = n := hI.1
    have hw : IntKind.i64.wrap ((b : Int) + 1) = ((b + 1 : Nat) : Int) := by rw [wrap_i64 (by omega) (by omega)]; omega
    have hdec : ltI (b : Int) (y2.length : Int) = true := ltI_t (by omega)
    have hnn : leI (0 : Int) (b : Int) = true := leI_t (by omega)
    have hltd : ltN b y2.length = true := ltN_t (by omega)
    refine ⟨?_, ?_, ?_, ?_⟩
    · have hd : y2.drop b = y2[b]'(by omega) :: y2.drop (b + 1) := by rw [List.drop_eq_getElem_cons (by omega)]
      have hg : y2[b]? = some (y2[b]'(by omega)) := List.getElem?_eq_getElem (by omega)
      have hk := hI.2
      have h6 : laws_markInt64SS_l0_3 (b : Int) y1 y2 = true := by
        simp only [laws_markInt64SS_l0_3, Int.toNat_natCast, hg]
        show mkOk y1 (y2[b]'(by omega)).length = true
        refine mkOk_iff.2 ⟨hk.1, ?_⟩
        have := hk.2
        simp only [hd, totN, List.map_cons, List.sum_cons] at this
        omega
      simp [laws_markInt64SS_l0_0, laws_markInt64SS_l0_1, laws_markInt64SS_l0_2, laws_markInt64SS_l0_4, laws_markInt64SS_l0_5, laws_markInt64SS_l0_6, lt_laws_markInt64SS_l0, lp_laws_markInt64SS_l0, LT.nds, allT, st_laws_markInt64SS_l0, hdec, hnn, hltd, h6]
    · simp [laws_markInt64SS_l0_0, laws_markInt64SS_l0_1, laws_markInt64SS_l0_2, laws_markInt64SS_l0_3, laws_markInt64SS_l0_4, laws_markInt64SS_l0_5, laws_markInt64SS_l0_6, lt_laws_markInt64SS_l0, lp_laws_markInt64SS_l0, LT.each, st_laws_markInt64SS_l0, pr_laws_markInt64SS_l0, hw]
    · simp only [laws_markInt64SS_l0_0, laws_markInt64SS_l0_1, laws_markInt64SS_l0_2, laws_markInt64SS_l0_3, laws_markInt64SS_l0_4, laws_markInt64SS_l0_5, laws_markInt64SS_l0_6, lt_laws_markInt64SS_l0, lp_laws_markInt64SS_l0, LT.fn, st_laws_markInt64SS_l0, pr_laws_markInt64SS_l0, f_laws_markInt64SS_l0, Int.toNat_natCast, hdec, hnn, hltd, cond_true, Bool.cond_self]
    · have hd : y2.drop b = y2[b]'(by omega) :: y2.drop (b + 1) := by rw [List.drop_eq_getElem_cons (by omega)]
      have hg : y2[b]? = some (y2[b]'(by omega)) := List.getElem?_eq_getElem (by omega)
      have hk := hI.2
      intro a' hf; simp only [f_laws_markInt64SS_l0, Sum.inr.injEq, hg] at hf
      have hf : (y1 + ((y2[b]'(by omega)).length : Int), y2.set b (upFrom y1 (y2[b]'(by omega)).length)) = a' := hf
      subst hf
      have := hk.2
      simp only [hd, totN, List.map_cons, List.sum_cons] at this
      refine ⟨by simp [hI0], by have := hk.1; simp only; omega, ?_⟩
      simp only [List.drop_set_of_lt (show b < b + 1 by omega), totN]
      omega
  · obtain ⟨y1, y2⟩ := a
    have hI0 : y2.length = n := hI.1
    simp [laws_markInt64SS_l0_0, laws_markInt64SS_l0_1, laws_markInt64SS_l0_2, laws_markInt64SS_l0_3, laws_markInt64SS_l0_4, laws_markInt64SS_l0_5, laws_markInt64SS_l0_6, lt_laws_markInt64SS_l0, lp_laws_markInt64SS_l0, LT.out, st_laws_markInt64SS_l0, hI0, List.length_range]

def f_laws_szInt64SS_l0  (b : List Int) : (Int) → Nat ⊕ (Int)
  | y1 => (bif ((ltI (szV y1 ((b))) (0 : Int))) then (.inl 0) else (.inr ((szV y1 ((b))))))

def st_laws_szInt64SS_l0 (y2 : List (List Int)) (i : Nat) : (Int) → X_laws_szInt64SS_l0
  | y1 => ((i : Int), y1, y2)

def pr_laws_szInt64SS_l0 : X_laws_szInt64SS_l0 → Int
  | (_, y1, _) => y1

theorem w_laws_szInt64SS_l0 (y2 : List (List Int)) (y1 : Int) (hn : y2.length ≤ 9223372036854775807) (hA : ∀ x ∈ y2, x.length ≤ 9223372036854775807) (h1 : 0 ≤ y1 ∧ y1 ≤ 1048576) :
    lp_laws_szInt64SS_l0.fin ((0 : Int), y1, y2) = true ∧ lp_laws_szInt64SS_l0.res ((0 : Int), y1, y2) = ((walkL (f_laws_szInt64SS_l0) 1 y2 0 y1).1, (st_laws_szInt64SS_l0 y2) (walkL (f_laws_szInt64SS_l0) 1 y2 0 y1).2.1 (walkL (f_laws_szInt64SS_l0) 1 y2 0 y1).2.2) := by
  have key := lp_laws_szInt64SS_l0.along (st_laws_szInt64SS_l0 y2) pr_laws_szInt64SS_l0 (f_laws_szInt64SS_l0) 1 (fun _ a => 0 ≤ a ∧ a ≤ 1048576) y2 y1 h1 (by simp only [lp_laws_szInt64SS_l0, st_laws_szInt64SS_l0]; omega) (fun i b a hb hI => ?_) (fun a hI => ?_)
  · exact key
  · obtain y1 := a
    have hlt := (List.getElem?_eq_some_iff.1 hb).1
    have hget : ∀ d, Option.getD y2[i]? d = b := fun d => by rw [hb]; rfl
    have hw := wrap64 hlt hn
    have hdec : ltI (i : Int) (y2.length : Int) = true := ltI_t (by omega)
    have hnn : leI (0 : Int) (i : Int) = true := leI_t (by omega)
    have hltd : ltN i y2.length = true := ltN_t hlt
    refine ⟨?_, ?_, ?_, ?_⟩
    · have hg2 : laws_szInt64SS_l0_a0 (i : Int) y2 = b := by simp only [laws_szInt64SS_l0_a0, Int.toNat_natCast]; exact hget _
      have h6 : leN b.length 9223372036854775807 = true := leN_t (hA b (List.mem_of_getElem? hb))
      have h7 : leI (-1) a = true := leI_t (by omega)
      have h8 : leI a 1048576 = true := leI_t (by omega)
      simp [laws_szInt64SS_l0_0, laws_szInt64SS_l0_1, laws_szInt64SS_l0_2, laws_szInt64SS_l0_3, laws_szInt64SS_l0_4, laws_szInt64SS_l0_6, laws_szInt64SS_l0_7, lt_laws_szInt64SS_l0, lp_laws_szInt64SS_l0, LT.nds, allT, st_laws_szInt64SS_l0, hdec, hnn, hltd, hg2, h6, h7, h8]
    · simp [laws_szInt64SS_l0_a0, laws_szInt64SS_l0_0, laws_szInt64SS_l0_1, laws_szInt64SS_l0_2, laws_szInt64SS_l0_3, laws_szInt64SS_l0_4, laws_szInt64SS_l0_5, laws_szInt64SS_l0_6, laws_szInt64SS_l0_7, lt_laws_szInt64SS_l0, lp_laws_szInt64SS_l0, LT.each, st_laws_szInt64SS_l0, pr_laws_szInt64SS_l0, hw]
    · have hg2 : laws_szInt64SS_l0_a0 (i : Int) y2 = b := by simp only [laws_szInt64SS_l0_a0, Int.toNat_natCast]; exact hget _
      simp only [laws_szInt64SS_l0_0, laws_szInt64SS_l0_4, laws_szInt64SS_l0_7, lt_laws_szInt64SS_l0, lp_laws_szInt64SS_l0, LT.fn, st_laws_szInt64SS_l0, pr_laws_szInt64SS_l0, f_laws_szInt64SS_l0, Int.toNat_natCast, hdec, hg2, cond_true]
    · intro a' hf
      simp only [f_laws_szInt64SS_l0] at hf
      cases h9 : ltI (szV a b) 0 with
      | true => rw [h9] at hf; cases hf
      | false =>
        rw [h9] at hf; cases hf
        refine ⟨ltI_not.1 h9, ?_⟩
        simp only [szV]
        cases ltI (a - (b.length : Int)) 0 <;> simp <;> omega
  · obtain y1 := a
    simp [laws_szInt64SS_l0_a0, laws_szInt64SS_l0_0, laws_szInt64SS_l0_1, laws_szInt64SS_l0_2, laws_szInt64SS_l0_3, laws_szInt64SS_l0_4, laws_szInt64SS_l0_5, laws_szInt64SS_l0_6, laws_szInt64SS_l0_7, lt_laws_szInt64SS_l0, lp_laws_szInt64SS_l0, LT.out, st_laws_szInt64SS_l0]

theorem walk_sz {f : List Int → Int → Nat ⊕ Int} (hf : ∀ l k, f l k = bif ltI (szV k l) 0 then .inl 0 else .inr (szV k l)) : ∀ (r : List (List Int)) (i : Nat) (k : Int), 0 ≤ k →
    (bif Nat.beq (walkL f 1 r i k).1 0 then (-1 : Int) else (walkL f 1 r i k).2.2) = szGo k r
  | [], i, k, _ => rfl
  | l :: r, i, k, hk => by
    simp only [walkL, hf, szGo]
    cases h : ltI (szV k l) 0 with
    | true => rfl
    | false => exact walk_sz hf r (i + 1) _ (ltI_not.1 h)

theorem szSS_ok (k : Int) (xs : List (List Int)) (h : (ssOk 9223372036854775807 xs && (leI (-1) k && leI k 1048576)) = true) : laws_szInt64SS_0 k xs = szSS k xs ∧ laws_szInt64SS_1 k xs = true := by
  simp only [Bool.and_eq_true, leI_iff] at h
  obtain ⟨h1, h2, h3⟩ := h
  obtain ⟨hn, hA⟩ := ss_iff.1 h1
  have hw : IntKind.i64.wrap (k - (xs.length : Int)) = k - (xs.length : Int) := wrap_i64 (by omega) (by omega)
  simp only [laws_szInt64SS_0, laws_szInt64SS_1, laws_szInt64SS_a0, laws_szInt64SS_a1, laws_szInt64SS_l0_5, hw, szSS, allT]
  cases hq : ltI (k - (xs.length : Int)) 0 with
  | true => simp
  | false =>
    have hq' := ltI_not.1 hq
    obtain ⟨w1, w2⟩ := w_laws_szInt64SS_l0 xs (k - (xs.length : Int)) hn hA (by omega)
    simp only [w1, w2, cond_false, st_laws_szInt64SS_l0, Bool.or_true, cond_true]
    exact ⟨walk_sz (f := f_laws_szInt64SS_l0) (fun l k => rfl) xs 0 _ hq', trivial⟩

theorem toSS_ok (xs : List (List Int)) (h : ssOk 1048576 xs = true) : laws_toInt64SS_0 xs = xs ∧ laws_toInt64SS_1 xs = true := by
  obtain ⟨hn, hA⟩ := ss_iff.1 h
  have hr : (List.replicate (Int.toNat (xs.length : Int)) ([] : List Int)).length = xs.length := by simp
  obtain ⟨w1, w2⟩ := w_laws_toInt64SS_l0 xs (List.replicate (Int.toNat (xs.length : Int)) []) (by omega) hr hA
  have hc := walk_copy (xs := xs) (d := ([] : List Int)) (g := fun x => x) (f := f_laws_toInt64SS_l0 xs) (e := 0) (fun b a => rfl) hr
  rw [hc] at w2
  refine ⟨?_, ?_⟩
  · simp only [laws_toInt64SS_0, laws_toInt64SS_a0, w2, st_laws_toInt64SS_l0]; simp
  · simp only [laws_toInt64SS_1, laws_toInt64SS_a0, w1, allT]; simp; omega

theorem eqSS_ok (xs ys : List (List Int)) (h : ssOk 9223372036854775807 xs = true) : laws_eqInt64SS_0 xs ys = eqSS xs ys ∧ laws_eqInt64SS_1 xs ys = true := by
  obtain ⟨hn, hA⟩ := ss_iff.1 h
  unfold eqSS
  by_cases hl : ys.length = xs.length
  · obtain ⟨w1, w2⟩ := w_laws_eqInt64SS_l0 xs ys hn hl hA
    have ha := any_ne (d := ([] : List Int)) hl (P := fun b => !eqL ((xs[b]?).getD []) ((ys[b]?).getD [])) (fun b => by simp [eqL])
    rw [walk_stop (P := fun b => !eqL ((xs[b]?).getD []) ((ys[b]?).getD [])) (j := 0) (fun b => rfl), ha] at w2
    simp only [laws_eqInt64SS_a0, laws_eqInt64SS_a1, laws_eqInt64SS_0, laws_eqInt64SS_1, w1, w2, allT]
    by_cases he : xs = ys
    · subst he; simp; decide
    · simp [he, hl]
  · have hne : xs ≠ ys := fun h => hl (by rw [h])
    simp [laws_eqInt64SS_a0, laws_eqInt64SS_a1, laws_eqInt64SS_0, laws_eqInt64SS_1, allT, hne]
    omega

theorem markSS_ok (k : Int) (xs : List (List Int)) (h : (mkOk k (totN xs) && leN xs.length 9223372036854775807) = true) : laws_markInt64SS_0 k xs = k + totN xs ∧ laws_markInt64SS_1 k xs = upSS k xs ∧ laws_markInt64SS_2 k xs = true := by
  simp only [Bool.and_eq_true, leN_iff] at h
  obtain ⟨h0, h2⟩ := mkOk_iff.1 h.1
  obtain ⟨w1, w2⟩ := w_laws_markInt64SS_l0 k xs xs.length rfl h.2 h0 h2
  rw [walk_markSS (f := f_laws_markInt64SS_l0) (fun b k xs => rfl)] at w2
  refine ⟨?_, ?_, ?_⟩
  · simp only [laws_markInt64SS_a0, laws_markInt64SS_a1, laws_markInt64SS_0, laws_markInt64SS_1, laws_markInt64SS_2, w2, st_laws_markInt64SS_l0]
  · simp only [laws_markInt64SS_a0, laws_markInt64SS_a1, laws_markInt64SS_0, laws_markInt64SS_1, laws_markInt64SS_2, w2, st_laws_markInt64SS_l0]
  · simp only [laws_markInt64SS_a0, laws_markInt64SS_a1, laws_markInt64SS_0, laws_markInt64SS_1, laws_markInt64SS_2, w1, allT, cond_true]

def N_laws_szInt64SS : List SV → List Entry → Option Out
  | [.one ⟨false, [.ref 0]⟩, .one ⟨false, [.val (.int .i64 x0)]⟩], [.row false 26 (.sl 2 (.int .i64)) x1] => some ⟨(.one ⟨false, [(.val (.int IntKind.i64 (szSS x0 x1)))]⟩), [(.row false 26 (CTy.sl (2 : TypeId) (CTy.int IntKind.i64)) x1)], [], [ssOk 9223372036854775807 x1 && (leI (-1) x0 && leI x0 1048576)]⟩
  | _, _ => none

def n_laws_szInt64SS : PF Tryd.prog := PF.alt p_laws_szInt64SS N_laws_szInt64SS (by
  intro args es o h hnd; unfold N_laws_szInt64SS at h; split at h
  · rename_i x0 x1
    cases h
    have hnd := nd_fst hnd
    have hh := szSS_ok x0 x1 hnd
    obtain ⟨e0, en⟩ := hh
    exact altok rfl (nd_one en) (by simp only [e0] <;> rfl) rfl rfl
  · cases h)

def N_laws_toInt64SS : List SV → List Entry → Option Out
  | [.one ⟨false, [.ref 0]⟩], [.row false 26 (.sl 2 (.int .i64)) x0] => some ⟨(.one ⟨false, [(.ref 1)]⟩), [(.row false 26 (CTy.sl (2 : TypeId) (CTy.int IntKind.i64)) x0)], [(.tree 26 (CTy.sl (2 : Nat) (CTy.int IntKind.i64)) (x0) none)], [ssOk 1048576 x0]⟩
  | _, _ => none

def n_laws_toInt64SS : PF Tryd.prog := PF.alt p_laws_toInt64SS N_laws_toInt64SS (by
  intro args es o h hnd; unfold N_laws_toInt64SS at h; split at h
  · rename_i x0
    cases h
    have hnd := nd_fst hnd
    have hh := toSS_ok x0 hnd
    obtain ⟨e0, en⟩ := hh
    exact altok rfl (nd_one en) rfl rfl (by simp only [e0] <;> rfl)
  · cases h)

def N_laws_eqInt64SS : List SV → List Entry → Option Out
  | [.one ⟨false, [.ref 0]⟩, .one ⟨false, [.ref 1]⟩], [.row false 26 (.sl 2 (.int .i64)) x0, .row false 26 (.sl 2 (.int .i64)) x1] => some ⟨(.one ⟨false, [(.val (.bool (eqSS x0 x1)))]⟩), [(.row false 26 (CTy.sl (2 : TypeId) (CTy.int IntKind.i64)) x0), (.row false 26 (CTy.sl (2 : TypeId) (CTy.int IntKind.i64)) x1)], [], [ssOk 9223372036854775807 x0]⟩
  | _, _ => none

def n_laws_eqInt64SS : PF Tryd.prog := PF.alt p_laws_eqInt64SS N_laws_eqInt64SS (by
  intro args es o h hnd; unfold N_laws_eqInt64SS at h; split at h
  · rename_i x0 x1
    cases h
    have hnd := nd_fst hnd
    have hh := eqSS_ok x0 x1 hnd
    obtain ⟨e0, en⟩ := hh
    exact altok rfl (nd_one en) (by simp only [e0] <;> rfl) rfl rfl
  · cases h)

def N_laws_markInt64SS : List SV → List Entry → Option Out
  | [.one ⟨false, [.ref 0]⟩, .one ⟨false, [.val (.int .i64 x0)]⟩], [.tree 26 (.sl 2 (.int .i64)) x1 none] => some ⟨(.one ⟨false, [(.val (.int IntKind.i64 (x0 + (totN x1 : Int))))]⟩), [(.tree 26 (CTy.sl (2 : TypeId) (CTy.int IntKind.i64)) (upSS x0 x1) none)], [], [mkOk x0 (totN x1) && leN x1.length 9223372036854775807]⟩
  | _, _ => none

def n_laws_markInt64SS : PF Tryd.prog := PF.alt p_laws_markInt64SS N_laws_markInt64SS (by
  intro args es o h hnd; unfold N_laws_markInt64SS at h; split at h
  · rename_i x0 x1
    cases h
    have hnd := nd_fst hnd
    have hh := markSS_ok x0 x1 hnd
    obtain ⟨e0, e1, en⟩ := hh
    exact altok rfl (nd_one en) (by simp only [e0] <;> rfl) (by simp only [e1] <;> rfl) rfl
  · cases h)

end Go.SX

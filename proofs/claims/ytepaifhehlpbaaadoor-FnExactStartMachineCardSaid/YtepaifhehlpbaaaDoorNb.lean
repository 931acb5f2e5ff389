/- Words and names of the safety logic language, in plain words. -/
import Derived.Test.YtepaifhehlpbaaaDoorRb
namespace Go.SX
open Go.Proofs
set_option maxRecDepth 100000

/-- A loop over numbers that stops at the first of a kind. -/
theorem Lp.scan {X : Type} (p : Lp X) (st : Nat → X) (N : Nat) (P : Nat → Bool) (e : Nat) (hN : N ≤ p.fuel (st 0))
    (hs : ∀ b, b < N → (p.lt (st b)).nds = true ∧ (p.lt (st b)).each (fun y => y = st (b + 1)) ∧ (p.lt (st b)).fn (fun _ => ()) = (bif P b then .inl 0 else .inr ()))
    (he : (p.lt (st N)).out = some (.inl e)) : p.fin (st 0) = true ∧ (p.res (st 0)).1 = bif (List.range N).any P then 0 else e := by
  have key := p.along (fun i (_ : Unit) => st i) (fun _ => ()) (fun (b : Nat) (_ : Unit) => bif P b then .inl 0 else .inr ()) e (fun _ _ => True) (List.range N) () trivial (by rw [List.length_range]; exact hN)
    (fun i b a hb _ => by
      obtain ⟨rfl, hlt⟩ := range_get hb
      obtain ⟨h1, h2, h3⟩ := hs b hlt
      exact ⟨h1, h2, h3, fun _ _ => trivial⟩) (fun a _ => by rw [List.length_range]; exact he)
  rw [walk_stop (P := P) (j := 0) (fun b => rfl)] at key
  exact ⟨key.1, by rw [key.2]⟩

/-- A byte of a text. -/
def bAt (s : ByteArray) (b : Nat) : Int := ((s[b]?.getD 0).toNat : Int)
def letB (c : Int) : Bool := inR c 97 122
def innB (c : Int) : Bool := letB c || (inR c 48 57 || c == 95)
/-- A word. -/
def wordB (s : ByteArray) : Bool := inR (s.size : Int) 1 12 && (letB (bAt s 0) && (List.range s.size).all fun b => innB (bAt s b))
/-- A keyword. -/
def keyB (s : ByteArray) : Bool := tab0.any fun k => k.toList == s.toList
/-- A name. -/
def nameB (s : ByteArray) : Bool := wordB s && !keyB s

def abcS : ByteArray := ⟨#[97, 98, 99, 100, 101, 102, 103, 104, 105, 106, 107, 108, 109, 110, 111, 112, 113, 114, 115, 116, 117, 118, 119, 120, 121, 122]⟩
def wbS : ByteArray := ⟨#[97, 98, 99, 100, 101, 102, 103, 104, 105, 106, 107, 108, 109, 110, 111, 112, 113, 114, 115, 116, 117, 118, 119, 120, 121, 122, 48, 49, 50, 51, 52, 53, 54, 55, 56, 57, 95]⟩

theorem abc_nat : ∀ n : Nat, n < 256 → leI 0 (ibs abcS (n : Int)) = letB (n : Int) := by decide +kernel
theorem wb_nat : ∀ n : Nat, n < 256 → leI 0 (ibs wbS (n : Int)) = innB (n : Int) := by decide +kernel

theorem abc_ok (s : ByteArray) (b : Nat) : leI 0 (ibs abcS (bAt s b)) = letB (bAt s b) := abc_nat _ (UInt8.toNat_lt _)
theorem wb_ok (s : ByteArray) (b : Nat) : leI 0 (ibs wbS (bAt s b)) = innB (bAt s b) := wb_nat _ (UInt8.toNat_lt _)

theorem specInner (c : Int) : spec_l12Inner_0 c = innB c := by
  simp only [spec_l12Inner_0, spec_l12Letter_0, spec_l12Digit_0, inR_eq, innB, letB]
  cases inR c 97 122 <;> cases inR c 48 57 <;> rfl

theorem w_specWord (s : ByteArray) (hn : s.size ≤ 9223372036854775807) :
    lp_spec_l12Word_l0.fin ((0 : Int), s) = true ∧ (lp_spec_l12Word_l0.res ((0 : Int), s)).1 = bif (List.range s.size).any (fun b => !innB (bAt s b)) then 0 else 1 := by
  refine Lp.scan lp_spec_l12Word_l0 (fun b => ((b : Int), s)) s.size (fun b => !innB (bAt s b)) 1 (by simp only [lp_spec_l12Word_l0]; omega) (fun b hb => ?_) ?_
  · have hdec : ltI (b : Int) (s.size : Int) = true := ltI_t (by omega)
    have hw : IntKind.i64.wrap ((b : Int) + 1) = ((b + 1 : Nat) : Int) := by rw [wrap_i64 (by omega) (by omega)]; omega
    have hnn : leI (0 : Int) (b : Int) = true := leI_t (by omega)
    have i2 : spec_l12Word_l0_2 (b : Int) s = !innB (bAt s b) := by simp only [spec_l12Word_l0_2, specInner, Int.toNat_natCast, bAt]
    refine ⟨?_, ?_, ?_⟩
    · simp [lp_spec_l12Word_l0, lt_spec_l12Word_l0, LT.nds, allT, spec_l12Word_l0_0, spec_l12Word_l0_1, hdec, hnn]
    · simp [lp_spec_l12Word_l0, lt_spec_l12Word_l0, LT.each, spec_l12Word_l0_3, hw]
    · simp only [lp_spec_l12Word_l0, lt_spec_l12Word_l0, LT.fn, spec_l12Word_l0_0, hdec, i2, cond_true]
  · simp [lp_spec_l12Word_l0, lt_spec_l12Word_l0, LT.out, spec_l12Word_l0_0]

theorem specWord_ok (s : ByteArray) (h : leN s.size 9223372036854775807 = true) : spec_l12Word_0 s = wordB s ∧ spec_l12Word_1 s = true := by
  obtain ⟨w1, w2⟩ := w_specWord s (leN_iff.1 h)
  have e5 : ((List.range s.size).any fun b => !innB (bAt s b)) = !(List.range s.size).all fun b => innB (bAt s b) := by simp [List.all_eq_not_any_not]
  rw [e5] at w2
  have eb : ((UInt8.toNat (Option.getD s[Int.toNat (0 : Int)]? (0 : UInt8)) : Nat) : Int) = bAt s 0 := rfl
  have h0 : leI 0 0 = true := rfl
  simp only [spec_l12Word_0, spec_l12Word_1, spec_l12Word_a0, spec_l12Word_a1, w1, w2, eb, h0, spec_l12Letter_0, spec_l01In_0, inR_eq, wordB, letB, allT, Bool.or_true, cond_true]
  cases hr : inR (s.size : Int) 1 12 with
  | false => cases (List.range s.size).all fun b => innB (bAt s b) <;> simp [Nat.beq]
  | true =>
    have := inR_iff.1 hr
    rw [ltI_t (by omega)]
    cases inR (bAt s 0) 97 122 <;> cases (List.range s.size).all fun b => innB (bAt s b) <;> simp [Nat.beq]

theorem w_run (s : ByteArray) (hn : s.size ≤ 9223372036854775806) :
    lp_impl_run_l0.fin ((0 : Int), (0 : Int), s, wbS) = true ∧ ((lp_impl_run_l0.res ((0 : Int), (0 : Int), s, wbS)).2.2.1 == (s.size : Int)) = (List.range s.size).all fun b => innB (bAt s b) := by
  have hz : ∀ i : Nat, i ≤ s.size → IntKind.i64.wrap ((0 : Int) + (i : Int)) = (i : Int) := fun i hi => by rw [wrap_i64 (by omega) (by omega)]; omega
  have key := lp_impl_run_l0.along (fun i (_ : Unit) => ((0 : Int), (i : Int), s, wbS)) (fun _ => ()) (fun (b : Nat) (_ : Unit) => bif !innB (bAt s b) then .inl 0 else .inr ()) 0 (fun _ _ => True) (List.range s.size) () trivial (by simp only [lp_impl_run_l0, List.length_range]; omega)
    (fun i b a hb _ => by
      obtain ⟨rfl, hlt⟩ := range_get hb
      have hdec : ltI (b : Int) (s.size : Int) = true := ltI_t (by omega)
      have hnn : leI (0 : Int) (b : Int) = true := leI_t (by omega)
      have hw : IntKind.i64.wrap ((b : Int) + 1) = ((b + 1 : Nat) : Int) := by rw [wrap_i64 (by omega) (by omega)]; omega
      have ha : impl_run_l0_a0 0 (b : Int) s = true := by simp only [impl_run_l0_a0, hz b (by omega), hdec]
      have hb2 : impl_run_l0_2 0 (b : Int) s wbS = innB (bAt s b) := by
        simp only [impl_run_l0_2, ha, cond_true, hz b (by omega), Int.toNat_natCast, strings_IndexByte_0, internal_stringslite_IndexByte_0]
        exact wb_ok s b
      refine ⟨?_, ?_, ?_, fun _ _ => trivial⟩
      · have hz2 := hz b (by omega)
        rw [Int.zero_add] at hz2
        simp [lp_impl_run_l0, lt_impl_run_l0, LT.nds, allT, impl_run_l0_0, impl_run_l0_1, ha, hz2]
      · simp [lp_impl_run_l0, lt_impl_run_l0, LT.each, impl_run_l0_3, hw]
      · simp only [lp_impl_run_l0, lt_impl_run_l0, LT.fn, hb2]
        cases innB (bAt s b) <;> rfl)
    (fun a _ => by
      have hdec : ltI (s.size : Int) (s.size : Int) = false := by simp
      have ha : impl_run_l0_a0 0 (s.size : Int) s = false := by simp only [impl_run_l0_a0, hz s.size (by omega), hdec]
      rw [List.length_range]
      simp [lp_impl_run_l0, lt_impl_run_l0, LT.out, impl_run_l0_2, impl_run_l0_0, impl_run_l0_1, allT, ha])
  rw [walk_stop (P := fun b => !innB (bAt s b)) (j := 0) (fun b => rfl)] at key
  refine ⟨key.1, ?_⟩
  have k2 : lp_impl_run_l0.res ((0 : Int), (0 : Int), s, wbS) = _ := key.2
  rw [k2]
  simp only [Nat.zero_add]
  rw [Bool.eq_iff_iff, beq_iff_eq, List.all_eq_true]
  have hl : ∀ (l : List Nat) (P : Nat → Bool), (l.takeWhile P).length = l.length ↔ ∀ x ∈ l, P x = true := by
    intro l P
    induction l with
    | nil => simp
    | cons a r ih =>
      rw [List.takeWhile_cons]
      cases h : P a with
      | false => simp [h]
      | true => simp [h, ih]
  have h2 := hl (List.range s.size) (fun b => !!innB (bAt s b))
  rw [List.length_range] at h2
  constructor
  · intro h x hx; have := h2.1 (by exact_mod_cast h) x hx; simpa using this
  · intro h; exact_mod_cast h2.2 (fun x hx => by simpa using h x hx)

theorem implWord_ok (s : ByteArray) : impl_isWord_0 s = wordB s ∧ impl_isWord_1 s = true := by
  have eb : ((UInt8.toNat (Option.getD s[Int.toNat (0 : Int)]? (0 : UInt8)) : Nat) : Int) = bAt s 0 := rfl
  have e0 : impl_isWord_a0 s = inR (s.size : Int) 1 12 := by simp only [impl_isWord_a0, impl_within_0, inR_eq]
  have e1 : impl_isWord_a1 s = (inR (s.size : Int) 1 12 && letB (bAt s 0)) := by
    have : impl_isWord_a1 s = bif impl_isWord_a0 s then leI 0 (ibs abcS (bAt s 0)) else false := rfl
    rw [this, e0, abc_ok]
    cases inR (s.size : Int) 1 12 <;> rfl
  have e2 : impl_isWord_0 s = bif impl_isWord_a1 s then (lp_impl_run_l0.res ((0 : Int), (0 : Int), s, wbS)).2.2.1 == (s.size : Int) else false := rfl
  have e3 : impl_isWord_1 s = allT [!(impl_isWord_a0 s && true) || leI (0) (0), !(impl_isWord_a0 s && true) || ltI (0) (↑(ByteArray.size s)), !(impl_isWord_a1 s && true) || allT [lp_impl_run_l0.fin ((0 : Int), (0 : Int), s, wbS)]] := rfl
  have h0 : leI 0 0 = true := rfl
  rw [e2, e3, e1, e0, h0]
  cases hr : inR (s.size : Int) 1 12 with
  | false => simp [wordB, hr, allT]
  | true =>
    have := inR_iff.1 hr
    obtain ⟨w1, w2⟩ := w_run s (by omega)
    rw [w1, w2, ltI_t (by omega)]
    simp only [wordB, hr, allT, Bool.true_and, Bool.and_true, Bool.or_true, cond_true]
    cases letB (bAt s 0) <;> simp

def f_spec_l12Keyword_l0 (y1 : ByteArray) (b : ByteArray) : (Unit) → Nat ⊕ (Unit)
  | _ => (bif ((ByteArray.toList (b) == ByteArray.toList y1)) then (.inl 0) else (.inr ()))

def st_spec_l12Keyword_l0 (y1 : ByteArray) (y2 : List ByteArray) (i : Nat) : (Unit) → X_spec_l12Keyword_l0
  | _ => ((i : Int), y1, y2)

def pr_spec_l12Keyword_l0 : X_spec_l12Keyword_l0 → Unit
  | (_, _, _) => ()

theorem w_spec_l12Keyword_l0 (y1 : ByteArray) (y2 : List ByteArray)  (hn : y2.length ≤ 9223372036854775807)  :
    lp_spec_l12Keyword_l0.fin ((0 : Int), y1, y2) = true ∧ lp_spec_l12Keyword_l0.res ((0 : Int), y1, y2) = ((walkL (f_spec_l12Keyword_l0 y1) 1 y2 0 ()).1, (st_spec_l12Keyword_l0 y1 y2) (walkL (f_spec_l12Keyword_l0 y1) 1 y2 0 ()).2.1 (walkL (f_spec_l12Keyword_l0 y1) 1 y2 0 ()).2.2) := by
  have key := lp_spec_l12Keyword_l0.along (st_spec_l12Keyword_l0 y1 y2) pr_spec_l12Keyword_l0 (f_spec_l12Keyword_l0 y1) 1 (fun _ _ => True) y2 () (by trivial) (by simp only [lp_spec_l12Keyword_l0, st_spec_l12Keyword_l0]; omega) (fun i b a hb hI => ?_) (fun a hI => ?_)
  · exact key
  · obtain ⟨⟩ := a
    have hlt := (List.getElem?_eq_some_iff.1 hb).1
    have hget : ∀ d, Option.getD y2[i]? d = b := fun d => by rw [hb]; rfl
    have hw := wrap64 hlt hn
    have hdec : ltI (i : Int) (y2.length : Int) = true := ltI_t (by omega)
    have hnn : leI (0 : Int) (i : Int) = true := leI_t (by omega)
    have hltd : ltN i y2.length = true := ltN_t hlt
    refine ⟨?_, ?_, ?_, ?_⟩
    · simp [spec_l12Keyword_l0_0, spec_l12Keyword_l0_1, spec_l12Keyword_l0_2, spec_l12Keyword_l0_3, spec_l12Keyword_l0_4, lt_spec_l12Keyword_l0, lp_spec_l12Keyword_l0, LT.nds, allT, st_spec_l12Keyword_l0, hdec, hnn, hltd, hget]
    · simp [spec_l12Keyword_l0_0, spec_l12Keyword_l0_1, spec_l12Keyword_l0_2, spec_l12Keyword_l0_3, spec_l12Keyword_l0_4, lt_spec_l12Keyword_l0, lp_spec_l12Keyword_l0, LT.each, st_spec_l12Keyword_l0, pr_spec_l12Keyword_l0, hw]
    · simp only [spec_l12Keyword_l0_0, spec_l12Keyword_l0_1, spec_l12Keyword_l0_2, spec_l12Keyword_l0_3, spec_l12Keyword_l0_4, lt_spec_l12Keyword_l0, lp_spec_l12Keyword_l0, LT.fn, st_spec_l12Keyword_l0, pr_spec_l12Keyword_l0, f_spec_l12Keyword_l0, Int.toNat_natCast, hdec, hnn, hltd, hget, cond_true, Bool.cond_self]
    · exact fun _ _ => trivial
  · obtain ⟨⟩ := a
    simp [spec_l12Keyword_l0_0, spec_l12Keyword_l0_1, spec_l12Keyword_l0_2, spec_l12Keyword_l0_3, spec_l12Keyword_l0_4, lt_spec_l12Keyword_l0, lp_spec_l12Keyword_l0, LT.out, st_spec_l12Keyword_l0]

def f_slices_Index_string_string_l0 (y2 : ByteArray) (b : ByteArray) : (Unit) → Nat ⊕ (Unit)
  | _ => (bif ((ByteArray.toList y2 == ByteArray.toList (b))) then (.inl 0) else (.inr ()))

def st_slices_Index_string_string_l0 (y2 : ByteArray) (y3 : List ByteArray) (i : Nat) : (Unit) → X_slices_Index_string_string_l0
  | _ => ((i : Int), (↑(List.length y3) : Int), y2, y3)

def pr_slices_Index_string_string_l0 : X_slices_Index_string_string_l0 → Unit
  | (_, _, _, _) => ()

theorem w_slices_Index_string_string_l0 (y2 : ByteArray) (y3 : List ByteArray)  (hn : y3.length ≤ 9223372036854775807)  :
    lp_slices_Index_string_string_l0.fin ((0 : Int), (↑(List.length y3) : Int), y2, y3) = true ∧ lp_slices_Index_string_string_l0.res ((0 : Int), (↑(List.length y3) : Int), y2, y3) = ((walkL (f_slices_Index_string_string_l0 y2) 1 y3 0 ()).1, (st_slices_Index_string_string_l0 y2 y3) (walkL (f_slices_Index_string_string_l0 y2) 1 y3 0 ()).2.1 (walkL (f_slices_Index_string_string_l0 y2) 1 y3 0 ()).2.2) := by
  have key := lp_slices_Index_string_string_l0.along (st_slices_Index_string_string_l0 y2 y3) pr_slices_Index_string_string_l0 (f_slices_Index_string_string_l0 y2) 1 (fun _ _ => True) y3 () (by trivial) (by simp only [lp_slices_Index_string_string_l0, st_slices_Index_string_string_l0]; omega) (fun i b a hb hI => ?_) (fun a hI => ?_)
  · exact key
  · obtain ⟨⟩ := a
    have hlt := (List.getElem?_eq_some_iff.1 hb).1
    have hget : ∀ d, Option.getD y3[i]? d = b := fun d => by rw [hb]; rfl
    have hw := wrap64 hlt hn
    have hdec : ltI (i : Int) (y3.length : Int) = true := ltI_t (by omega)
    have hnn : leI (0 : Int) (i : Int) = true := leI_t (by omega)
    have hltd : ltN i y3.length = true := ltN_t hlt
    refine ⟨?_, ?_, ?_, ?_⟩
    · simp [slices_Index_string_string_l0_0, slices_Index_string_string_l0_1, slices_Index_string_string_l0_2, slices_Index_string_string_l0_3, slices_Index_string_string_l0_4, slices_Index_string_string_l0_5, lt_slices_Index_string_string_l0, lp_slices_Index_string_string_l0, LT.nds, allT, st_slices_Index_string_string_l0, hdec, hnn, hltd, hget]
    · simp [slices_Index_string_string_l0_0, slices_Index_string_string_l0_1, slices_Index_string_string_l0_2, slices_Index_string_string_l0_3, slices_Index_string_string_l0_4, slices_Index_string_string_l0_5, lt_slices_Index_string_string_l0, lp_slices_Index_string_string_l0, LT.each, st_slices_Index_string_string_l0, pr_slices_Index_string_string_l0, hw]
    · simp only [slices_Index_string_string_l0_0, slices_Index_string_string_l0_1, slices_Index_string_string_l0_2, slices_Index_string_string_l0_3, slices_Index_string_string_l0_4, slices_Index_string_string_l0_5, lt_slices_Index_string_string_l0, lp_slices_Index_string_string_l0, LT.fn, st_slices_Index_string_string_l0, pr_slices_Index_string_string_l0, f_slices_Index_string_string_l0, Int.toNat_natCast, hdec, hnn, hltd, hget, cond_true, Bool.cond_self]
    · exact fun _ _ => trivial
  · obtain ⟨⟩ := a
    simp [slices_Index_string_string_l0_0, slices_Index_string_string_l0_1, slices_Index_string_string_l0_2, slices_Index_string_string_l0_3, slices_Index_string_string_l0_4, slices_Index_string_string_l0_5, lt_slices_Index_string_string_l0, lp_slices_Index_string_string_l0, LT.out, st_slices_Index_string_string_l0]

theorem key17 : tab0.length ≤ 9223372036854775807 := by decide

theorem specKey_ok (s : ByteArray) : ltI (spec_l12Keyword_0 s) 0 = !keyB s ∧ spec_l12Keyword_1 s = true := by
  have e0 : spec_l12Keywords_0 = tab0 := rfl
  obtain ⟨w1, w2⟩ := w_spec_l12Keyword_l0 s tab0 key17
  rw [walk_stop (P := fun k => k.toList == s.toList) (j := 0) (fun k => rfl)] at w2
  simp only [spec_l12Keyword_0, spec_l12Keyword_1, spec_l12Keyword_a0, e0, w1, w2, allT, keyB, st_spec_l12Keyword_l0]
  cases tab0.any fun k => k.toList == s.toList with
  | false => exact ⟨rfl, rfl⟩
  | true =>
    simp only [cond_true, Nat.beq]
    refine ⟨?_, trivial⟩
    exact ltI_not.2 (by omega)

theorem implKey_ok (s : ByteArray) : impl_IsKeyword_0 s = keyB s ∧ impl_IsKeyword_1 s = true := by
  have e0 : List.drop (Int.toNat (0)) (List.take (Int.toNat (↑(List.length tab0))) tab0) = tab0 := rfl
  obtain ⟨w1, w2⟩ := w_slices_Index_string_string_l0 s tab0 key17
  rw [walk_stop (P := fun k => s.toList == k.toList) (j := 0) (fun k => rfl)] at w2
  have e1 : (fun k : ByteArray => s.toList == k.toList) = fun k => k.toList == s.toList := funext fun k => BEq.comm
  rw [e1] at w2
  simp only [impl_IsKeyword_0, impl_IsKeyword_1, e0, slices_Contains_string_string_0, slices_Contains_string_string_1, slices_Index_string_string_0, slices_Index_string_string_1, slices_Index_string_string_a0, w1, w2, allT, keyB, st_slices_Index_string_string_l0]
  cases tab0.any fun k => k.toList == s.toList with
  | false => exact ⟨rfl, rfl⟩
  | true =>
    simp only [cond_true, Nat.beq]
    rw [leI_t (by omega)]; simp

def N_spec_l12Word : List SV → List Entry → Option Out
  | [.one ⟨false, [.val (.string x0)]⟩], [] => some ⟨(.one ⟨false, [(.val (.bool (wordB x0)))]⟩), [], [], [leN x0.size 9223372036854775807]⟩
  | _, _ => none

def n_spec_l12Word : PF Tryd.prog := PF.alt p_spec_l12Word N_spec_l12Word (by
  intro args es o h hnd; unfold N_spec_l12Word at h; split at h
  · rename_i x0
    cases h
    have hnd := nd_fst hnd
    have hh := specWord_ok x0 hnd
    obtain ⟨e0, en⟩ := hh
    exact altok rfl (nd_one en) (by simp only [e0] <;> rfl) rfl rfl
  · cases h)

def N_impl_isWord : List SV → List Entry → Option Out
  | [.one ⟨false, [.val (.string x0)]⟩], [] => some ⟨(.one ⟨false, [(.val (.bool (wordB x0)))]⟩), [], [], []⟩
  | _, _ => none

def n_impl_isWord : PF Tryd.prog := PF.alt p_impl_isWord N_impl_isWord (by
  intro args es o h hnd; unfold N_impl_isWord at h; split at h
  · rename_i x0
    cases h
    have hh := implWord_ok x0
    obtain ⟨e0, en⟩ := hh
    exact altok rfl (nd_one en) (by simp only [e0] <;> rfl) rfl rfl
  · cases h)

def N_impl_IsKeyword : List SV → List Entry → Option Out
  | [.one ⟨false, [.val (.string x0)]⟩], [] => some ⟨(.one ⟨false, [(.val (.bool (keyB x0)))]⟩), [], [], []⟩
  | _, _ => none

def n_impl_IsKeyword : PF Tryd.prog := PF.alt p_impl_IsKeyword N_impl_IsKeyword (by
  intro args es o h hnd; unfold N_impl_IsKeyword at h; split at h
  · rename_i x0
    cases h
    have hh := implKey_ok x0
    obtain ⟨e0, en⟩ := hh
    exact altok rfl (nd_one en) (by simp only [e0] <;> rfl) rfl rfl
  · cases h)

end Go.SX

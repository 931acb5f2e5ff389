/- Runs of blocks, in plain words. -/
import Derived.Test.YtepaifhehlpbaaaDoorRi
import Derived.Test.YtepaifhehlpbaaaDoorLb
namespace Go.SX
open Go.Proofs
set_option maxRecDepth 100000

/-- A block run through lists of arguments: its state, its values. -/
def runG (k n : Int) (a : BS × List Int) (l : List Int) : BS × List Int := (nextB k n l a.1, a.2 ++ [valB k n l a.1])
def runB (k n : Int) (ll : List (List Int)) : BS × List Int := ll.foldl (runG k n) ((0, 0, 0), [])
def rbCode (k : Int) (s : ByteArray) (n : Int) (ll : List (List Int)) : Int :=
  bif !blockB k s n then 1 else bif ltI 200 (ll.length : Int) then 3 else bif ll.all (bitsB (takesK k)) then 0 else 2
def rbS (k : Int) (s : ByteArray) (n : Int) (ll : List (List Int)) : BS := bif rbCode k s n ll == 0 then (runB k n ll).1 else (0, 0, 0)
def rbV (k : Int) (s : ByteArray) (n : Int) (ll : List (List Int)) : List Int := bif rbCode k s n ll == 0 then (runB k n ll).2 else []

theorem poss0 {k n : Int} {s : ByteArray} (hB : blockB k s n = true) : possB k n 0 0 0 = true := by
  obtain ⟨hk, hn, _⟩ := blockB_iff hB
  have hw : IntKind.i64.wrap (n + 1) = n + 1 := wrap_i64 (by omega) (by omega)
  rcases kinds hk with rfl | rfl | rfl | rfl | rfl | rfl <;> simp [possB, spec_l15Possible_0, spec_l01In_0, hw] <;> omega

def f_spec_RunBlock_l0 (y2 : Int) (b : List Int) : (Unit) → Nat ⊕ (Unit)
  | _ => (bif ((!bitsB (spec_l13Takes_0 y2) ((b)))) then (.inl 0) else (.inr ()))

def st_spec_RunBlock_l0 (y1 : List (List Int)) (y2 : Int) (y3 : ByteArray) (y4 : Int) (y5 : Int) (y6 : Int) (y7 : Int) (i : Nat) : (Unit) → X_spec_RunBlock_l0
  | _ => ((i : Int), y1, y2, y3, y4, y5, y6, y7)

def pr_spec_RunBlock_l0 : X_spec_RunBlock_l0 → Unit
  | (_, _, _, _, _, _, _, _) => ()

theorem w_spec_RunBlock_l0 (y1 : List (List Int)) (y2 : Int) (y3 : ByteArray) (y4 : Int) (y5 : Int) (y6 : Int) (y7 : Int)  (hn : y1.length ≤ 9223372036854775807) (hA : ∀ x ∈ y1, x.length ≤ 9223372036854775807) :
    lp_spec_RunBlock_l0.fin ((0 : Int), y1, y2, y3, y4, y5, y6, y7) = true ∧ lp_spec_RunBlock_l0.res ((0 : Int), y1, y2, y3, y4, y5, y6, y7) = ((walkL (f_spec_RunBlock_l0 y2) 1 y1 0 ()).1, (st_spec_RunBlock_l0 y1 y2 y3 y4 y5 y6 y7) (walkL (f_spec_RunBlock_l0 y2) 1 y1 0 ()).2.1 (walkL (f_spec_RunBlock_l0 y2) 1 y1 0 ()).2.2) := by
  have key := lp_spec_RunBlock_l0.along (st_spec_RunBlock_l0 y1 y2 y3 y4 y5 y6 y7) pr_spec_RunBlock_l0 (f_spec_RunBlock_l0 y2) 1 (fun _ _ => True) y1 () (by trivial) (by simp only [lp_spec_RunBlock_l0, st_spec_RunBlock_l0]; omega) (fun i b a hb hI => ?_) (fun a hI => ?_)
  · exact key
  · obtain ⟨⟩ := a
    have hlt := (List.getElem?_eq_some_iff.1 hb).1
    have hget : ∀ d, Option.getD y1[i]? d = b := fun d => by rw [hb]; rfl
    have hw := wrap64 hlt hn
    have hdec : ltI (i : Int) (y1.length : Int) = true := ltI_t (by omega)
    have hnn : leI (0 : Int) (i : Int) = true := leI_t (by omega)
    have hltd : ltN i y1.length = true := ltN_t hlt
    refine ⟨?_, ?_, ?_, ?_⟩
    · have hg2 : spec_RunBlock_l0_a0 (i : Int) y1 = b := by simp only [spec_RunBlock_l0_a0, Int.toNat_natCast]; exact hget _
      have h6 : leN b.length 9223372036854775807 = true := leN_t (hA b (List.mem_of_getElem? hb))
      simp [spec_RunBlock_l0_0, spec_RunBlock_l0_1, spec_RunBlock_l0_2, spec_RunBlock_l0_3, spec_RunBlock_l0_4, spec_RunBlock_l0_5, lt_spec_RunBlock_l0, lp_spec_RunBlock_l0, LT.nds, allT, st_spec_RunBlock_l0, hdec, hnn, hltd, hg2, h6]
    · simp [spec_RunBlock_l0_a0, spec_RunBlock_l0_0, spec_RunBlock_l0_1, spec_RunBlock_l0_2, spec_RunBlock_l0_3, spec_RunBlock_l0_4, spec_RunBlock_l0_5, lt_spec_RunBlock_l0, lp_spec_RunBlock_l0, LT.each, st_spec_RunBlock_l0, pr_spec_RunBlock_l0, hw]
    · have hg2 : spec_RunBlock_l0_a0 (i : Int) y1 = b := by simp only [spec_RunBlock_l0_a0, Int.toNat_natCast]; exact hget _
      simp only [spec_RunBlock_l0_0, spec_RunBlock_l0_4, lt_spec_RunBlock_l0, lp_spec_RunBlock_l0, LT.fn, st_spec_RunBlock_l0, pr_spec_RunBlock_l0, f_spec_RunBlock_l0, Int.toNat_natCast, hdec, hg2, cond_true]
    · exact fun _ _ => trivial
  · obtain ⟨⟩ := a
    simp [spec_RunBlock_l0_a0, spec_RunBlock_l0_0, spec_RunBlock_l0_1, spec_RunBlock_l0_2, spec_RunBlock_l0_3, spec_RunBlock_l0_4, spec_RunBlock_l0_5, lt_spec_RunBlock_l0, lp_spec_RunBlock_l0, LT.out, st_spec_RunBlock_l0]

def f_spec_RunBlock_l1 (y2 : Int) (y4 : Int) (b : List Int) : (Int × Int × Int × List Int) → Nat ⊕ (Int × Int × Int × List Int)
  | (y5, y6, y7, y8) => (.inr (((spec_l15Step_1 y2 y4 y5 y6 y7 ((b)))), ((spec_l15Step_2 y2 y6 y7 ((b)))), ((spec_l15Step_3 y2 y4 y5 y7 ((b)))), ((y8 ++ ([spec_l15Step_0 y2 y4 y5 y6 y7 ((b))])))))

def st_spec_RunBlock_l1 (y1 : List (List Int)) (y2 : Int) (y3 : ByteArray) (y4 : Int) (i : Nat) : (Int × Int × Int × List Int) → X_spec_RunBlock_l1
  | (y5, y6, y7, y8) => ((i : Int), y1, y2, y3, y4, y5, y6, y7, y8)

def pr_spec_RunBlock_l1 : X_spec_RunBlock_l1 → Int × Int × Int × List Int
  | (_, _, _, _, _, y5, y6, y7, y8) => (y5, y6, y7, y8)

theorem w_spec_RunBlock_l1 (y1 : List (List Int)) (y2 : Int) (y3 : ByteArray) (y4 : Int) (y5 : Int) (y6 : Int) (y7 : Int) (y8 : List Int) (hn : y1.length ≤ 9223372036854775807) (hB : blockB y2 y3 y4 = true) (hA : ∀ x ∈ y1, bitsB (takesK y2) x = true) (h200 : y1.length ≤ 200) (hP : possB y2 y4 y5 y6 y7 = true) (h8 : y8.length = 0) :
    lp_spec_RunBlock_l1.fin ((0 : Int), y1, y2, y3, y4, y5, y6, y7, y8) = true ∧ lp_spec_RunBlock_l1.res ((0 : Int), y1, y2, y3, y4, y5, y6, y7, y8) = ((walkL (f_spec_RunBlock_l1 y2 y4) 0 y1 0 (y5, y6, y7, y8)).1, (st_spec_RunBlock_l1 y1 y2 y3 y4) (walkL (f_spec_RunBlock_l1 y2 y4) 0 y1 0 (y5, y6, y7, y8)).2.1 (walkL (f_spec_RunBlock_l1 y2 y4) 0 y1 0 (y5, y6, y7, y8)).2.2) := by
  have key := lp_spec_RunBlock_l1.along (st_spec_RunBlock_l1 y1 y2 y3 y4) pr_spec_RunBlock_l1 (f_spec_RunBlock_l1 y2 y4) 0 (fun i a => possB y2 y4 a.1 a.2.1 a.2.2.1 = true ∧ a.2.2.2.length = i) y1 (y5, y6, y7, y8) ⟨hP, h8⟩ (by simp only [lp_spec_RunBlock_l1, st_spec_RunBlock_l1]; omega) (fun i b a hb hI => ?_) (fun a hI => ?_)
  · exact key
  · obtain ⟨y5, y6, y7, y8⟩ := a
    have hlt := (List.getElem?_eq_some_iff.1 hb).1
    have hget : ∀ d, Option.getD y1[i]? d = b := fun d => by rw [hb]; rfl
    have hw := wrap64 hlt hn
    have hdec : ltI (i : Int) (y1.length : Int) = true := ltI_t (by omega)
    have hnn : leI (0 : Int) (i : Int) = true := leI_t (by omega)
    have hltd : ltN i y1.length = true := ltN_t hlt
    refine ⟨?_, ?_, ?_, ?_⟩
    · have hg2 : spec_RunBlock_l1_a0 (i : Int) y1 = b := by simp only [spec_RunBlock_l1_a0, Int.toNat_natCast]; exact hget _
      have hAb := hA b (List.mem_of_getElem? hb)
      have hl := hI.2
      obtain ⟨_, _, _, _, _, e5, _⟩ := step_eq hB hI.1 hAb
      have h6 : leN (y8.length + 1) 9223372036854775807 = true := leN_t (by simp only at hl; omega)
      have h7 : leN ((y8.length + 1) * 8) 140737488355328 = true := leN_t (by simp only at hl; omega)
      simp only [spec_RunBlock_l1_0, spec_RunBlock_l1_1, spec_RunBlock_l1_2, spec_RunBlock_l1_3, spec_RunBlock_l1_4, spec_RunBlock_l1_5, spec_RunBlock_l1_a1, lt_spec_RunBlock_l1, lp_spec_RunBlock_l1, LT.nds, allT, st_spec_RunBlock_l1, hdec, hnn, hltd, hg2, e5, List.length_singleton, h6, h7, Int.toNat_natCast, cond_true]
    · simp [spec_RunBlock_l1_a0, spec_RunBlock_l1_a1, spec_RunBlock_l1_0, spec_RunBlock_l1_1, spec_RunBlock_l1_2, spec_RunBlock_l1_3, spec_RunBlock_l1_4, spec_RunBlock_l1_5, spec_RunBlock_l1_6, spec_RunBlock_l1_7, spec_RunBlock_l1_8, spec_RunBlock_l1_9, spec_RunBlock_l1_10, lt_spec_RunBlock_l1, lp_spec_RunBlock_l1, LT.each, st_spec_RunBlock_l1, pr_spec_RunBlock_l1, hw]
    · have hg2 : spec_RunBlock_l1_a0 (i : Int) y1 = b := by simp only [spec_RunBlock_l1_a0, Int.toNat_natCast]; exact hget _
      simp only [spec_RunBlock_l1_0, spec_RunBlock_l1_7, spec_RunBlock_l1_8, spec_RunBlock_l1_9, spec_RunBlock_l1_10, spec_RunBlock_l1_a1, lt_spec_RunBlock_l1, lp_spec_RunBlock_l1, LT.fn, st_spec_RunBlock_l1, pr_spec_RunBlock_l1, f_spec_RunBlock_l1, Int.toNat_natCast, hdec, hg2, cond_true]
    · intro a' hf
      simp only [f_spec_RunBlock_l1, Sum.inr.injEq] at hf
      subst hf
      obtain ⟨_, _, _, _, _, _, e6⟩ := step_eq hB hI.1 (hA b (List.mem_of_getElem? hb))
      exact ⟨e6, by have hl := hI.2; simp only at hl; simp [hl]⟩
  · obtain ⟨y5, y6, y7, y8⟩ := a
    simp [spec_RunBlock_l1_a0, spec_RunBlock_l1_a1, spec_RunBlock_l1_0, spec_RunBlock_l1_1, spec_RunBlock_l1_2, spec_RunBlock_l1_3, spec_RunBlock_l1_4, spec_RunBlock_l1_5, spec_RunBlock_l1_6, spec_RunBlock_l1_7, spec_RunBlock_l1_8, spec_RunBlock_l1_9, spec_RunBlock_l1_10, lt_spec_RunBlock_l1, lp_spec_RunBlock_l1, LT.out, st_spec_RunBlock_l1]

def f_impl_RunBlock_l0 (y3 : Int) (y5 : Int) (b : List Int) : (Int × Int × Int × List Int) → Nat ⊕ (Int × Int × Int × List Int)
  | (y6, y7, y8, y9) => (.inr (((impl_step_1 y3 y5 y6 y7 y8 ((b)))), ((impl_step_2 y3 y7 y8 ((b)))), ((impl_step_3 y3 y5 y6 y7 y8 ((b)))), ((y9 ++ ([impl_step_0 y3 y5 y6 y7 y8 ((b))])))))

def st_impl_RunBlock_l0 (y2 : List (List Int)) (y3 : Int) (y4 : ByteArray) (y5 : Int) (i : Nat) : (Int × Int × Int × List Int) → X_impl_RunBlock_l0
  | (y6, y7, y8, y9) => ((i : Int), (↑(List.length y2) : Int), y2, y3, y4, y5, y6, y7, y8, y9)

def pr_impl_RunBlock_l0 : X_impl_RunBlock_l0 → Int × Int × Int × List Int
  | (_, _, _, _, _, _, y6, y7, y8, y9) => (y6, y7, y8, y9)

theorem w_impl_RunBlock_l0 (y2 : List (List Int)) (y3 : Int) (y4 : ByteArray) (y5 : Int) (y6 : Int) (y7 : Int) (y8 : Int) (y9 : List Int) (hn : y2.length ≤ 9223372036854775807) (hB : blockB y3 y4 y5 = true) (hA : ∀ x ∈ y2, bitsB (takesK y3) x = true) (h200 : y2.length ≤ 200) (hP : possB y3 y5 y6 y7 y8 = true) (h8 : y9.length = 0) :
    lp_impl_RunBlock_l0.fin ((0 : Int), (↑(List.length y2) : Int), y2, y3, y4, y5, y6, y7, y8, y9) = true ∧ lp_impl_RunBlock_l0.res ((0 : Int), (↑(List.length y2) : Int), y2, y3, y4, y5, y6, y7, y8, y9) = ((walkL (f_impl_RunBlock_l0 y3 y5) 0 y2 0 (y6, y7, y8, y9)).1, (st_impl_RunBlock_l0 y2 y3 y4 y5) (walkL (f_impl_RunBlock_l0 y3 y5) 0 y2 0 (y6, y7, y8, y9)).2.1 (walkL (f_impl_RunBlock_l0 y3 y5) 0 y2 0 (y6, y7, y8, y9)).2.2) := by
  have key := lp_impl_RunBlock_l0.along (st_impl_RunBlock_l0 y2 y3 y4 y5) pr_impl_RunBlock_l0 (f_impl_RunBlock_l0 y3 y5) 0 (fun i a => possB y3 y5 a.1 a.2.1 a.2.2.1 = true ∧ a.2.2.2.length = i) y2 (y6, y7, y8, y9) ⟨hP, h8⟩ (by simp only [lp_impl_RunBlock_l0, st_impl_RunBlock_l0]; omega) (fun i b a hb hI => ?_) (fun a hI => ?_)
  · exact key
  · obtain ⟨y6, y7, y8, y9⟩ := a
    have hlt := (List.getElem?_eq_some_iff.1 hb).1
    have hget : ∀ d, Option.getD y2[i]? d = b := fun d => by rw [hb]; rfl
    have hw := wrap64 hlt hn
    have hdec : ltI (i : Int) (y2.length : Int) = true := ltI_t (by omega)
    have hnn : leI (0 : Int) (i : Int) = true := leI_t (by omega)
    have hltd : ltN i y2.length = true := ltN_t hlt
    refine ⟨?_, ?_, ?_, ?_⟩
    · have hg2 : impl_RunBlock_l0_a0 (i : Int) y2 = b := by simp only [impl_RunBlock_l0_a0, Int.toNat_natCast]; exact hget _
      have hAb := hA b (List.mem_of_getElem? hb)
      have hl := hI.2
      obtain ⟨_, _, _, _, e5, _, _⟩ := step_eq hB hI.1 hAb
      have h6 : leN (y9.length + 1) 9223372036854775807 = true := leN_t (by simp only at hl; omega)
      have h7 : leN ((y9.length + 1) * 8) 140737488355328 = true := leN_t (by simp only at hl; omega)
      simp only [impl_RunBlock_l0_0, impl_RunBlock_l0_1, impl_RunBlock_l0_2, impl_RunBlock_l0_3, impl_RunBlock_l0_4, impl_RunBlock_l0_5, impl_RunBlock_l0_6, impl_RunBlock_l0_a1, lt_impl_RunBlock_l0, lp_impl_RunBlock_l0, LT.nds, allT, st_impl_RunBlock_l0, hdec, hnn, hltd, hg2, e5, List.length_singleton, h6, h7, Int.toNat_natCast, cond_true]
    · simp [impl_RunBlock_l0_a0, impl_RunBlock_l0_a1, impl_RunBlock_l0_0, impl_RunBlock_l0_1, impl_RunBlock_l0_2, impl_RunBlock_l0_3, impl_RunBlock_l0_4, impl_RunBlock_l0_5, impl_RunBlock_l0_6, impl_RunBlock_l0_7, impl_RunBlock_l0_8, impl_RunBlock_l0_9, impl_RunBlock_l0_10, impl_RunBlock_l0_11, lt_impl_RunBlock_l0, lp_impl_RunBlock_l0, LT.each, st_impl_RunBlock_l0, pr_impl_RunBlock_l0, hw]
    · have hg2 : impl_RunBlock_l0_a0 (i : Int) y2 = b := by simp only [impl_RunBlock_l0_a0, Int.toNat_natCast]; exact hget _
      simp only [impl_RunBlock_l0_0, impl_RunBlock_l0_8, impl_RunBlock_l0_9, impl_RunBlock_l0_10, impl_RunBlock_l0_11, impl_RunBlock_l0_a1, lt_impl_RunBlock_l0, lp_impl_RunBlock_l0, LT.fn, st_impl_RunBlock_l0, pr_impl_RunBlock_l0, f_impl_RunBlock_l0, Int.toNat_natCast, hdec, hg2, cond_true]
    · intro a' hf
      simp only [f_impl_RunBlock_l0, Sum.inr.injEq] at hf
      subst hf
      obtain ⟨_, e1, e2, e3, _, _, e6⟩ := step_eq hB hI.1 (hA b (List.mem_of_getElem? hb))
      exact ⟨by rw [e1, e2, e3]; exact e6, by have hl := hI.2; simp only at hl; simp [hl]⟩
  · obtain ⟨y6, y7, y8, y9⟩ := a
    simp [impl_RunBlock_l0_a0, impl_RunBlock_l0_a1, impl_RunBlock_l0_0, impl_RunBlock_l0_1, impl_RunBlock_l0_2, impl_RunBlock_l0_3, impl_RunBlock_l0_4, impl_RunBlock_l0_5, impl_RunBlock_l0_6, impl_RunBlock_l0_7, impl_RunBlock_l0_8, impl_RunBlock_l0_9, impl_RunBlock_l0_10, impl_RunBlock_l0_11, lt_impl_RunBlock_l0, lp_impl_RunBlock_l0, LT.out, st_impl_RunBlock_l0]

def flB (a : BS × List Int) : Int × Int × Int × List Int := (a.1.1, a.1.2.1, a.1.2.2, a.2)

theorem walk_specB (k n : Int) : ∀ (r : List (List Int)) (i : Nat) (a : BS × List Int), walkL (f_spec_RunBlock_l1 k n) 0 r i (flB a) = (0, i + r.length, flB (r.foldl (runG k n) a))
  | [], i, a => rfl
  | l :: r, i, a => by
    have h : f_spec_RunBlock_l1 k n l (flB a) = .inr (flB (runG k n a l)) := rfl
    simp only [walkL, h, List.foldl_cons]
    rw [walk_specB k n r]
    simp; omega

theorem walk_implB {k n : Int} {s : ByteArray} (hB : blockB k s n = true) : ∀ (r : List (List Int)) (i : Nat) (a : BS × List Int), (∀ x ∈ r, bitsB (takesK k) x = true) → possB k n a.1.1 a.1.2.1 a.1.2.2 = true →
    walkL (f_impl_RunBlock_l0 k n) 0 r i (flB a) = (0, i + r.length, flB (r.foldl (runG k n) a))
  | [], i, a, _, _ => rfl
  | l :: r, i, a, hA, hP => by
    obtain ⟨e0, e1, e2, e3, _, _, e6⟩ := step_eq hB hP (hA l (by simp))
    have h : f_impl_RunBlock_l0 k n l (flB a) = .inr (flB (runG k n a l)) := by
      simp only [f_impl_RunBlock_l0, flB, e0, e1, e2, e3, runG, nextB, valB]
    simp only [walkL, h, List.foldl_cons]
    rw [walk_implB hB r (i + 1) (runG k n a l) (fun x hx => hA x (by simp [hx])) e6]
    simp; omega

theorem runG_len (k n : Int) : ∀ (r : List (List Int)) (a : BS × List Int), (r.foldl (runG k n) a).2.length = a.2.length + r.length
  | [], a => rfl
  | l :: r, a => by simp only [List.foldl_cons]; rw [runG_len k n r]; simp [runG]; omega

theorem runG_poss {k n : Int} {s : ByteArray} (hB : blockB k s n = true) : ∀ (r : List (List Int)) (a : BS × List Int), (∀ x ∈ r, bitsB (takesK k) x = true) → possB k n a.1.1 a.1.2.1 a.1.2.2 = true →
    possB k n (r.foldl (runG k n) a).1.1 (r.foldl (runG k n) a).1.2.1 (r.foldl (runG k n) a).1.2.2 = true
  | [], a, _, hP => hP
  | l :: r, a, hA, hP => by
    obtain ⟨_, _, _, _, _, _, e6⟩ := step_eq hB hP (hA l (by simp))
    exact runG_poss hB r (runG k n a l) (fun x hx => hA x (by simp [hx])) e6

theorem runSpec_ok (k : Int) (s : ByteArray) (n : Int) (ll : List (List Int)) (hs : leN s.size 9223372036854775807 = true) (hl : ssOk 9223372036854775807 ll = true) :
    spec_RunBlock_0 k s n ll = (rbS k s n ll).1 ∧ spec_RunBlock_1 k s n ll = (rbS k s n ll).2.1 ∧ spec_RunBlock_2 k s n ll = (rbS k s n ll).2.2 ∧ spec_RunBlock_3 k s n ll = rbCode k s n ll ∧ spec_RunBlock_4 k s n ll = rbV k s n ll ∧ spec_RunBlock_5 k s n ll = true := by
  obtain ⟨hn, hA⟩ := ss_iff.1 hl
  simp only [spec_RunBlock_0, spec_RunBlock_1, spec_RunBlock_2, spec_RunBlock_3, spec_RunBlock_4, spec_RunBlock_5, spec_RunBlock_a0, spec_RunBlock_a2, spec_RunBlock_a4, spec_RunBlock_a5, spec_RunBlock_a1, spec_RunBlock_a3, rbS, rbV, rbCode, hs, allT, cond_true]
  cases hB : blockB k s n with
  | false => simp
  | true =>
    cases h2 : ltI 200 (ll.length : Int) with
    | true => simp
    | false =>
      have h200 := ltI_not.1 h2
      obtain ⟨w1, w2⟩ := w_spec_RunBlock_l0 ll k s n 0 0 0 hn hA
      rw [walk_stop (P := fun l => !bitsB (takesK k) l) (j := 0) (fun l => rfl)] at w2
      have e5 : (ll.any fun l => !bitsB (takesK k) l) = !ll.all (bitsB (takesK k)) := by simp [List.all_eq_not_any_not]
      rw [e5] at w2
      simp only [w1, w2, Bool.not_true, cond_false, Bool.or_true, Bool.false_or, cond_true]
      cases h3 : ll.all (bitsB (takesK k)) with
      | false => simp [Nat.beq]
      | true =>
        have hb : ∀ x ∈ ll, bitsB (takesK k) x = true := List.all_eq_true.1 h3
        obtain ⟨v1, v2⟩ := w_spec_RunBlock_l1 ll k s n 0 0 0 [] (by omega) hB hb (by omega) (poss0 hB) rfl
        have hw := walk_specB k n ll 0 ((0, 0, 0), [])
        simp only [flB] at hw
        rw [hw] at v2
        simp only [v1, v2, st_spec_RunBlock_l1, runB]
        simp [Nat.beq]

theorem runImpl_ok (k : Int) (s : ByteArray) (n : Int) (ll : List (List Int)) (hl : ssOk 9223372036854775807 ll = true) :
    impl_RunBlock_0 k s n ll = (rbS k s n ll).1 ∧ impl_RunBlock_1 k s n ll = (rbS k s n ll).2.1 ∧ impl_RunBlock_2 k s n ll = (rbS k s n ll).2.2 ∧ impl_RunBlock_3 k s n ll = rbCode k s n ll ∧ impl_RunBlock_4 k s n ll = rbV k s n ll ∧ impl_RunBlock_5 k s n ll = true := by
  simp only [impl_RunBlock_0, impl_RunBlock_1, impl_RunBlock_2, impl_RunBlock_3, impl_RunBlock_4, impl_RunBlock_5, impl_RunBlock_a0, impl_RunBlock_a1, impl_RunBlock_a2, impl_RunBlock_a4, impl_RunBlock_a5, impl_RunBlock_a3, rbS, rbV, rbCode, codeV, hl, allT, cond_true]
  cases hB : blockB k s n with
  | false => simp
  | true =>
    cases h2 : ltI 200 (ll.length : Int) with
    | true => simp
    | false =>
      have h200 := ltI_not.1 h2
      rw [poss0 hB]
      cases h3 : ll.all (bitsB (takesK k)) with
      | false => simp
      | true =>
        have hb : ∀ x ∈ ll, bitsB (takesK k) x = true := List.all_eq_true.1 h3
        obtain ⟨v1, v2⟩ := w_impl_RunBlock_l0 ll k s n 0 0 0 [] (by omega) hB hb (by omega) (poss0 hB) rfl
        have hw := walk_implB hB ll 0 ((0, 0, 0), []) hb (poss0 hB)
        simp only [flB] at hw
        rw [hw] at v2
        simp only [v1, v2, st_impl_RunBlock_l0, runB]
        simp

theorem rbV_len (k : Int) (s : ByteArray) (n : Int) (ll : List (List Int)) : (rbV k s n ll).length ≤ 200 := by
  unfold rbV
  cases h : rbCode k s n ll == 0 with
  | false => simp
  | true =>
    simp only [cond_true, runB]
    rw [runG_len]
    have h0 : rbCode k s n ll = 0 := by simpa using h
    unfold rbCode at h0
    cases hB : blockB k s n with
    | false => rw [hB] at h0; simp at h0
    | true =>
      rw [hB] at h0
      cases h2 : ltI 200 (ll.length : Int) with
      | true => rw [h2] at h0; simp at h0
      | false => have := ltI_not.1 h2; simp; omega

end Go.SX

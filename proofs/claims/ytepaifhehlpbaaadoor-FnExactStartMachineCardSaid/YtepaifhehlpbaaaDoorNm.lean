/- Lists of terms, instructions, states of blocks, in plain words. -/
import Derived.Test.YtepaifhehlpbaaaDoorRl
namespace Go.SX
open Go.Proofs
set_option maxRecDepth 100000

abbrev TM := Int × ByteArray × Int

theorem bytes_eq {a b : ByteArray} : a.toList = b.toList ↔ a = b := by
  constructor
  · intro h
    rw [Go.Lib.toList_data, Go.Lib.toList_data] at h
    exact ByteArray.ext (Array.toList_inj.1 h)
  · intro h; rw [h]

/-! ### A text made of a number -/

theorem markT_loop (N : Nat) (hN : N ≤ 20) (k : Int) (h0 : 0 ≤ k) (hm : k ≤ 9223372036854775807) (hk : k < 10 ^ N) (s : ByteArray) (hs : s.size = 0) :
    lp_laws_markText_l0.fin (k, s) = true ∧ ∃ j r, lp_laws_markText_l0.res (k, s) = (j, r) ∧ r.2.size ≤ 20 := by
  refine lp_laws_markText_l0.inv (fun m x => (0 ≤ x.1 ∧ x.1 < 10 ^ m) ∧ (m ≤ N ∧ x.1 ≤ 9223372036854775807) ∧ x.2.size ≤ N - m) (fun _ r => r.2.size ≤ 20) (fun m x hx => ?_) (fun x hx => ?_) N _ (by omega) ⟨⟨h0, hk⟩, ⟨Nat.le_refl _, hm⟩, by simp only; omega⟩
  · obtain ⟨y0, y1⟩ := x
    obtain ⟨⟨h1, h2⟩, ⟨hm, hm2⟩, hl⟩ := hx
    simp only at h1 h2 hl hm2
    by_cases hz : 0 < y0
    · refine .inr ⟨(Int.tdiv y0 10, laws_markText_l0_a0 y0 ++ y1), ?_, ⟨?_, ?_⟩, ⟨by omega, ?_⟩, ?_⟩
      · have t1 : ltI 0 y0 = true := ltI_t hz
        have hsz : (laws_markText_l0_a0 y0).size = 1 := by simp [laws_markText_l0_a0, strOfNums_size]
        have t2 : leN ((laws_markText_l0_a0 y0).size + y1.size) 9223372036854775807 = true := leN_t (by omega)
        have hw : IntKind.i64.wrap (Int.tdiv y0 10) = Int.tdiv y0 10 := by
          rw [Int.tdiv_eq_ediv_of_nonneg h1]; exact wrap_i64 (by omega) (by omega)
        simp only [lp_laws_markText_l0, lt_laws_markText_l0, LT.out, laws_markText_l0_0, laws_markText_l0_1, laws_markText_l0_2, laws_markText_l0_3, laws_markText_l0_4, t1, t2, hw, allT, cond_true]
        rfl
      · simp only; rw [Int.tdiv_eq_ediv_of_nonneg h1]; omega
      · simp only; rw [Int.tdiv_eq_ediv_of_nonneg h1]
        rw [Int.pow_succ] at h2; omega
      · simp only; rw [Int.tdiv_eq_ediv_of_nonneg h1]; omega
      · have hsz : (laws_markText_l0_a0 y0).size = 1 := by simp [laws_markText_l0_a0, strOfNums_size]
        simp only [ByteArray.size_append, hsz]; omega
    · refine .inl ⟨0, ?_, by simp only; omega⟩
      simp [lp_laws_markText_l0, lt_laws_markText_l0, LT.out, laws_markText_l0_0, show ltI 0 y0 = false from ltI_f (by omega)]
  · obtain ⟨y0, y1⟩ := x
    obtain ⟨⟨h1, h2⟩, ⟨hm, hm2⟩, hl⟩ := hx
    simp only at h1 h2 hl hm2
    have : y0 = 0 := by simp at h2; omega
    subst this
    exact ⟨0, by simp [lp_laws_markText_l0, lt_laws_markText_l0, LT.out, laws_markText_l0_0], by simp only; omega⟩

theorem markT_ok (k : Int) (h : (leI 0 k && leI k 9223372036854775807) = true) : laws_markText_1 k = true := by
  simp only [Bool.and_eq_true, leI_iff] at h
  obtain ⟨w1, j, r, w2, w3⟩ := markT_loop 20 (by omega) k h.1 h.2 (by omega) ⟨#[]⟩ rfl
  simp only [laws_markText_1, laws_markText_a0, w1, w2, allT, Bool.or_true, cond_true, Bool.or_eq_true]
  have : leN (ByteArray.size ⟨#[109]⟩ + r.2.size) 9223372036854775807 = true := leN_t (by have : (ByteArray.size ⟨#[109]⟩) = 1 := rfl; omega)
  simp [this]

/-! ### Sizes -/

def totT : List TM → Nat
  | [] => 0
  | t :: r => t.2.1.size + totT r

def eqTs (xs ys : List (Int × ByteArray × Int)) : Bool := decide (xs = ys)
theorem eqTs_refl (xs : List (Int × ByteArray × Int)) : eqTs xs xs = true := by simp [eqTs]

def f_laws_toTermS_l0 (y1 : List (Int × (ByteArray × Int))) (b : Nat) : (List (Int × (ByteArray × Int))) → Nat ⊕ (List (Int × (ByteArray × Int)))
  | y2 => (.inr ((List.set y2 (b) (Prod.fst ((Option.getD y1[b]? ((0 : Int), ByteArray.empty, (0 : Int)))), Prod.fst (Prod.snd ((Option.getD y1[b]? ((0 : Int), ByteArray.empty, (0 : Int))))), Prod.snd (Prod.snd ((Option.getD y1[b]? ((0 : Int), ByteArray.empty, (0 : Int)))))))))

def st_laws_toTermS_l0 (y1 : List (Int × (ByteArray × Int))) (i : Nat) : (List (Int × (ByteArray × Int))) → X_laws_toTermS_l0
  | y2 => ((i : Int), y1, y2)

def pr_laws_toTermS_l0 : X_laws_toTermS_l0 → List (Int × (ByteArray × Int))
  | (_, _, y2) => y2

theorem w_laws_toTermS_l0 (y1 : List (Int × (ByteArray × Int))) (y2 : List (Int × (ByteArray × Int))) (hn : y1.length ≤ 9223372036854775807) (hl : y2.length = y1.length) :
    lp_laws_toTermS_l0.fin ((0 : Int), y1, y2) = true ∧ lp_laws_toTermS_l0.res ((0 : Int), y1, y2) = ((walkL (f_laws_toTermS_l0 y1) 0 (List.range y1.length) 0 y2).1, (st_laws_toTermS_l0 y1) (walkL (f_laws_toTermS_l0 y1) 0 (List.range y1.length) 0 y2).2.1 (walkL (f_laws_toTermS_l0 y1) 0 (List.range y1.length) 0 y2).2.2) := by
  have key := lp_laws_toTermS_l0.along (st_laws_toTermS_l0 y1) pr_laws_toTermS_l0 (f_laws_toTermS_l0 y1) 0 (fun _ a => a.length = y1.length) (List.range y1.length) y2 hl (by simp only [lp_laws_toTermS_l0, st_laws_toTermS_l0, List.length_range]; omega) (fun i b a hb hI => ?_) (fun a hI => ?_)
  · exact key
  · obtain y2 := a
    obtain ⟨rfl, hlt⟩ := range_get hb
    have hw : IntKind.i64.wrap ((b : Int) + 1) = ((b + 1 : Nat) : Int) := by rw [wrap_i64 (by omega) (by omega)]; omega
    have hdec : ltI (b : Int) (y1.length : Int) = true := ltI_t (by omega)
    have hnn : leI (0 : Int) (b : Int) = true := leI_t (by omega)
    have hltd : ltN b y1.length = true := ltN_t (by omega)
    refine ⟨?_, ?_, ?_, ?_⟩
    · simp [laws_toTermS_l0_a0, laws_toTermS_l0_0, laws_toTermS_l0_1, laws_toTermS_l0_2, laws_toTermS_l0_3, laws_toTermS_l0_4, laws_toTermS_l0_5, laws_toTermS_l0_6, lt_laws_toTermS_l0, lp_laws_toTermS_l0, LT.nds, allT, st_laws_toTermS_l0, hdec, hnn, hltd, hI]
    · simp [laws_toTermS_l0_a0, laws_toTermS_l0_0, laws_toTermS_l0_1, laws_toTermS_l0_2, laws_toTermS_l0_3, laws_toTermS_l0_4, laws_toTermS_l0_5, laws_toTermS_l0_6, lt_laws_toTermS_l0, lp_laws_toTermS_l0, LT.each, st_laws_toTermS_l0, pr_laws_toTermS_l0, hw, hI]
    · simp only [laws_toTermS_l0_a0, laws_toTermS_l0_0, laws_toTermS_l0_1, laws_toTermS_l0_2, laws_toTermS_l0_3, laws_toTermS_l0_4, laws_toTermS_l0_5, laws_toTermS_l0_6, lt_laws_toTermS_l0, lp_laws_toTermS_l0, LT.fn, st_laws_toTermS_l0, pr_laws_toTermS_l0, f_laws_toTermS_l0, Int.toNat_natCast, hdec, cond_true]
    · intro a' hf; simp only [f_laws_toTermS_l0, Sum.inr.injEq] at hf; subst hf; simpa using hI
  · obtain y2 := a
    simp [laws_toTermS_l0_a0, laws_toTermS_l0_0, laws_toTermS_l0_1, laws_toTermS_l0_2, laws_toTermS_l0_3, laws_toTermS_l0_4, laws_toTermS_l0_5, laws_toTermS_l0_6, lt_laws_toTermS_l0, lp_laws_toTermS_l0, LT.out, st_laws_toTermS_l0, List.length_range]

def f_laws_eqTermS_l0 (y1 : List (Int × (ByteArray × Int))) (y2 : List (Int × (ByteArray × Int))) (b : Nat) : (Unit) → Nat ⊕ (Unit)
  | _ => (bif ((!laws_eqTerm_0 (Prod.fst ((Option.getD y1[b]? ((0 : Int), ByteArray.empty, (0 : Int))))) (Prod.fst (Prod.snd ((Option.getD y1[b]? ((0 : Int), ByteArray.empty, (0 : Int)))))) (Prod.snd (Prod.snd ((Option.getD y1[b]? ((0 : Int), ByteArray.empty, (0 : Int)))))) (Prod.fst ((Option.getD y2[b]? ((0 : Int), ByteArray.empty, (0 : Int))))) (Prod.fst (Prod.snd ((Option.getD y2[b]? ((0 : Int), ByteArray.empty, (0 : Int)))))) (Prod.snd (Prod.snd ((Option.getD y2[b]? ((0 : Int), ByteArray.empty, (0 : Int)))))))) then (.inl 0) else (.inr ()))

def st_laws_eqTermS_l0 (y1 : List (Int × (ByteArray × Int))) (y2 : List (Int × (ByteArray × Int))) (i : Nat) : (Unit) → X_laws_eqTermS_l0
  | _ => ((i : Int), y1, y2)

def pr_laws_eqTermS_l0 : X_laws_eqTermS_l0 → Unit
  | (_, _, _) => ()

theorem w_laws_eqTermS_l0 (y1 : List (Int × (ByteArray × Int))) (y2 : List (Int × (ByteArray × Int)))  (hn : y1.length ≤ 9223372036854775807) (he : y2.length = y1.length) :
    lp_laws_eqTermS_l0.fin ((0 : Int), y1, y2) = true ∧ lp_laws_eqTermS_l0.res ((0 : Int), y1, y2) = ((walkL (f_laws_eqTermS_l0 y1 y2) 1 (List.range y1.length) 0 ()).1, (st_laws_eqTermS_l0 y1 y2) (walkL (f_laws_eqTermS_l0 y1 y2) 1 (List.range y1.length) 0 ()).2.1 (walkL (f_laws_eqTermS_l0 y1 y2) 1 (List.range y1.length) 0 ()).2.2) := by
  have key := lp_laws_eqTermS_l0.along (st_laws_eqTermS_l0 y1 y2) pr_laws_eqTermS_l0 (f_laws_eqTermS_l0 y1 y2) 1 (fun _ _ => True) (List.range y1.length) () (by trivial) (by simp only [lp_laws_eqTermS_l0, st_laws_eqTermS_l0, List.length_range]; omega) (fun i b a hb hI => ?_) (fun a hI => ?_)
  · exact key
  · obtain ⟨⟩ := a
    obtain ⟨rfl, hlt⟩ := range_get hb
    have hw : IntKind.i64.wrap ((b : Int) + 1) = ((b + 1 : Nat) : Int) := by rw [wrap_i64 (by omega) (by omega)]; omega
    have hdec : ltI (b : Int) (y1.length : Int) = true := ltI_t (by omega)
    have hnn : leI (0 : Int) (b : Int) = true := leI_t (by omega)
    have hltd : ltN b y1.length = true := ltN_t (by omega)
    refine ⟨?_, ?_, ?_, ?_⟩
    · simp [laws_eqTermS_l0_a0, laws_eqTermS_l0_a1, laws_eqTermS_l0_0, laws_eqTermS_l0_1, laws_eqTermS_l0_2, laws_eqTermS_l0_3, laws_eqTermS_l0_4, laws_eqTermS_l0_5, laws_eqTermS_l0_6, lt_laws_eqTermS_l0, lp_laws_eqTermS_l0, LT.nds, allT, st_laws_eqTermS_l0, hdec, hnn, hltd, he]
    · simp [laws_eqTermS_l0_a0, laws_eqTermS_l0_a1, laws_eqTermS_l0_0, laws_eqTermS_l0_1, laws_eqTermS_l0_2, laws_eqTermS_l0_3, laws_eqTermS_l0_4, laws_eqTermS_l0_5, laws_eqTermS_l0_6, lt_laws_eqTermS_l0, lp_laws_eqTermS_l0, LT.each, st_laws_eqTermS_l0, pr_laws_eqTermS_l0, hw, he]
    · simp only [laws_eqTermS_l0_a0, laws_eqTermS_l0_a1, laws_eqTermS_l0_0, laws_eqTermS_l0_1, laws_eqTermS_l0_2, laws_eqTermS_l0_3, laws_eqTermS_l0_4, laws_eqTermS_l0_5, laws_eqTermS_l0_6, lt_laws_eqTermS_l0, lp_laws_eqTermS_l0, LT.fn, st_laws_eqTermS_l0, pr_laws_eqTermS_l0, f_laws_eqTermS_l0, Int.toNat_natCast, hdec, cond_true]
    · exact fun _ _ => trivial
  · obtain ⟨⟩ := a
    simp [laws_eqTermS_l0_a0, laws_eqTermS_l0_a1, laws_eqTermS_l0_0, laws_eqTermS_l0_1, laws_eqTermS_l0_2, laws_eqTermS_l0_3, laws_eqTermS_l0_4, laws_eqTermS_l0_5, laws_eqTermS_l0_6, lt_laws_eqTermS_l0, lp_laws_eqTermS_l0, LT.out, st_laws_eqTermS_l0, List.length_range]

theorem toTermS_ok (xs : List (Int × ByteArray × Int)) (hn : leN xs.length 1048576 = true) : laws_toTermS_0 xs = xs ∧ laws_toTermS_1 xs = true := by
  have hn := leN_iff.1 hn
  have hr : (List.replicate (Int.toNat (xs.length : Int)) ((0 : Int), (⟨#[]⟩ : ByteArray), (0 : Int))).length = xs.length := by simp
  obtain ⟨w1, w2⟩ := w_laws_toTermS_l0 xs (List.replicate (Int.toNat (xs.length : Int)) ((0 : Int), (⟨#[]⟩ : ByteArray), (0 : Int))) (by omega) hr
  have hc := walk_copy (xs := xs) (d := ((0 : Int), (⟨#[]⟩ : ByteArray), (0 : Int))) (g := fun x => x) (f := f_laws_toTermS_l0 xs) (e := 0) (fun b a => rfl) hr
  rw [hc] at w2
  refine ⟨?_, ?_⟩
  · simp only [laws_toTermS_a0, laws_toTermS_0, laws_toTermS_1, w2, st_laws_toTermS_l0]; simp
  · simp only [laws_toTermS_a0, laws_toTermS_0, laws_toTermS_1, w1, allT]; simp; omega

def N_laws_toTermS : List SV → List Entry → Option Out
  | [.one ⟨false, [.ref 0]⟩], [.row false 23 (.pair (.int .i64) (.pair (.str) (.int .i64))) x0] => some ⟨(.one ⟨false, [(.ref 1)]⟩), [(.row false 23 (CTy.pair (CTy.int IntKind.i64) (CTy.pair CTy.str (CTy.int IntKind.i64))) x0)], [(.row true 31 (CTy.pair (CTy.int IntKind.i64) (CTy.pair CTy.str (CTy.int IntKind.i64))) (x0))], [leN x0.length 1048576]⟩
  | _, _ => none

def n_laws_toTermS : PF Tryd.prog := PF.alt p_laws_toTermS N_laws_toTermS (by
  intro args es o h hnd; unfold N_laws_toTermS at h; split at h
  · rename_i x0
    cases h
    have hnd := nd_fst hnd
    have hh := toTermS_ok x0 hnd
    obtain ⟨e0, en⟩ := hh
    exact altok rfl (nd_one en) rfl rfl (by simp only [e0] <;> rfl)
  · cases h)

theorem eqTermS_ok (xs ys : List (Int × ByteArray × Int)) (hn : leN xs.length 9223372036854775807 = true) : laws_eqTermS_0 xs ys = eqTs xs ys ∧ laws_eqTermS_1 xs ys = true := by
  have hn := leN_iff.1 hn
  unfold eqTs
  have h3 : ∀ a b : Int × ByteArray × Int, (!laws_eqTerm_0 a.1 a.2.1 a.2.2 b.1 b.2.1 b.2.2) = !decide (a = b) := fun a b => by
    obtain ⟨a1, a2, a3⟩ := a; obtain ⟨b1, b2, b3⟩ := b
    simp only [laws_eqTerm_0, Prod.mk.injEq]
    by_cases h1 : a1 = b1 <;> by_cases h2 : a2 = b2 <;> by_cases h3 : a3 = b3 <;> simp [h1, h2, h3, bytes_eq]
  by_cases hl : ys.length = xs.length
  · obtain ⟨w1, w2⟩ := w_laws_eqTermS_l0 xs ys hn hl
    have ha := any_ne (d := ((0 : Int), ByteArray.empty, (0 : Int))) hl (P := fun b => !decide (Option.getD xs[b]? ((0 : Int), ByteArray.empty, (0 : Int)) = Option.getD ys[b]? ((0 : Int), ByteArray.empty, (0 : Int)))) (fun b => rfl)
    rw [walk_stop (P := fun b => !decide (Option.getD xs[b]? ((0 : Int), ByteArray.empty, (0 : Int)) = Option.getD ys[b]? ((0 : Int), ByteArray.empty, (0 : Int)))) (j := 0) (fun b => by simp only [f_laws_eqTermS_l0, h3]), ha] at w2
    simp only [laws_eqTermS_a0, laws_eqTermS_a1, laws_eqTermS_0, laws_eqTermS_1, w1, w2, allT]
    by_cases he : xs = ys
    · subst he; simp; decide
    · simp [he, hl]
  · have hne : xs ≠ ys := fun h => hl (by rw [h])
    simp [laws_eqTermS_a0, laws_eqTermS_a1, laws_eqTermS_0, laws_eqTermS_1, allT, hne]
    omega

def N_laws_eqTermS : List SV → List Entry → Option Out
  | [.one ⟨false, [.ref 0]⟩, .one ⟨false, [.ref 1]⟩], [.row false 31 (.pair (.int .i64) (.pair (.str) (.int .i64))) x0, .row false 31 (.pair (.int .i64) (.pair (.str) (.int .i64))) x1] => some ⟨(.one ⟨false, [(.val (.bool (eqTs x0 x1)))]⟩), [(.row false 31 (CTy.pair (CTy.int IntKind.i64) (CTy.pair CTy.str (CTy.int IntKind.i64))) x0), (.row false 31 (CTy.pair (CTy.int IntKind.i64) (CTy.pair CTy.str (CTy.int IntKind.i64))) x1)], [], [leN x0.length 9223372036854775807]⟩
  | _, _ => none

def n_laws_eqTermS : PF Tryd.prog := PF.alt p_laws_eqTermS N_laws_eqTermS (by
  intro args es o h hnd; unfold N_laws_eqTermS at h; split at h
  · rename_i x0 x1
    cases h
    have hnd := nd_fst hnd
    have hh := eqTermS_ok x0 x1 hnd
    obtain ⟨e0, en⟩ := hh
    exact altok rfl (nd_one en) (by simp only [e0] <;> rfl) rfl rfl
  · cases h)

def eqIs (xs ys : List (Int × Int)) : Bool := decide (xs = ys)
theorem eqIs_refl (xs : List (Int × Int)) : eqIs xs xs = true := by simp [eqIs]

def f_laws_toInstructionS_l0 (y1 : List (Int × Int)) (b : Nat) : (List (Int × Int)) → Nat ⊕ (List (Int × Int))
  | y2 => (.inr ((List.set y2 (b) (Prod.fst ((Option.getD y1[b]? ((0 : Int), (0 : Int)))), Prod.snd ((Option.getD y1[b]? ((0 : Int), (0 : Int))))))))

def st_laws_toInstructionS_l0 (y1 : List (Int × Int)) (i : Nat) : (List (Int × Int)) → X_laws_toInstructionS_l0
  | y2 => ((i : Int), y1, y2)

def pr_laws_toInstructionS_l0 : X_laws_toInstructionS_l0 → List (Int × Int)
  | (_, _, y2) => y2

theorem w_laws_toInstructionS_l0 (y1 : List (Int × Int)) (y2 : List (Int × Int)) (hn : y1.length ≤ 9223372036854775807) (hl : y2.length = y1.length) :
    lp_laws_toInstructionS_l0.fin ((0 : Int), y1, y2) = true ∧ lp_laws_toInstructionS_l0.res ((0 : Int), y1, y2) = ((walkL (f_laws_toInstructionS_l0 y1) 0 (List.range y1.length) 0 y2).1, (st_laws_toInstructionS_l0 y1) (walkL (f_laws_toInstructionS_l0 y1) 0 (List.range y1.length) 0 y2).2.1 (walkL (f_laws_toInstructionS_l0 y1) 0 (List.range y1.length) 0 y2).2.2) := by
  have key := lp_laws_toInstructionS_l0.along (st_laws_toInstructionS_l0 y1) pr_laws_toInstructionS_l0 (f_laws_toInstructionS_l0 y1) 0 (fun _ a => a.length = y1.length) (List.range y1.length) y2 hl (by simp only [lp_laws_toInstructionS_l0, st_laws_toInstructionS_l0, List.length_range]; omega) (fun i b a hb hI => ?_) (fun a hI => ?_)
  · exact key
  · obtain y2 := a
    obtain ⟨rfl, hlt⟩ := range_get hb
    have hw : IntKind.i64.wrap ((b : Int) + 1) = ((b + 1 : Nat) : Int) := by rw [wrap_i64 (by omega) (by omega)]; omega
    have hdec : ltI (b : Int) (y1.length : Int) = true := ltI_t (by omega)
    have hnn : leI (0 : Int) (b : Int) = true := leI_t (by omega)
    have hltd : ltN b y1.length = true := ltN_t (by omega)
    refine ⟨?_, ?_, ?_, ?_⟩
    · simp [laws_toInstructionS_l0_a0, laws_toInstructionS_l0_0, laws_toInstructionS_l0_1, laws_toInstructionS_l0_2, laws_toInstructionS_l0_3, laws_toInstructionS_l0_4, laws_toInstructionS_l0_5, laws_toInstructionS_l0_6, lt_laws_toInstructionS_l0, lp_laws_toInstructionS_l0, LT.nds, allT, st_laws_toInstructionS_l0, hdec, hnn, hltd, hI]
    · simp [laws_toInstructionS_l0_a0, laws_toInstructionS_l0_0, laws_toInstructionS_l0_1, laws_toInstructionS_l0_2, laws_toInstructionS_l0_3, laws_toInstructionS_l0_4, laws_toInstructionS_l0_5, laws_toInstructionS_l0_6, lt_laws_toInstructionS_l0, lp_laws_toInstructionS_l0, LT.each, st_laws_toInstructionS_l0, pr_laws_toInstructionS_l0, hw, hI]
    · simp only [laws_toInstructionS_l0_a0, laws_toInstructionS_l0_0, laws_toInstructionS_l0_1, laws_toInstructionS_l0_2, laws_toInstructionS_l0_3, laws_toInstructionS_l0_4, laws_toInstructionS_l0_5, laws_toInstructionS_l0_6, lt_laws_toInstructionS_l0, lp_laws_toInstructionS_l0, LT.fn, st_laws_toInstructionS_l0, pr_laws_toInstructionS_l0, f_laws_toInstructionS_l0, Int.toNat_natCast, hdec, cond_true]
    · intro a' hf; simp only [f_laws_toInstructionS_l0, Sum.inr.injEq] at hf; subst hf; simpa using hI
  · obtain y2 := a
    simp [laws_toInstructionS_l0_a0, laws_toInstructionS_l0_0, laws_toInstructionS_l0_1, laws_toInstructionS_l0_2, laws_toInstructionS_l0_3, laws_toInstructionS_l0_4, laws_toInstructionS_l0_5, laws_toInstructionS_l0_6, lt_laws_toInstructionS_l0, lp_laws_toInstructionS_l0, LT.out, st_laws_toInstructionS_l0, List.length_range]

def f_laws_eqInstructionS_l0 (y1 : List (Int × Int)) (y2 : List (Int × Int)) (b : Nat) : (Unit) → Nat ⊕ (Unit)
  | _ => (bif ((!laws_eqInstruction_0 (Prod.fst ((Option.getD y1[b]? ((0 : Int), (0 : Int))))) (Prod.snd ((Option.getD y1[b]? ((0 : Int), (0 : Int))))) (Prod.fst ((Option.getD y2[b]? ((0 : Int), (0 : Int))))) (Prod.snd ((Option.getD y2[b]? ((0 : Int), (0 : Int))))))) then (.inl 0) else (.inr ()))

def st_laws_eqInstructionS_l0 (y1 : List (Int × Int)) (y2 : List (Int × Int)) (i : Nat) : (Unit) → X_laws_eqInstructionS_l0
  | _ => ((i : Int), y1, y2)

def pr_laws_eqInstructionS_l0 : X_laws_eqInstructionS_l0 → Unit
  | (_, _, _) => ()

theorem w_laws_eqInstructionS_l0 (y1 : List (Int × Int)) (y2 : List (Int × Int))  (hn : y1.length ≤ 9223372036854775807) (he : y2.length = y1.length) :
    lp_laws_eqInstructionS_l0.fin ((0 : Int), y1, y2) = true ∧ lp_laws_eqInstructionS_l0.res ((0 : Int), y1, y2) = ((walkL (f_laws_eqInstructionS_l0 y1 y2) 1 (List.range y1.length) 0 ()).1, (st_laws_eqInstructionS_l0 y1 y2) (walkL (f_laws_eqInstructionS_l0 y1 y2) 1 (List.range y1.length) 0 ()).2.1 (walkL (f_laws_eqInstructionS_l0 y1 y2) 1 (List.range y1.length) 0 ()).2.2) := by
  have key := lp_laws_eqInstructionS_l0.along (st_laws_eqInstructionS_l0 y1 y2) pr_laws_eqInstructionS_l0 (f_laws_eqInstructionS_l0 y1 y2) 1 (fun _ _ => True) (List.range y1.length) () (by trivial) (by simp only [lp_laws_eqInstructionS_l0, st_laws_eqInstructionS_l0, List.length_range]; omega) (fun i b a hb hI => ?_) (fun a hI => ?_)
  · exact key
  · obtain ⟨⟩ := a
    obtain ⟨rfl, hlt⟩ := range_get hb
    have hw : IntKind.i64.wrap ((b : Int) + 1) = ((b + 1 : Nat) : Int) := by rw [wrap_i64 (by omega) (by omega)]; omega
    have hdec : ltI (b : Int) (y1.length : Int) = true := ltI_t (by omega)
    have hnn : leI (0 : Int) (b : Int) = true := leI_t (by omega)
    have hltd : ltN b y1.length = true := ltN_t (by omega)
    refine ⟨?_, ?_, ?_, ?_⟩
    · simp [laws_eqInstructionS_l0_a0, laws_eqInstructionS_l0_a1, laws_eqInstructionS_l0_0, laws_eqInstructionS_l0_1, laws_eqInstructionS_l0_2, laws_eqInstructionS_l0_3, laws_eqInstructionS_l0_4, laws_eqInstructionS_l0_5, laws_eqInstructionS_l0_6, lt_laws_eqInstructionS_l0, lp_laws_eqInstructionS_l0, LT.nds, allT, st_laws_eqInstructionS_l0, hdec, hnn, hltd, he]
    · simp [laws_eqInstructionS_l0_a0, laws_eqInstructionS_l0_a1, laws_eqInstructionS_l0_0, laws_eqInstructionS_l0_1, laws_eqInstructionS_l0_2, laws_eqInstructionS_l0_3, laws_eqInstructionS_l0_4, laws_eqInstructionS_l0_5, laws_eqInstructionS_l0_6, lt_laws_eqInstructionS_l0, lp_laws_eqInstructionS_l0, LT.each, st_laws_eqInstructionS_l0, pr_laws_eqInstructionS_l0, hw, he]
    · simp only [laws_eqInstructionS_l0_a0, laws_eqInstructionS_l0_a1, laws_eqInstructionS_l0_0, laws_eqInstructionS_l0_1, laws_eqInstructionS_l0_2, laws_eqInstructionS_l0_3, laws_eqInstructionS_l0_4, laws_eqInstructionS_l0_5, laws_eqInstructionS_l0_6, lt_laws_eqInstructionS_l0, lp_laws_eqInstructionS_l0, LT.fn, st_laws_eqInstructionS_l0, pr_laws_eqInstructionS_l0, f_laws_eqInstructionS_l0, Int.toNat_natCast, hdec, cond_true]
    · exact fun _ _ => trivial
  · obtain ⟨⟩ := a
    simp [laws_eqInstructionS_l0_a0, laws_eqInstructionS_l0_a1, laws_eqInstructionS_l0_0, laws_eqInstructionS_l0_1, laws_eqInstructionS_l0_2, laws_eqInstructionS_l0_3, laws_eqInstructionS_l0_4, laws_eqInstructionS_l0_5, laws_eqInstructionS_l0_6, lt_laws_eqInstructionS_l0, lp_laws_eqInstructionS_l0, LT.out, st_laws_eqInstructionS_l0, List.length_range]

theorem toInstructionS_ok (xs : List (Int × Int)) (hn : leN xs.length 1048576 = true) : laws_toInstructionS_0 xs = xs ∧ laws_toInstructionS_1 xs = true := by
  have hn := leN_iff.1 hn
  have hr : (List.replicate (Int.toNat (xs.length : Int)) ((0 : Int), (0 : Int))).length = xs.length := by simp
  obtain ⟨w1, w2⟩ := w_laws_toInstructionS_l0 xs (List.replicate (Int.toNat (xs.length : Int)) ((0 : Int), (0 : Int))) (by omega) hr
  have hc := walk_copy (xs := xs) (d := ((0 : Int), (0 : Int))) (g := fun x => x) (f := f_laws_toInstructionS_l0 xs) (e := 0) (fun b a => rfl) hr
  rw [hc] at w2
  refine ⟨?_, ?_⟩
  · simp only [laws_toInstructionS_a0, laws_toInstructionS_0, laws_toInstructionS_1, w2, st_laws_toInstructionS_l0]; simp
  · simp only [laws_toInstructionS_a0, laws_toInstructionS_0, laws_toInstructionS_1, w1, allT]; simp; omega

def N_laws_toInstructionS : List SV → List Entry → Option Out
  | [.one ⟨false, [.ref 0]⟩], [.row false 146 (.pair (.int .i64) (.int .i64)) x0] => some ⟨(.one ⟨false, [(.ref 1)]⟩), [(.row false 146 (CTy.pair (CTy.int IntKind.i64) (CTy.int IntKind.i64)) x0)], [(.row true 144 (CTy.pair (CTy.int IntKind.i64) (CTy.int IntKind.i64)) (x0))], [leN x0.length 1048576]⟩
  | _, _ => none

def n_laws_toInstructionS : PF Tryd.prog := PF.alt p_laws_toInstructionS N_laws_toInstructionS (by
  intro args es o h hnd; unfold N_laws_toInstructionS at h; split at h
  · rename_i x0
    cases h
    have hnd := nd_fst hnd
    have hh := toInstructionS_ok x0 hnd
    obtain ⟨e0, en⟩ := hh
    exact altok rfl (nd_one en) rfl rfl (by simp only [e0] <;> rfl)
  · cases h)

theorem eqInstructionS_ok (xs ys : List (Int × Int)) (hn : leN xs.length 9223372036854775807 = true) : laws_eqInstructionS_0 xs ys = eqIs xs ys ∧ laws_eqInstructionS_1 xs ys = true := by
  have hn := leN_iff.1 hn
  unfold eqIs
  have h3 : ∀ a b : Int × Int, (!laws_eqInstruction_0 a.1 a.2 b.1 b.2) = !decide (a = b) := fun a b => by
    obtain ⟨a1, a2⟩ := a; obtain ⟨b1, b2⟩ := b
    simp only [laws_eqInstruction_0, Prod.mk.injEq]
    by_cases h1 : a1 = b1 <;> by_cases h2 : a2 = b2 <;> simp [h1, h2]
  by_cases hl : ys.length = xs.length
  · obtain ⟨w1, w2⟩ := w_laws_eqInstructionS_l0 xs ys hn hl
    have ha := any_ne (d := ((0 : Int), (0 : Int))) hl (P := fun b => !decide (Option.getD xs[b]? ((0 : Int), (0 : Int)) = Option.getD ys[b]? ((0 : Int), (0 : Int)))) (fun b => rfl)
    rw [walk_stop (P := fun b => !decide (Option.getD xs[b]? ((0 : Int), (0 : Int)) = Option.getD ys[b]? ((0 : Int), (0 : Int)))) (j := 0) (fun b => by simp only [f_laws_eqInstructionS_l0, h3]), ha] at w2
    simp only [laws_eqInstructionS_a0, laws_eqInstructionS_a1, laws_eqInstructionS_0, laws_eqInstructionS_1, w1, w2, allT]
    by_cases he : xs = ys
    · subst he; simp; decide
    · simp [he, hl]
  · have hne : xs ≠ ys := fun h => hl (by rw [h])
    simp [laws_eqInstructionS_a0, laws_eqInstructionS_a1, laws_eqInstructionS_0, laws_eqInstructionS_1, allT, hne]
    omega

def N_laws_eqInstructionS : List SV → List Entry → Option Out
  | [.one ⟨false, [.ref 0]⟩, .one ⟨false, [.ref 1]⟩], [.row false 144 (.pair (.int .i64) (.int .i64)) x0, .row false 144 (.pair (.int .i64) (.int .i64)) x1] => some ⟨(.one ⟨false, [(.val (.bool (eqIs x0 x1)))]⟩), [(.row false 144 (CTy.pair (CTy.int IntKind.i64) (CTy.int IntKind.i64)) x0), (.row false 144 (CTy.pair (CTy.int IntKind.i64) (CTy.int IntKind.i64)) x1)], [], [leN x0.length 9223372036854775807]⟩
  | _, _ => none

def n_laws_eqInstructionS : PF Tryd.prog := PF.alt p_laws_eqInstructionS N_laws_eqInstructionS (by
  intro args es o h hnd; unfold N_laws_eqInstructionS at h; split at h
  · rename_i x0 x1
    cases h
    have hnd := nd_fst hnd
    have hh := eqInstructionS_ok x0 x1 hnd
    obtain ⟨e0, en⟩ := hh
    exact altok rfl (nd_one en) (by simp only [e0] <;> rfl) rfl rfl
  · cases h)

def eqBs (xs ys : List (Int × Int × Int)) : Bool := decide (xs = ys)
theorem eqBs_refl (xs : List (Int × Int × Int)) : eqBs xs xs = true := by simp [eqBs]

def f_laws_toBlockStateS_l0 (y1 : List (Int × (Int × Int))) (b : Nat) : (List (Int × (Int × Int))) → Nat ⊕ (List (Int × (Int × Int)))
  | y2 => (.inr ((List.set y2 (b) (Prod.fst ((Option.getD y1[b]? ((0 : Int), (0 : Int), (0 : Int)))), Prod.fst (Prod.snd ((Option.getD y1[b]? ((0 : Int), (0 : Int), (0 : Int))))), Prod.snd (Prod.snd ((Option.getD y1[b]? ((0 : Int), (0 : Int), (0 : Int)))))))))

def st_laws_toBlockStateS_l0 (y1 : List (Int × (Int × Int))) (i : Nat) : (List (Int × (Int × Int))) → X_laws_toBlockStateS_l0
  | y2 => ((i : Int), y1, y2)

def pr_laws_toBlockStateS_l0 : X_laws_toBlockStateS_l0 → List (Int × (Int × Int))
  | (_, _, y2) => y2

theorem w_laws_toBlockStateS_l0 (y1 : List (Int × (Int × Int))) (y2 : List (Int × (Int × Int))) (hn : y1.length ≤ 9223372036854775807) (hl : y2.length = y1.length) :
    lp_laws_toBlockStateS_l0.fin ((0 : Int), y1, y2) = true ∧ lp_laws_toBlockStateS_l0.res ((0 : Int), y1, y2) = ((walkL (f_laws_toBlockStateS_l0 y1) 0 (List.range y1.length) 0 y2).1, (st_laws_toBlockStateS_l0 y1) (walkL (f_laws_toBlockStateS_l0 y1) 0 (List.range y1.length) 0 y2).2.1 (walkL (f_laws_toBlockStateS_l0 y1) 0 (List.range y1.length) 0 y2).2.2) := by
  have key := lp_laws_toBlockStateS_l0.along (st_laws_toBlockStateS_l0 y1) pr_laws_toBlockStateS_l0 (f_laws_toBlockStateS_l0 y1) 0 (fun _ a => a.length = y1.length) (List.range y1.length) y2 hl (by simp only [lp_laws_toBlockStateS_l0, st_laws_toBlockStateS_l0, List.length_range]; omega) (fun i b a hb hI => ?_) (fun a hI => ?_)
  · exact key
  · obtain y2 := a
    obtain ⟨rfl, hlt⟩ := range_get hb
    have hw : IntKind.i64.wrap ((b : Int) + 1) = ((b + 1 : Nat) : Int) := by rw [wrap_i64 (by omega) (by omega)]; omega
    have hdec : ltI (b : Int) (y1.length : Int) = true := ltI_t (by omega)
    have hnn : leI (0 : Int) (b : Int) = true := leI_t (by omega)
    have hltd : ltN b y1.length = true := ltN_t (by omega)
    refine ⟨?_, ?_, ?_, ?_⟩
    · simp [laws_toBlockStateS_l0_a0, laws_toBlockStateS_l0_0, laws_toBlockStateS_l0_1, laws_toBlockStateS_l0_2, laws_toBlockStateS_l0_3, laws_toBlockStateS_l0_4, laws_toBlockStateS_l0_5, laws_toBlockStateS_l0_6, lt_laws_toBlockStateS_l0, lp_laws_toBlockStateS_l0, LT.nds, allT, st_laws_toBlockStateS_l0, hdec, hnn, hltd, hI]
    · simp [laws_toBlockStateS_l0_a0, laws_toBlockStateS_l0_0, laws_toBlockStateS_l0_1, laws_toBlockStateS_l0_2, laws_toBlockStateS_l0_3, laws_toBlockStateS_l0_4, laws_toBlockStateS_l0_5, laws_toBlockStateS_l0_6, lt_laws_toBlockStateS_l0, lp_laws_toBlockStateS_l0, LT.each, st_laws_toBlockStateS_l0, pr_laws_toBlockStateS_l0, hw, hI]
    · simp only [laws_toBlockStateS_l0_a0, laws_toBlockStateS_l0_0, laws_toBlockStateS_l0_1, laws_toBlockStateS_l0_2, laws_toBlockStateS_l0_3, laws_toBlockStateS_l0_4, laws_toBlockStateS_l0_5, laws_toBlockStateS_l0_6, lt_laws_toBlockStateS_l0, lp_laws_toBlockStateS_l0, LT.fn, st_laws_toBlockStateS_l0, pr_laws_toBlockStateS_l0, f_laws_toBlockStateS_l0, Int.toNat_natCast, hdec, cond_true]
    · intro a' hf; simp only [f_laws_toBlockStateS_l0, Sum.inr.injEq] at hf; subst hf; simpa using hI
  · obtain y2 := a
    simp [laws_toBlockStateS_l0_a0, laws_toBlockStateS_l0_0, laws_toBlockStateS_l0_1, laws_toBlockStateS_l0_2, laws_toBlockStateS_l0_3, laws_toBlockStateS_l0_4, laws_toBlockStateS_l0_5, laws_toBlockStateS_l0_6, lt_laws_toBlockStateS_l0, lp_laws_toBlockStateS_l0, LT.out, st_laws_toBlockStateS_l0, List.length_range]

def f_laws_eqBlockStateS_l0 (y1 : List (Int × (Int × Int))) (y2 : List (Int × (Int × Int))) (b : Nat) : (Unit) → Nat ⊕ (Unit)
  | _ => (bif ((!laws_eqBlockState_0 (Prod.fst ((Option.getD y1[b]? ((0 : Int), (0 : Int), (0 : Int))))) (Prod.fst (Prod.snd ((Option.getD y1[b]? ((0 : Int), (0 : Int), (0 : Int)))))) (Prod.snd (Prod.snd ((Option.getD y1[b]? ((0 : Int), (0 : Int), (0 : Int)))))) (Prod.fst ((Option.getD y2[b]? ((0 : Int), (0 : Int), (0 : Int))))) (Prod.fst (Prod.snd ((Option.getD y2[b]? ((0 : Int), (0 : Int), (0 : Int)))))) (Prod.snd (Prod.snd ((Option.getD y2[b]? ((0 : Int), (0 : Int), (0 : Int)))))))) then (.inl 0) else (.inr ()))

def st_laws_eqBlockStateS_l0 (y1 : List (Int × (Int × Int))) (y2 : List (Int × (Int × Int))) (i : Nat) : (Unit) → X_laws_eqBlockStateS_l0
  | _ => ((i : Int), y1, y2)

def pr_laws_eqBlockStateS_l0 : X_laws_eqBlockStateS_l0 → Unit
  | (_, _, _) => ()

theorem w_laws_eqBlockStateS_l0 (y1 : List (Int × (Int × Int))) (y2 : List (Int × (Int × Int)))  (hn : y1.length ≤ 9223372036854775807) (he : y2.length = y1.length) :
    lp_laws_eqBlockStateS_l0.fin ((0 : Int), y1, y2) = true ∧ lp_laws_eqBlockStateS_l0.res ((0 : Int), y1, y2) = ((walkL (f_laws_eqBlockStateS_l0 y1 y2) 1 (List.range y1.length) 0 ()).1, (st_laws_eqBlockStateS_l0 y1 y2) (walkL (f_laws_eqBlockStateS_l0 y1 y2) 1 (List.range y1.length) 0 ()).2.1 (walkL (f_laws_eqBlockStateS_l0 y1 y2) 1 (List.range y1.length) 0 ()).2.2) := by
  have key := lp_laws_eqBlockStateS_l0.along (st_laws_eqBlockStateS_l0 y1 y2) pr_laws_eqBlockStateS_l0 (f_laws_eqBlockStateS_l0 y1 y2) 1 (fun _ _ => True) (List.range y1.length) () (by trivial) (by simp only [lp_laws_eqBlockStateS_l0, st_laws_eqBlockStateS_l0, List.length_range]; omega) (fun i b a hb hI => ?_) (fun a hI => ?_)
  · exact key
  · obtain ⟨⟩ := a
    obtain ⟨rfl, hlt⟩ := range_get hb
    have hw : IntKind.i64.wrap ((b : Int) + 1) = ((b + 1 : Nat) : Int) := by rw [wrap_i64 (by omega) (by omega)]; omega
    have hdec : ltI (b : Int) (y1.length : Int) = true := ltI_t (by omega)
    have hnn : leI (0 : Int) (b : Int) = true := leI_t (by omega)
    have hltd : ltN b y1.length = true := ltN_t (by omega)
    refine ⟨?_, ?_, ?_, ?_⟩
    · simp [laws_eqBlockStateS_l0_a0, laws_eqBlockStateS_l0_a1, laws_eqBlockStateS_l0_0, laws_eqBlockStateS_l0_1, laws_eqBlockStateS_l0_2, laws_eqBlockStateS_l0_3, laws_eqBlockStateS_l0_4, laws_eqBlockStateS_l0_5, laws_eqBlockStateS_l0_6, lt_laws_eqBlockStateS_l0, lp_laws_eqBlockStateS_l0, LT.nds, allT, st_laws_eqBlockStateS_l0, hdec, hnn, hltd, he]
    · simp [laws_eqBlockStateS_l0_a0, laws_eqBlockStateS_l0_a1, laws_eqBlockStateS_l0_0, laws_eqBlockStateS_l0_1, laws_eqBlockStateS_l0_2, laws_eqBlockStateS_l0_3, laws_eqBlockStateS_l0_4, laws_eqBlockStateS_l0_5, laws_eqBlockStateS_l0_6, lt_laws_eqBlockStateS_l0, lp_laws_eqBlockStateS_l0, LT.each, st_laws_eqBlockStateS_l0, pr_laws_eqBlockStateS_l0, hw, he]
    · simp only [laws_eqBlockStateS_l0_a0, laws_eqBlockStateS_l0_a1, laws_eqBlockStateS_l0_0, laws_eqBlockStateS_l0_1, laws_eqBlockStateS_l0_2, laws_eqBlockStateS_l0_3, laws_eqBlockStateS_l0_4, laws_eqBlockStateS_l0_5, laws_eqBlockStateS_l0_6, lt_laws_eqBlockStateS_l0, lp_laws_eqBlockStateS_l0, LT.fn, st_laws_eqBlockStateS_l0, pr_laws_eqBlockStateS_l0, f_laws_eqBlockStateS_l0, Int.toNat_natCast, hdec, cond_true]
    · exact fun _ _ => trivial
  · obtain ⟨⟩ := a
    simp [laws_eqBlockStateS_l0_a0, laws_eqBlockStateS_l0_a1, laws_eqBlockStateS_l0_0, laws_eqBlockStateS_l0_1, laws_eqBlockStateS_l0_2, laws_eqBlockStateS_l0_3, laws_eqBlockStateS_l0_4, laws_eqBlockStateS_l0_5, laws_eqBlockStateS_l0_6, lt_laws_eqBlockStateS_l0, lp_laws_eqBlockStateS_l0, LT.out, st_laws_eqBlockStateS_l0, List.length_range]

theorem toBlockStateS_ok (xs : List (Int × Int × Int)) (hn : leN xs.length 1048576 = true) : laws_toBlockStateS_0 xs = xs ∧ laws_toBlockStateS_1 xs = true := by
  have hn := leN_iff.1 hn
  have hr : (List.replicate (Int.toNat (xs.length : Int)) ((0 : Int), (0 : Int), (0 : Int))).length = xs.length := by simp
  obtain ⟨w1, w2⟩ := w_laws_toBlockStateS_l0 xs (List.replicate (Int.toNat (xs.length : Int)) ((0 : Int), (0 : Int), (0 : Int))) (by omega) hr
  have hc := walk_copy (xs := xs) (d := ((0 : Int), (0 : Int), (0 : Int))) (g := fun x => x) (f := f_laws_toBlockStateS_l0 xs) (e := 0) (fun b a => rfl) hr
  rw [hc] at w2
  refine ⟨?_, ?_⟩
  · simp only [laws_toBlockStateS_a0, laws_toBlockStateS_0, laws_toBlockStateS_1, w2, st_laws_toBlockStateS_l0]; simp
  · simp only [laws_toBlockStateS_a0, laws_toBlockStateS_0, laws_toBlockStateS_1, w1, allT]; simp; omega

def N_laws_toBlockStateS : List SV → List Entry → Option Out
  | [.one ⟨false, [.ref 0]⟩], [.row false 25 (.pair (.int .i64) (.pair (.int .i64) (.int .i64))) x0] => some ⟨(.one ⟨false, [(.ref 1)]⟩), [(.row false 25 (CTy.pair (CTy.int IntKind.i64) (CTy.pair (CTy.int IntKind.i64) (CTy.int IntKind.i64))) x0)], [(.row true 28 (CTy.pair (CTy.int IntKind.i64) (CTy.pair (CTy.int IntKind.i64) (CTy.int IntKind.i64))) (x0))], [leN x0.length 1048576]⟩
  | _, _ => none

def n_laws_toBlockStateS : PF Tryd.prog := PF.alt p_laws_toBlockStateS N_laws_toBlockStateS (by
  intro args es o h hnd; unfold N_laws_toBlockStateS at h; split at h
  · rename_i x0
    cases h
    have hnd := nd_fst hnd
    have hh := toBlockStateS_ok x0 hnd
    obtain ⟨e0, en⟩ := hh
    exact altok rfl (nd_one en) rfl rfl (by simp only [e0] <;> rfl)
  · cases h)

theorem eqBlockStateS_ok (xs ys : List (Int × Int × Int)) (hn : leN xs.length 9223372036854775807 = true) : laws_eqBlockStateS_0 xs ys = eqBs xs ys ∧ laws_eqBlockStateS_1 xs ys = true := by
  have hn := leN_iff.1 hn
  unfold eqBs
  have h3 : ∀ a b : Int × Int × Int, (!laws_eqBlockState_0 a.1 a.2.1 a.2.2 b.1 b.2.1 b.2.2) = !decide (a = b) := fun a b => by
    obtain ⟨a1, a2, a3⟩ := a; obtain ⟨b1, b2, b3⟩ := b
    simp only [laws_eqBlockState_0, Prod.mk.injEq]
    by_cases h1 : a1 = b1 <;> by_cases h2 : a2 = b2 <;> by_cases h3 : a3 = b3 <;> simp [h1, h2, h3]
  by_cases hl : ys.length = xs.length
  · obtain ⟨w1, w2⟩ := w_laws_eqBlockStateS_l0 xs ys hn hl
    have ha := any_ne (d := ((0 : Int), (0 : Int), (0 : Int))) hl (P := fun b => !decide (Option.getD xs[b]? ((0 : Int), (0 : Int), (0 : Int)) = Option.getD ys[b]? ((0 : Int), (0 : Int), (0 : Int)))) (fun b => rfl)
    rw [walk_stop (P := fun b => !decide (Option.getD xs[b]? ((0 : Int), (0 : Int), (0 : Int)) = Option.getD ys[b]? ((0 : Int), (0 : Int), (0 : Int)))) (j := 0) (fun b => by simp only [f_laws_eqBlockStateS_l0, h3]), ha] at w2
    simp only [laws_eqBlockStateS_a0, laws_eqBlockStateS_a1, laws_eqBlockStateS_0, laws_eqBlockStateS_1, w1, w2, allT]
    by_cases he : xs = ys
    · subst he; simp; decide
    · simp [he, hl]
  · have hne : xs ≠ ys := fun h => hl (by rw [h])
    simp [laws_eqBlockStateS_a0, laws_eqBlockStateS_a1, laws_eqBlockStateS_0, laws_eqBlockStateS_1, allT, hne]
    omega

def N_laws_eqBlockStateS : List SV → List Entry → Option Out
  | [.one ⟨false, [.ref 0]⟩, .one ⟨false, [.ref 1]⟩], [.row false 28 (.pair (.int .i64) (.pair (.int .i64) (.int .i64))) x0, .row false 28 (.pair (.int .i64) (.pair (.int .i64) (.int .i64))) x1] => some ⟨(.one ⟨false, [(.val (.bool (eqBs x0 x1)))]⟩), [(.row false 28 (CTy.pair (CTy.int IntKind.i64) (CTy.pair (CTy.int IntKind.i64) (CTy.int IntKind.i64))) x0), (.row false 28 (CTy.pair (CTy.int IntKind.i64) (CTy.pair (CTy.int IntKind.i64) (CTy.int IntKind.i64))) x1)], [], [leN x0.length 9223372036854775807]⟩
  | _, _ => none

def n_laws_eqBlockStateS : PF Tryd.prog := PF.alt p_laws_eqBlockStateS N_laws_eqBlockStateS (by
  intro args es o h hnd; unfold N_laws_eqBlockStateS at h; split at h
  · rename_i x0 x1
    cases h
    have hnd := nd_fst hnd
    have hh := eqBlockStateS_ok x0 x1 hnd
    obtain ⟨e0, en⟩ := hh
    exact altok rfl (nd_one en) (by simp only [e0] <;> rfl) rfl rfl
  · cases h)

/-! ### Marks -/

def upG {α : Type} (d : Nat) (mk : Int → α) (k : Int) (n : Nat) : List α := (List.range n).map fun (i : Nat) => mk (k + d * (i : Int))

theorem upG_length {α : Type} (d : Nat) (mk : Int → α) (k : Int) (n : Nat) : (upG d mk k n).length = n := by simp [upG]

theorem upG_succ {α : Type} (d : Nat) (mk : Int → α) (k : Int) (n : Nat) : upG d mk k (n + 1) = mk k :: upG d mk (k + d) n := by
  unfold upG
  rw [List.range_succ_eq_map, List.map_cons, List.map_map]
  congr 1
  · simp
  · refine List.map_congr_left fun i _ => ?_
    simp only [Function.comp]
    congr 1
    simp [Int.mul_add]; omega

theorem walk_markG {α : Type} {d : Nat} {mk : Int → α} {f : Nat → Int × List α → Nat ⊕ (Int × List α)} {e : Nat}
    (hf : ∀ (b : Nat) (k : Int) (xs : List α), b < xs.length → 0 ≤ k → k + d ≤ 9223372036854775807 → f b (k, xs) = .inr (k + d, xs.set b (mk k))) :
    ∀ (ys pre : List α) (k : Int), 0 ≤ k → k + d * (ys.length : Int) ≤ 9223372036854775807 →
      walkL f e (List.range' pre.length ys.length) pre.length (k, pre ++ ys) = (e, pre.length + ys.length, (k + d * (ys.length : Int), pre ++ upG d mk k ys.length))
  | [], pre, k, _, _ => by simp [walkL, upG]
  | y :: ys, pre, k, h0, h1 => by
    have hd : (d : Int) * (((y :: ys).length : Nat) : Int) = d + d * (ys.length : Int) := by simp [Int.mul_add]; omega
    rw [hd] at h1
    have hp : 0 ≤ (d : Int) * (ys.length : Int) := Int.mul_nonneg (by omega) (by omega)
    have hs : (pre ++ y :: ys).set pre.length (mk k) = (pre ++ [mk k]) ++ ys := by rw [List.set_append_right _ _ (Nat.le_refl _)]; simp
    have ih := walk_markG (e := e) hf ys (pre ++ [mk k]) (k + d) (by omega) (by omega)
    rw [List.length_cons, List.range'_succ]
    simp only [walkL, hf pre.length k (pre ++ y :: ys) (by simp) h0 (by omega), hs]
    rw [List.length_append, List.length_singleton] at ih
    rw [ih, upG_succ]
    simp [Int.mul_add]
    omega

theorem walk_heldG {α : Type} {d : Nat} {mk : Int → α} {f : α → Int → Nat ⊕ Int} {e : Nat} (hf : ∀ (k : Int), 0 ≤ k → k + d ≤ 9223372036854775807 → f (mk k) k = .inr (k + d)) :
    ∀ (n : Nat) (k : Int) (i : Nat), 0 ≤ k → k + d * (n : Int) ≤ 9223372036854775807 → walkL f e (upG d mk k n) i k = (e, i + n, k + d * (n : Int))
  | 0, k, i, _, _ => by simp [walkL, upG]
  | n + 1, k, i, h0, h1 => by
    have hd : (d : Int) * ((n + 1 : Nat) : Int) = d + d * (n : Int) := by simp [Int.mul_add]; omega
    rw [hd] at h1
    have hp : 0 ≤ (d : Int) * (n : Int) := Int.mul_nonneg (by omega) (by omega)
    rw [upG_succ]
    simp only [walkL, hf k h0 (by omega)]
    rw [walk_heldG hf n (k + d) (i + 1) (by omega) (by omega), hd]
    simp only [Prod.mk.injEq, true_and]
    omega

def mkOk3 (d : Nat) (k : Int) (n : Nat) : Bool := leI 0 k && leI (k + d * (n : Int)) 9223372036854775807
theorem mkOk3_iff {d : Nat} {k : Int} {n : Nat} : mkOk3 d k n = true ↔ 0 ≤ k ∧ k + d * (n : Int) ≤ 9223372036854775807 := by simp [mkOk3]

def f_laws_markBlockStateS_l0  (b : Nat) : (Int × List (Int × (Int × Int))) → Nat ⊕ (Int × List (Int × (Int × Int)))
  | (y1, y2) => (.inr (((IntKind.wrap IntKind.i64 ((IntKind.wrap IntKind.i64 ((IntKind.wrap IntKind.i64 (y1 + (1 : Int))) + (1 : Int))) + (1 : Int)))), ((List.set ((List.set ((List.set y2 (b) (y1, Prod.fst ((Prod.snd (Option.getD y2[b]? ((0 : Int), (0 : Int), (0 : Int))))), Prod.snd ((Prod.snd (Option.getD y2[b]? ((0 : Int), (0 : Int), (0 : Int)))))))) (b) (Prod.fst ((Option.getD ((List.set y2 (b) (y1, Prod.fst ((Prod.snd (Option.getD y2[b]? ((0 : Int), (0 : Int), (0 : Int))))), Prod.snd ((Prod.snd (Option.getD y2[b]? ((0 : Int), (0 : Int), (0 : Int))))))))[b]? ((0 : Int), (0 : Int), (0 : Int)))), (IntKind.wrap IntKind.i64 (y1 + (1 : Int))), Prod.snd (Prod.snd ((Option.getD ((List.set y2 (b) (y1, Prod.fst ((Prod.snd (Option.getD y2[b]? ((0 : Int), (0 : Int), (0 : Int))))), Prod.snd ((Prod.snd (Option.getD y2[b]? ((0 : Int), (0 : Int), (0 : Int))))))))[b]? ((0 : Int), (0 : Int), (0 : Int)))))))) (b) (Prod.fst ((Option.getD ((List.set ((List.set y2 (b) (y1, Prod.fst ((Prod.snd (Option.getD y2[b]? ((0 : Int), (0 : Int), (0 : Int))))), Prod.snd ((Prod.snd (Option.getD y2[b]? ((0 : Int), (0 : Int), (0 : Int)))))))) (b) (Prod.fst ((Option.getD ((List.set y2 (b) (y1, Prod.fst ((Prod.snd (Option.getD y2[b]? ((0 : Int), (0 : Int), (0 : Int))))), Prod.snd ((Prod.snd (Option.getD y2[b]? ((0 : Int), (0 : Int), (0 : Int))))))))[b]? ((0 : Int), (0 : Int), (0 : Int)))), (IntKind.wrap IntKind.i64 (y1 + (1 : Int))), Prod.snd (Prod.snd ((Option.getD ((List.set y2 (b) (y1, Prod.fst ((Prod.snd (Option.getD y2[b]? ((0 : Int), (0 : Int), (0 : Int))))), Prod.snd ((Prod.snd (Option.getD y2[b]? ((0 : Int), (0 : Int), (0 : Int))))))))[b]? ((0 : Int), (0 : Int), (0 : Int))))))))[b]? ((0 : Int), (0 : Int), (0 : Int)))), Prod.fst (Prod.snd ((Option.getD ((List.set ((List.set y2 (b) (y1, Prod.fst ((Prod.snd (Option.getD y2[b]? ((0 : Int), (0 : Int), (0 : Int))))), Prod.snd ((Prod.snd (Option.getD y2[b]? ((0 : Int), (0 : Int), (0 : Int)))))))) (b) (Prod.fst ((Option.getD ((List.set y2 (b) (y1, Prod.fst ((Prod.snd (Option.getD y2[b]? ((0 : Int), (0 : Int), (0 : Int))))), Prod.snd ((Prod.snd (Option.getD y2[b]? ((0 : Int), (0 : Int), (0 : Int))))))))[b]? ((0 : Int), (0 : Int), (0 : Int)))), (IntKind.wrap IntKind.i64 (y1 + (1 : Int))), Prod.snd (Prod.snd ((Option.getD ((List.set y2 (b) (y1, Prod.fst ((Prod.snd (Option.getD y2[b]? ((0 : Int), (0 : Int), (0 : Int))))), Prod.snd ((Prod.snd (Option.getD y2[b]? ((0 : Int), (0 : Int), (0 : Int))))))))[b]? ((0 : Int), (0 : Int), (0 : Int))))))))[b]? ((0 : Int), (0 : Int), (0 : Int))))), (IntKind.wrap IntKind.i64 ((IntKind.wrap IntKind.i64 (y1 + (1 : Int))) + (1 : Int))))))))

def st_laws_markBlockStateS_l0  (i : Nat) : (Int × List (Int × (Int × Int))) → X_laws_markBlockStateS_l0
  | (y1, y2) => ((i : Int), y1, y2)

def pr_laws_markBlockStateS_l0 : X_laws_markBlockStateS_l0 → Int × List (Int × (Int × Int))
  | (_, y1, y2) => (y1, y2)

theorem w_laws_markBlockStateS_l0  (y1 : Int) (y2 : List (Int × (Int × Int))) (n : Nat) (hl : y2.length = n) (hn : n ≤ 9223372036854775807)  :
    lp_laws_markBlockStateS_l0.fin ((0 : Int), y1, y2) = true ∧ lp_laws_markBlockStateS_l0.res ((0 : Int), y1, y2) = ((walkL (f_laws_markBlockStateS_l0) 0 (List.range n) 0 (y1, y2)).1, (st_laws_markBlockStateS_l0) (walkL (f_laws_markBlockStateS_l0) 0 (List.range n) 0 (y1, y2)).2.1 (walkL (f_laws_markBlockStateS_l0) 0 (List.range n) 0 (y1, y2)).2.2) := by
  have key := lp_laws_markBlockStateS_l0.along (st_laws_markBlockStateS_l0) pr_laws_markBlockStateS_l0 (f_laws_markBlockStateS_l0) 0 (fun _ a => a.2.length = n) (List.range n) (y1, y2) hl (by simp only [lp_laws_markBlockStateS_l0, st_laws_markBlockStateS_l0, List.length_range]; omega) (fun i b a hb hI => ?_) (fun a hI => ?_)
  · exact key
  · obtain ⟨y1, y2⟩ := a
    obtain ⟨rfl, hlt⟩ := range_get hb
    have hI0 : y2.length = n := hI
    have hw : IntKind.i64.wrap ((b : Int) + 1) = ((b + 1 : Nat) : Int) := by rw [wrap_i64 (by omega) (by omega)]; omega
    have hdec : ltI (b : Int) (y2.length : Int) = true := ltI_t (by omega)
    have hnn : leI (0 : Int) (b : Int) = true := leI_t (by omega)
    have hltd : ltN b y2.length = true := ltN_t (by omega)
    refine ⟨?_, ?_, ?_, ?_⟩
    · simp [laws_markBlockStateS_l0_a0, laws_markBlockStateS_l0_a1, laws_markBlockStateS_l0_a2, laws_markBlockStateS_l0_a3, laws_markBlockStateS_l0_a4, laws_markBlockStateS_l0_a5, laws_markBlockStateS_l0_a6, laws_markBlockStateS_l0_0, laws_markBlockStateS_l0_1, laws_markBlockStateS_l0_2, laws_markBlockStateS_l0_3, laws_markBlockStateS_l0_4, laws_markBlockStateS_l0_5, laws_markBlockStateS_l0_6, laws_markBlockStateS_l0_7, laws_markBlockStateS_l0_8, laws_markBlockStateS_l0_9, lt_laws_markBlockStateS_l0, lp_laws_markBlockStateS_l0, LT.nds, allT, st_laws_markBlockStateS_l0, hdec, hnn, hltd]
    · simp [laws_markBlockStateS_l0_a0, laws_markBlockStateS_l0_a1, laws_markBlockStateS_l0_a2, laws_markBlockStateS_l0_a3, laws_markBlockStateS_l0_a4, laws_markBlockStateS_l0_a5, laws_markBlockStateS_l0_a6, laws_markBlockStateS_l0_0, laws_markBlockStateS_l0_1, laws_markBlockStateS_l0_2, laws_markBlockStateS_l0_3, laws_markBlockStateS_l0_4, laws_markBlockStateS_l0_5, laws_markBlockStateS_l0_6, laws_markBlockStateS_l0_7, laws_markBlockStateS_l0_8, laws_markBlockStateS_l0_9, lt_laws_markBlockStateS_l0, lp_laws_markBlockStateS_l0, LT.each, st_laws_markBlockStateS_l0, pr_laws_markBlockStateS_l0, hw]
    · simp only [laws_markBlockStateS_l0_a0, laws_markBlockStateS_l0_a1, laws_markBlockStateS_l0_a2, laws_markBlockStateS_l0_a3, laws_markBlockStateS_l0_a4, laws_markBlockStateS_l0_a5, laws_markBlockStateS_l0_a6, laws_markBlockStateS_l0_0, laws_markBlockStateS_l0_1, laws_markBlockStateS_l0_2, laws_markBlockStateS_l0_3, laws_markBlockStateS_l0_4, laws_markBlockStateS_l0_5, laws_markBlockStateS_l0_6, laws_markBlockStateS_l0_7, laws_markBlockStateS_l0_8, laws_markBlockStateS_l0_9, lt_laws_markBlockStateS_l0, lp_laws_markBlockStateS_l0, LT.fn, st_laws_markBlockStateS_l0, pr_laws_markBlockStateS_l0, f_laws_markBlockStateS_l0, Int.toNat_natCast, hdec, hnn, hltd, cond_true, Bool.cond_self]
    · intro a' hf; simp only [f_laws_markBlockStateS_l0, Sum.inr.injEq] at hf; subst hf; simp [hI0]
  · obtain ⟨y1, y2⟩ := a
    have hI0 : y2.length = n := hI
    simp [laws_markBlockStateS_l0_a0, laws_markBlockStateS_l0_a1, laws_markBlockStateS_l0_a2, laws_markBlockStateS_l0_a3, laws_markBlockStateS_l0_a4, laws_markBlockStateS_l0_a5, laws_markBlockStateS_l0_a6, laws_markBlockStateS_l0_0, laws_markBlockStateS_l0_1, laws_markBlockStateS_l0_2, laws_markBlockStateS_l0_3, laws_markBlockStateS_l0_4, laws_markBlockStateS_l0_5, laws_markBlockStateS_l0_6, laws_markBlockStateS_l0_7, laws_markBlockStateS_l0_8, laws_markBlockStateS_l0_9, lt_laws_markBlockStateS_l0, lp_laws_markBlockStateS_l0, LT.out, st_laws_markBlockStateS_l0, hI0, List.length_range]

def f_laws_heldBlockStateS_l0  (b : Int × (Int × Int)) : (Int) → Nat ⊕ (Int)
  | y1 => (bif ((Prod.fst ((b)) != y1)) then (.inl 0) else (bif ((Prod.fst (Prod.snd ((b))) != (IntKind.wrap IntKind.i64 (y1 + (1 : Int))))) then (.inl 1) else (bif ((Prod.snd (Prod.snd ((b))) != (IntKind.wrap IntKind.i64 ((IntKind.wrap IntKind.i64 (y1 + (1 : Int))) + (1 : Int))))) then (.inl 2) else (.inr ((IntKind.wrap IntKind.i64 ((IntKind.wrap IntKind.i64 ((IntKind.wrap IntKind.i64 (y1 + (1 : Int))) + (1 : Int))) + (1 : Int))))))))

def st_laws_heldBlockStateS_l0 (y2 : List (Int × (Int × Int))) (i : Nat) : (Int) → X_laws_heldBlockStateS_l0
  | y1 => ((i : Int), y1, y2)

def pr_laws_heldBlockStateS_l0 : X_laws_heldBlockStateS_l0 → Int
  | (_, y1, _) => y1

theorem w_laws_heldBlockStateS_l0 (y2 : List (Int × (Int × Int))) (y1 : Int) (hn : y2.length ≤ 9223372036854775807)  :
    lp_laws_heldBlockStateS_l0.fin ((0 : Int), y1, y2) = true ∧ lp_laws_heldBlockStateS_l0.res ((0 : Int), y1, y2) = ((walkL (f_laws_heldBlockStateS_l0) 3 y2 0 y1).1, (st_laws_heldBlockStateS_l0 y2) (walkL (f_laws_heldBlockStateS_l0) 3 y2 0 y1).2.1 (walkL (f_laws_heldBlockStateS_l0) 3 y2 0 y1).2.2) := by
  have key := lp_laws_heldBlockStateS_l0.along (st_laws_heldBlockStateS_l0 y2) pr_laws_heldBlockStateS_l0 (f_laws_heldBlockStateS_l0) 3 (fun _ _ => True) y2 y1 (by trivial) (by simp only [lp_laws_heldBlockStateS_l0, st_laws_heldBlockStateS_l0]; omega) (fun i b a hb hI => ?_) (fun a hI => ?_)
  · exact key
  · obtain y1 := a
    have hlt := (List.getElem?_eq_some_iff.1 hb).1
    have hget : ∀ d, Option.getD y2[i]? d = b := fun d => by rw [hb]; rfl
    have hw := wrap64 hlt hn
    have hdec : ltI (i : Int) (y2.length : Int) = true := ltI_t (by omega)
    have hnn : leI (0 : Int) (i : Int) = true := leI_t (by omega)
    have hltd : ltN i y2.length = true := ltN_t hlt
    refine ⟨?_, ?_, ?_, ?_⟩
    · simp [laws_heldBlockStateS_l0_a0, laws_heldBlockStateS_l0_a1, laws_heldBlockStateS_l0_a2, laws_heldBlockStateS_l0_0, laws_heldBlockStateS_l0_1, laws_heldBlockStateS_l0_2, laws_heldBlockStateS_l0_3, laws_heldBlockStateS_l0_4, laws_heldBlockStateS_l0_5, laws_heldBlockStateS_l0_6, laws_heldBlockStateS_l0_7, laws_heldBlockStateS_l0_8, lt_laws_heldBlockStateS_l0, lp_laws_heldBlockStateS_l0, LT.nds, allT, st_laws_heldBlockStateS_l0, hdec, hnn, hltd, hget]
    · simp [laws_heldBlockStateS_l0_a0, laws_heldBlockStateS_l0_a1, laws_heldBlockStateS_l0_a2, laws_heldBlockStateS_l0_0, laws_heldBlockStateS_l0_1, laws_heldBlockStateS_l0_2, laws_heldBlockStateS_l0_3, laws_heldBlockStateS_l0_4, laws_heldBlockStateS_l0_5, laws_heldBlockStateS_l0_6, laws_heldBlockStateS_l0_7, laws_heldBlockStateS_l0_8, lt_laws_heldBlockStateS_l0, lp_laws_heldBlockStateS_l0, LT.each, st_laws_heldBlockStateS_l0, pr_laws_heldBlockStateS_l0, hw]
    · simp only [laws_heldBlockStateS_l0_a0, laws_heldBlockStateS_l0_a1, laws_heldBlockStateS_l0_a2, laws_heldBlockStateS_l0_0, laws_heldBlockStateS_l0_1, laws_heldBlockStateS_l0_2, laws_heldBlockStateS_l0_3, laws_heldBlockStateS_l0_4, laws_heldBlockStateS_l0_5, laws_heldBlockStateS_l0_6, laws_heldBlockStateS_l0_7, laws_heldBlockStateS_l0_8, lt_laws_heldBlockStateS_l0, lp_laws_heldBlockStateS_l0, LT.fn, st_laws_heldBlockStateS_l0, pr_laws_heldBlockStateS_l0, f_laws_heldBlockStateS_l0, Int.toNat_natCast, hdec, hnn, hltd, hget, cond_true, Bool.cond_self]
    · exact fun _ _ => trivial
  · obtain y1 := a
    simp [laws_heldBlockStateS_l0_a0, laws_heldBlockStateS_l0_a1, laws_heldBlockStateS_l0_a2, laws_heldBlockStateS_l0_0, laws_heldBlockStateS_l0_1, laws_heldBlockStateS_l0_2, laws_heldBlockStateS_l0_3, laws_heldBlockStateS_l0_4, laws_heldBlockStateS_l0_5, laws_heldBlockStateS_l0_6, laws_heldBlockStateS_l0_7, laws_heldBlockStateS_l0_8, lt_laws_heldBlockStateS_l0, lp_laws_heldBlockStateS_l0, LT.out, st_laws_heldBlockStateS_l0]

def f_laws_markInstructionS_l0  (b : Nat) : (Int × List (Int × Int)) → Nat ⊕ (Int × List (Int × Int))
  | (y1, y2) => (.inr (((IntKind.wrap IntKind.i64 ((IntKind.wrap IntKind.i64 (y1 + (1 : Int))) + (1 : Int)))), ((List.set ((List.set y2 (b) (y1, Prod.snd (Option.getD y2[b]? ((0 : Int), (0 : Int)))))) (b) (Prod.fst (Option.getD ((List.set y2 (b) (y1, Prod.snd (Option.getD y2[b]? ((0 : Int), (0 : Int))))))[b]? ((0 : Int), (0 : Int))), (IntKind.wrap IntKind.i64 (y1 + (1 : Int))))))))

def st_laws_markInstructionS_l0  (i : Nat) : (Int × List (Int × Int)) → X_laws_markInstructionS_l0
  | (y1, y2) => ((i : Int), y1, y2)

def pr_laws_markInstructionS_l0 : X_laws_markInstructionS_l0 → Int × List (Int × Int)
  | (_, y1, y2) => (y1, y2)

theorem w_laws_markInstructionS_l0  (y1 : Int) (y2 : List (Int × Int)) (n : Nat) (hl : y2.length = n) (hn : n ≤ 9223372036854775807)  :
    lp_laws_markInstructionS_l0.fin ((0 : Int), y1, y2) = true ∧ lp_laws_markInstructionS_l0.res ((0 : Int), y1, y2) = ((walkL (f_laws_markInstructionS_l0) 0 (List.range n) 0 (y1, y2)).1, (st_laws_markInstructionS_l0) (walkL (f_laws_markInstructionS_l0) 0 (List.range n) 0 (y1, y2)).2.1 (walkL (f_laws_markInstructionS_l0) 0 (List.range n) 0 (y1, y2)).2.2) := by
  have key := lp_laws_markInstructionS_l0.along (st_laws_markInstructionS_l0) pr_laws_markInstructionS_l0 (f_laws_markInstructionS_l0) 0 (fun _ a => a.2.length = n) (List.range n) (y1, y2) hl (by simp only [lp_laws_markInstructionS_l0, st_laws_markInstructionS_l0, List.length_range]; omega) (fun i b a hb hI => ?_) (fun a hI => ?_)
  · exact key
  · obtain ⟨y1, y2⟩ := a
    obtain ⟨rfl, hlt⟩ := range_get hb
    have hI0 : y2.length = n := hI
    have hw : IntKind.i64.wrap ((b : Int) + 1) = ((b + 1 : Nat) : Int) := by rw [wrap_i64 (by omega) (by omega)]; omega
    have hdec : ltI (b : Int) (y2.length : Int) = true := ltI_t (by omega)
    have hnn : leI (0 : Int) (b : Int) = true := leI_t (by omega)
    have hltd : ltN b y2.length = true := ltN_t (by omega)
    refine ⟨?_, ?_, ?_, ?_⟩
    · simp [laws_markInstructionS_l0_a0, laws_markInstructionS_l0_a1, laws_markInstructionS_l0_0, laws_markInstructionS_l0_1, laws_markInstructionS_l0_2, laws_markInstructionS_l0_3, laws_markInstructionS_l0_4, laws_markInstructionS_l0_5, laws_markInstructionS_l0_6, laws_markInstructionS_l0_7, lt_laws_markInstructionS_l0, lp_laws_markInstructionS_l0, LT.nds, allT, st_laws_markInstructionS_l0, hdec, hnn, hltd]
    · simp [laws_markInstructionS_l0_a0, laws_markInstructionS_l0_a1, laws_markInstructionS_l0_0, laws_markInstructionS_l0_1, laws_markInstructionS_l0_2, laws_markInstructionS_l0_3, laws_markInstructionS_l0_4, laws_markInstructionS_l0_5, laws_markInstructionS_l0_6, laws_markInstructionS_l0_7, lt_laws_markInstructionS_l0, lp_laws_markInstructionS_l0, LT.each, st_laws_markInstructionS_l0, pr_laws_markInstructionS_l0, hw]
    · simp only [laws_markInstructionS_l0_a0, laws_markInstructionS_l0_a1, laws_markInstructionS_l0_0, laws_markInstructionS_l0_1, laws_markInstructionS_l0_2, laws_markInstructionS_l0_3, laws_markInstructionS_l0_4, laws_markInstructionS_l0_5, laws_markInstructionS_l0_6, laws_markInstructionS_l0_7, lt_laws_markInstructionS_l0, lp_laws_markInstructionS_l0, LT.fn, st_laws_markInstructionS_l0, pr_laws_markInstructionS_l0, f_laws_markInstructionS_l0, Int.toNat_natCast, hdec, hnn, hltd, cond_true, Bool.cond_self]
    · intro a' hf; simp only [f_laws_markInstructionS_l0, Sum.inr.injEq] at hf; subst hf; simp [hI0]
  · obtain ⟨y1, y2⟩ := a
    have hI0 : y2.length = n := hI
    simp [laws_markInstructionS_l0_a0, laws_markInstructionS_l0_a1, laws_markInstructionS_l0_0, laws_markInstructionS_l0_1, laws_markInstructionS_l0_2, laws_markInstructionS_l0_3, laws_markInstructionS_l0_4, laws_markInstructionS_l0_5, laws_markInstructionS_l0_6, laws_markInstructionS_l0_7, lt_laws_markInstructionS_l0, lp_laws_markInstructionS_l0, LT.out, st_laws_markInstructionS_l0, hI0, List.length_range]

def f_laws_markTermS_l0  (b : Nat) : (Int × List (Int × (ByteArray × Int))) → Nat ⊕ (Int × List (Int × (ByteArray × Int)))
  | (y1, y2) => (.inr (((IntKind.wrap IntKind.i64 ((IntKind.wrap IntKind.i64 ((IntKind.wrap IntKind.i64 (y1 + (1 : Int))) + (1 : Int))) + (1 : Int)))), ((List.set ((List.set ((List.set y2 (b) (y1, Prod.fst ((Prod.snd (Option.getD y2[b]? ((0 : Int), ByteArray.empty, (0 : Int))))), Prod.snd ((Prod.snd (Option.getD y2[b]? ((0 : Int), ByteArray.empty, (0 : Int)))))))) (b) (Prod.fst ((Option.getD ((List.set y2 (b) (y1, Prod.fst ((Prod.snd (Option.getD y2[b]? ((0 : Int), ByteArray.empty, (0 : Int))))), Prod.snd ((Prod.snd (Option.getD y2[b]? ((0 : Int), ByteArray.empty, (0 : Int))))))))[b]? ((0 : Int), ByteArray.empty, (0 : Int)))), laws_markText_0 ((IntKind.wrap IntKind.i64 (y1 + (1 : Int)))), Prod.snd (Prod.snd ((Option.getD ((List.set y2 (b) (y1, Prod.fst ((Prod.snd (Option.getD y2[b]? ((0 : Int), ByteArray.empty, (0 : Int))))), Prod.snd ((Prod.snd (Option.getD y2[b]? ((0 : Int), ByteArray.empty, (0 : Int))))))))[b]? ((0 : Int), ByteArray.empty, (0 : Int)))))))) (b) (Prod.fst ((Option.getD ((List.set ((List.set y2 (b) (y1, Prod.fst ((Prod.snd (Option.getD y2[b]? ((0 : Int), ByteArray.empty, (0 : Int))))), Prod.snd ((Prod.snd (Option.getD y2[b]? ((0 : Int), ByteArray.empty, (0 : Int)))))))) (b) (Prod.fst ((Option.getD ((List.set y2 (b) (y1, Prod.fst ((Prod.snd (Option.getD y2[b]? ((0 : Int), ByteArray.empty, (0 : Int))))), Prod.snd ((Prod.snd (Option.getD y2[b]? ((0 : Int), ByteArray.empty, (0 : Int))))))))[b]? ((0 : Int), ByteArray.empty, (0 : Int)))), laws_markText_0 ((IntKind.wrap IntKind.i64 (y1 + (1 : Int)))), Prod.snd (Prod.snd ((Option.getD ((List.set y2 (b) (y1, Prod.fst ((Prod.snd (Option.getD y2[b]? ((0 : Int), ByteArray.empty, (0 : Int))))), Prod.snd ((Prod.snd (Option.getD y2[b]? ((0 : Int), ByteArray.empty, (0 : Int))))))))[b]? ((0 : Int), ByteArray.empty, (0 : Int))))))))[b]? ((0 : Int), ByteArray.empty, (0 : Int)))), Prod.fst (Prod.snd ((Option.getD ((List.set ((List.set y2 (b) (y1, Prod.fst ((Prod.snd (Option.getD y2[b]? ((0 : Int), ByteArray.empty, (0 : Int))))), Prod.snd ((Prod.snd (Option.getD y2[b]? ((0 : Int), ByteArray.empty, (0 : Int)))))))) (b) (Prod.fst ((Option.getD ((List.set y2 (b) (y1, Prod.fst ((Prod.snd (Option.getD y2[b]? ((0 : Int), ByteArray.empty, (0 : Int))))), Prod.snd ((Prod.snd (Option.getD y2[b]? ((0 : Int), ByteArray.empty, (0 : Int))))))))[b]? ((0 : Int), ByteArray.empty, (0 : Int)))), laws_markText_0 ((IntKind.wrap IntKind.i64 (y1 + (1 : Int)))), Prod.snd (Prod.snd ((Option.getD ((List.set y2 (b) (y1, Prod.fst ((Prod.snd (Option.getD y2[b]? ((0 : Int), ByteArray.empty, (0 : Int))))), Prod.snd ((Prod.snd (Option.getD y2[b]? ((0 : Int), ByteArray.empty, (0 : Int))))))))[b]? ((0 : Int), ByteArray.empty, (0 : Int))))))))[b]? ((0 : Int), ByteArray.empty, (0 : Int))))), (IntKind.wrap IntKind.i64 ((IntKind.wrap IntKind.i64 (y1 + (1 : Int))) + (1 : Int))))))))

def st_laws_markTermS_l0  (i : Nat) : (Int × List (Int × (ByteArray × Int))) → X_laws_markTermS_l0
  | (y1, y2) => ((i : Int), y1, y2)

def pr_laws_markTermS_l0 : X_laws_markTermS_l0 → Int × List (Int × (ByteArray × Int))
  | (_, y1, y2) => (y1, y2)

theorem w_laws_markTermS_l0  (y1 : Int) (y2 : List (Int × (ByteArray × Int))) (n : Nat) (hl : y2.length = n) (hn : n ≤ 9223372036854775807) (h1 : 0 ≤ y1) (h2 : y1 + 3 * (n : Int) ≤ 9223372036854775807) :
    lp_laws_markTermS_l0.fin ((0 : Int), y1, y2) = true ∧ lp_laws_markTermS_l0.res ((0 : Int), y1, y2) = ((walkL (f_laws_markTermS_l0) 0 (List.range n) 0 (y1, y2)).1, (st_laws_markTermS_l0) (walkL (f_laws_markTermS_l0) 0 (List.range n) 0 (y1, y2)).2.1 (walkL (f_laws_markTermS_l0) 0 (List.range n) 0 (y1, y2)).2.2) := by
  have key := lp_laws_markTermS_l0.along (st_laws_markTermS_l0) pr_laws_markTermS_l0 (f_laws_markTermS_l0) 0 (fun i a => a.2.length = n ∧ 0 ≤ a.1 ∧ a.1 + 3 * ((n - i : Nat) : Int) ≤ 9223372036854775807) (List.range n) (y1, y2) ⟨hl, h1, by simpa using h2⟩ (by simp only [lp_laws_markTermS_l0, st_laws_markTermS_l0, List.length_range]; omega) (fun i b a hb hI => ?_) (fun a hI => ?_)
  · exact key
  · obtain ⟨y1, y2⟩ := a
    obtain ⟨rfl, hlt⟩ := range_get hb
    have hI0 : y2.length = n := hI.1
    have hw : IntKind.i64.wrap ((b : Int) + 1) = ((b + 1 : Nat) : Int) := by rw [wrap_i64 (by omega) (by omega)]; omega
    have hdec : ltI (b : Int) (y2.length : Int) = true := ltI_t (by omega)
    have hnn : leI (0 : Int) (b : Int) = true := leI_t (by omega)
    have hltd : ltN b y2.length = true := ltN_t (by omega)
    refine ⟨?_, ?_, ?_, ?_⟩
    · have hk := hI.2
      simp only at hk
      have hw1 : IntKind.i64.wrap (y1 + 1) = y1 + 1 := wrap_i64 (by omega) (by omega)
      have h6 : laws_markText_1 (y1 + 1) = true := markT_ok (y1 + 1) ((Bool.and_eq_true _ _).mpr ⟨leI_t (by omega), leI_t (by omega)⟩)
      simp [laws_markTermS_l0_a0, laws_markTermS_l0_a1, laws_markTermS_l0_a2, laws_markTermS_l0_a3, laws_markTermS_l0_a4, laws_markTermS_l0_a5, laws_markTermS_l0_a6, laws_markTermS_l0_0, laws_markTermS_l0_1, laws_markTermS_l0_2, laws_markTermS_l0_3, laws_markTermS_l0_4, laws_markTermS_l0_5, laws_markTermS_l0_6, laws_markTermS_l0_7, laws_markTermS_l0_8, laws_markTermS_l0_9, laws_markTermS_l0_10, lt_laws_markTermS_l0, lp_laws_markTermS_l0, LT.nds, allT, st_laws_markTermS_l0, hdec, hnn, hltd, hw1, h6]
    · simp [laws_markTermS_l0_a0, laws_markTermS_l0_a1, laws_markTermS_l0_a2, laws_markTermS_l0_a3, laws_markTermS_l0_a4, laws_markTermS_l0_a5, laws_markTermS_l0_a6, laws_markTermS_l0_0, laws_markTermS_l0_1, laws_markTermS_l0_2, laws_markTermS_l0_3, laws_markTermS_l0_4, laws_markTermS_l0_5, laws_markTermS_l0_6, laws_markTermS_l0_7, laws_markTermS_l0_8, laws_markTermS_l0_9, laws_markTermS_l0_10, lt_laws_markTermS_l0, lp_laws_markTermS_l0, LT.each, st_laws_markTermS_l0, pr_laws_markTermS_l0, hw]
    · simp only [laws_markTermS_l0_a0, laws_markTermS_l0_a1, laws_markTermS_l0_a2, laws_markTermS_l0_a3, laws_markTermS_l0_a4, laws_markTermS_l0_a5, laws_markTermS_l0_a6, laws_markTermS_l0_0, laws_markTermS_l0_1, laws_markTermS_l0_2, laws_markTermS_l0_3, laws_markTermS_l0_4, laws_markTermS_l0_5, laws_markTermS_l0_6, laws_markTermS_l0_7, laws_markTermS_l0_8, laws_markTermS_l0_9, laws_markTermS_l0_10, lt_laws_markTermS_l0, lp_laws_markTermS_l0, LT.fn, st_laws_markTermS_l0, pr_laws_markTermS_l0, f_laws_markTermS_l0, Int.toNat_natCast, hdec, hnn, hltd, cond_true, Bool.cond_self]
    · have hk := hI.2
      simp only at hk
      intro a' hf; simp only [f_laws_markTermS_l0, Sum.inr.injEq] at hf
      subst hf
      refine ⟨by simp [hI0], ?_⟩
      simp only
      rw [wrap_i64 (x := y1 + 1) (by omega) (by omega), wrap_i64 (x := y1 + 1 + 1) (by omega) (by omega), wrap_i64 (x := y1 + 1 + 1 + 1) (by omega) (by omega)]
      omega
  · obtain ⟨y1, y2⟩ := a
    have hI0 : y2.length = n := hI.1
    simp [laws_markTermS_l0_a0, laws_markTermS_l0_a1, laws_markTermS_l0_a2, laws_markTermS_l0_a3, laws_markTermS_l0_a4, laws_markTermS_l0_a5, laws_markTermS_l0_a6, laws_markTermS_l0_0, laws_markTermS_l0_1, laws_markTermS_l0_2, laws_markTermS_l0_3, laws_markTermS_l0_4, laws_markTermS_l0_5, laws_markTermS_l0_6, laws_markTermS_l0_7, laws_markTermS_l0_8, laws_markTermS_l0_9, laws_markTermS_l0_10, lt_laws_markTermS_l0, lp_laws_markTermS_l0, LT.out, st_laws_markTermS_l0, hI0, List.length_range]

def mkB (k : Int) : Int × Int × Int := (k, k + 1, k + 2)
def mkI (k : Int) : Int × Int := (k, k + 1)

theorem f_markB (b : Nat) (k : Int) (xs : List (Int × Int × Int)) (hb : b < xs.length) (h0 : 0 ≤ k) (h1 : k + (3 : Nat) ≤ 9223372036854775807) : f_laws_markBlockStateS_l0 b (k, xs) = .inr (k + (3 : Nat), xs.set b (mkB k)) := by
  have w1 : IntKind.i64.wrap (k + 1) = k + 1 := wrap_i64 (by omega) (by omega)
  have w2 : IntKind.i64.wrap (k + 1 + 1) = k + 2 := by rw [wrap_i64 (by omega) (by omega)]; omega
  have w3 : IntKind.i64.wrap (k + 2 + 1) = k + 3 := by rw [wrap_i64 (by omega) (by omega)]; omega
  simp [f_laws_markBlockStateS_l0, mkB, w1, w2, w3, List.set_set, List.getElem?_set, hb]

theorem f_markI (b : Nat) (k : Int) (xs : List (Int × Int)) (hb : b < xs.length) (h0 : 0 ≤ k) (h1 : k + (2 : Nat) ≤ 9223372036854775807) : f_laws_markInstructionS_l0 b (k, xs) = .inr (k + (2 : Nat), xs.set b (mkI k)) := by
  have w1 : IntKind.i64.wrap (k + 1) = k + 1 := wrap_i64 (by omega) (by omega)
  have w2 : IntKind.i64.wrap (k + 1 + 1) = k + 2 := by rw [wrap_i64 (by omega) (by omega)]; omega
  simp [f_laws_markInstructionS_l0, mkI, w1, w2, List.set_set, List.getElem?_set, hb]

def mkT (k : Int) : TM := (k, laws_markText_0 (k + 1), k + 2)

theorem f_markT (b : Nat) (k : Int) (xs : List TM) (hb : b < xs.length) (h0 : 0 ≤ k) (h1 : k + (3 : Nat) ≤ 9223372036854775807) : f_laws_markTermS_l0 b (k, xs) = .inr (k + (3 : Nat), xs.set b (mkT k)) := by
  have w1 : IntKind.i64.wrap (k + 1) = k + 1 := wrap_i64 (by omega) (by omega)
  have w2 : IntKind.i64.wrap (k + 1 + 1) = k + 2 := by rw [wrap_i64 (by omega) (by omega)]; omega
  have w3 : IntKind.i64.wrap (k + 2 + 1) = k + 3 := by rw [wrap_i64 (by omega) (by omega)]; omega
  simp [f_laws_markTermS_l0, mkT, w1, w2, w3, List.set_set, List.getElem?_set, hb]

theorem markB_ok (k : Int) (xs : List (Int × Int × Int)) (h : (mkOk3 3 k xs.length && leN xs.length 9223372036854775807) = true) : laws_markBlockStateS_0 k xs = k + 3 * (xs.length : Int) ∧ laws_markBlockStateS_1 k xs = upG 3 mkB k xs.length ∧ laws_markBlockStateS_2 k xs = true := by
  simp only [Bool.and_eq_true, leN_iff] at h
  obtain ⟨h0, h2⟩ := mkOk3_iff.1 h.1
  obtain ⟨w1, w2⟩ := w_laws_markBlockStateS_l0 k xs xs.length rfl h.2
  have hw := walk_markG (e := 0) f_markB xs [] k h0 h2
  rw [List.length_nil, List.nil_append, ← List.range_eq_range'] at hw
  rw [hw] at w2
  refine ⟨?_, ?_, ?_⟩
  · simp only [laws_markBlockStateS_0, laws_markBlockStateS_a0, laws_markBlockStateS_a1, w2, st_laws_markBlockStateS_l0]; rfl
  · simp only [laws_markBlockStateS_1, laws_markBlockStateS_a0, laws_markBlockStateS_a1, w2, st_laws_markBlockStateS_l0]; rfl
  · simp only [laws_markBlockStateS_2, laws_markBlockStateS_a0, w1, allT, cond_true]

theorem markI_ok (k : Int) (xs : List (Int × Int)) (h : (mkOk3 2 k xs.length && leN xs.length 9223372036854775807) = true) : laws_markInstructionS_0 k xs = k + 2 * (xs.length : Int) ∧ laws_markInstructionS_2 k xs = true := by
  simp only [Bool.and_eq_true, leN_iff] at h
  obtain ⟨h0, h2⟩ := mkOk3_iff.1 h.1
  obtain ⟨w1, w2⟩ := w_laws_markInstructionS_l0 k xs xs.length rfl h.2
  have hw := walk_markG (e := 0) f_markI xs [] k h0 h2
  rw [List.length_nil, List.nil_append, ← List.range_eq_range'] at hw
  rw [hw] at w2
  refine ⟨?_, ?_⟩
  · simp only [laws_markInstructionS_0, laws_markInstructionS_a0, laws_markInstructionS_a1, w2, st_laws_markInstructionS_l0]; rfl
  · simp only [laws_markInstructionS_2, laws_markInstructionS_a0, w1, allT, cond_true]

theorem markTS_ok (k : Int) (xs : List TM) (h : (mkOk3 3 k xs.length && leN xs.length 9223372036854775807) = true) : laws_markTermS_0 k xs = k + 3 * (xs.length : Int) ∧ laws_markTermS_2 k xs = true := by
  simp only [Bool.and_eq_true, leN_iff] at h
  obtain ⟨h0, h2⟩ := mkOk3_iff.1 h.1
  obtain ⟨w1, w2⟩ := w_laws_markTermS_l0 k xs xs.length rfl h.2 h0 h2
  have hw := walk_markG (e := 0) f_markT xs [] k h0 h2
  rw [List.length_nil, List.nil_append, ← List.range_eq_range'] at hw
  rw [hw] at w2
  refine ⟨?_, ?_⟩
  · simp only [laws_markTermS_0, laws_markTermS_a0, laws_markTermS_a1, w2, st_laws_markTermS_l0]; rfl
  · simp only [laws_markTermS_2, laws_markTermS_a0, w1, allT, cond_true]

def N_laws_markBlockStateS : List SV → List Entry → Option Out
  | [.one ⟨false, [.ref 0]⟩, .one ⟨false, [.val (.int .i64 x0)]⟩], [.row true 28 (.pair (.int .i64) (.pair (.int .i64) (.int .i64))) x1] => some ⟨(.one ⟨false, [(.val (.int IntKind.i64 (x0 + 3 * (x1.length : Int))))]⟩), [(.row true 28 (CTy.pair (CTy.int IntKind.i64) (CTy.pair (CTy.int IntKind.i64) (CTy.int IntKind.i64))) (upG 3 mkB x0 x1.length))], [], [mkOk3 3 x0 x1.length && leN x1.length 9223372036854775807]⟩
  | _, _ => none

def n_laws_markBlockStateS : PF Tryd.prog := PF.alt p_laws_markBlockStateS N_laws_markBlockStateS (by
  intro args es o h hnd; unfold N_laws_markBlockStateS at h; split at h
  · rename_i x0 x1
    cases h
    have hnd := nd_fst hnd
    have hh := markB_ok x0 x1 hnd
    obtain ⟨e0, e1, en⟩ := hh
    exact altok rfl (nd_one en) (by simp only [e0] <;> rfl) (by simp only [e1] <;> rfl) rfl
  · cases h)

def N_laws_markInstructionS : List SV → List Entry → Option Out
  | [.one ⟨false, [.ref 0]⟩, .one ⟨false, [.val (.int .i64 x0)]⟩], [.row true 144 (.pair (.int .i64) (.int .i64)) x1] => some ⟨(.one ⟨false, [(.val (.int IntKind.i64 (x0 + 2 * (x1.length : Int))))]⟩), [(.row true 144 (CTy.pair (CTy.int IntKind.i64) (CTy.int IntKind.i64)) (laws_markInstructionS_1 x0 x1))], [], [mkOk3 2 x0 x1.length && leN x1.length 9223372036854775807]⟩
  | _, _ => none

def n_laws_markInstructionS : PF Tryd.prog := PF.alt p_laws_markInstructionS N_laws_markInstructionS (by
  intro args es o h hnd; unfold N_laws_markInstructionS at h; split at h
  · rename_i x0 x1
    cases h
    have hnd := nd_fst hnd
    have hh := markI_ok x0 x1 hnd
    obtain ⟨e0, en⟩ := hh
    exact altok rfl (nd_one en) (by simp only [e0] <;> rfl) rfl rfl
  · cases h)

def N_laws_markTermS : List SV → List Entry → Option Out
  | [.one ⟨false, [.ref 0]⟩, .one ⟨false, [.val (.int .i64 x0)]⟩], [.row true 31 (.pair (.int .i64) (.pair (.str) (.int .i64))) x1] => some ⟨(.one ⟨false, [(.val (.int IntKind.i64 (x0 + 3 * (x1.length : Int))))]⟩), [(.row true 31 (CTy.pair (CTy.int IntKind.i64) (CTy.pair CTy.str (CTy.int IntKind.i64))) (laws_markTermS_1 x0 x1))], [], [mkOk3 3 x0 x1.length && leN x1.length 9223372036854775807]⟩
  | _, _ => none

def n_laws_markTermS : PF Tryd.prog := PF.alt p_laws_markTermS N_laws_markTermS (by
  intro args es o h hnd; unfold N_laws_markTermS at h; split at h
  · rename_i x0 x1
    cases h
    have hnd := nd_fst hnd
    have hh := markTS_ok x0 x1 hnd
    obtain ⟨e0, en⟩ := hh
    exact altok rfl (nd_one en) (by simp only [e0] <;> rfl) rfl rfl
  · cases h)

def heldB (k : Int) (xs : List (Int × Int × Int)) : Int := laws_heldBlockStateS_0 k xs

theorem f_heldB (k : Int) (h0 : 0 ≤ k) (h1 : k + (3 : Nat) ≤ 9223372036854775807) : f_laws_heldBlockStateS_l0 (mkB k) k = .inr (k + (3 : Nat)) := by
  have w1 : IntKind.i64.wrap (k + 1) = k + 1 := wrap_i64 (by omega) (by omega)
  have w2 : IntKind.i64.wrap (k + 1 + 1) = k + 2 := by rw [wrap_i64 (by omega) (by omega)]; omega
  have w3 : IntKind.i64.wrap (k + 2 + 1) = k + 3 := by rw [wrap_i64 (by omega) (by omega)]; omega
  simp [f_laws_heldBlockStateS_l0, mkB, w1, w2, w3]

theorem heldB_up (k : Int) (n : Nat) (h : (mkOk3 3 k n && leN n 9223372036854775807) = true) : heldB k (upG 3 mkB k n) = k + 3 * (n : Int) := by
  simp only [Bool.and_eq_true, leN_iff] at h
  obtain ⟨h0, h2⟩ := mkOk3_iff.1 h.1
  obtain ⟨w1, w2⟩ := w_laws_heldBlockStateS_l0 (upG 3 mkB k n) k (by rw [upG_length]; exact h.2)
  rw [walk_heldG (e := 3) f_heldB n k 0 h0 h2] at w2
  simp only [heldB, laws_heldBlockStateS_0, laws_heldBlockStateS_a0, w2, st_laws_heldBlockStateS_l0]
  rfl

theorem heldBS_ok (k : Int) (xs : List (Int × Int × Int)) (h : leN xs.length 9223372036854775807 = true) : laws_heldBlockStateS_0 k xs = heldB k xs ∧ laws_heldBlockStateS_1 k xs = true := by
  obtain ⟨w1, w2⟩ := w_laws_heldBlockStateS_l0 xs k (leN_iff.1 h)
  exact ⟨rfl, by simp only [laws_heldBlockStateS_1, laws_heldBlockStateS_a0, w1, allT, cond_true]⟩

def N_laws_heldBlockStateS : List SV → List Entry → Option Out
  | [.one ⟨false, [.ref 0]⟩, .one ⟨false, [.val (.int .i64 x0)]⟩], [.row false 28 (.pair (.int .i64) (.pair (.int .i64) (.int .i64))) x1] => some ⟨(.one ⟨false, [(.val (.int IntKind.i64 (heldB x0 x1)))]⟩), [(.row false 28 (CTy.pair (CTy.int IntKind.i64) (CTy.pair (CTy.int IntKind.i64) (CTy.int IntKind.i64))) x1)], [], [leN x1.length 9223372036854775807]⟩
  | _, _ => none

def n_laws_heldBlockStateS : PF Tryd.prog := PF.alt p_laws_heldBlockStateS N_laws_heldBlockStateS (by
  intro args es o h hnd; unfold N_laws_heldBlockStateS at h; split at h
  · rename_i x0 x1
    cases h
    have hnd := nd_fst hnd
    have hh := heldBS_ok x0 x1 hnd
    obtain ⟨e0, en⟩ := hh
    exact altok rfl (nd_one en) (by simp only [e0] <;> rfl) rfl rfl
  · cases h)

/-! ### Sizes of lists -/

def szL (k : Int) (n : Nat) : Int := bif ltI (k - n) 0 then -1 else k - n

theorem szI_ok (k : Int) (xs : List (Int × Int)) (h : (leN xs.length 9223372036854775807 && (leI (-1) k && leI k 1048576)) = true) : laws_szInstructionS_0 k xs = szL k xs.length := by
  simp only [Bool.and_eq_true, leN_iff, leI_iff] at h
  simp only [laws_szInstructionS_0, laws_szInstructionS_a0, szL]
  rw [wrap_i64 (by omega) (by omega)]

theorem szB_ok (k : Int) (xs : List (Int × Int × Int)) (h : (leN xs.length 9223372036854775807 && (leI (-1) k && leI k 1048576)) = true) : laws_szBlockStateS_0 k xs = szL k xs.length := by
  simp only [Bool.and_eq_true, leN_iff, leI_iff] at h
  simp only [laws_szBlockStateS_0, laws_szBlockStateS_a0, szL]
  rw [wrap_i64 (by omega) (by omega)]

def N_laws_szInstructionS : List SV → List Entry → Option Out
  | [.one ⟨false, [.ref 0]⟩, .one ⟨false, [.val (.int .i64 x0)]⟩], [.row false 146 (.pair (.int .i64) (.int .i64)) x1] => some ⟨(.one ⟨false, [(.val (.int IntKind.i64 (szL x0 x1.length)))]⟩), [(.row false 146 (CTy.pair (CTy.int IntKind.i64) (CTy.int IntKind.i64)) x1)], [], [leN x1.length 9223372036854775807 && (leI (-1) x0 && leI x0 1048576)]⟩
  | _, _ => none

def n_laws_szInstructionS : PF Tryd.prog := PF.alt p_laws_szInstructionS N_laws_szInstructionS (by
  intro args es o h hnd; unfold N_laws_szInstructionS at h; split at h
  · rename_i x0 x1
    cases h
    have hnd := nd_fst hnd
    have hh := szI_ok x0 x1 hnd
    have e0 := hh
    exact altok rfl (fun _ h => by cases h) (by simp only [e0] <;> rfl) rfl rfl
  · cases h)

def N_laws_szBlockStateS : List SV → List Entry → Option Out
  | [.one ⟨false, [.ref 0]⟩, .one ⟨false, [.val (.int .i64 x0)]⟩], [.row false 25 (.pair (.int .i64) (.pair (.int .i64) (.int .i64))) x1] => some ⟨(.one ⟨false, [(.val (.int IntKind.i64 (szL x0 x1.length)))]⟩), [(.row false 25 (CTy.pair (CTy.int IntKind.i64) (CTy.pair (CTy.int IntKind.i64) (CTy.int IntKind.i64))) x1)], [], [leN x1.length 9223372036854775807 && (leI (-1) x0 && leI x0 1048576)]⟩
  | _, _ => none

def n_laws_szBlockStateS : PF Tryd.prog := PF.alt p_laws_szBlockStateS N_laws_szBlockStateS (by
  intro args es o h hnd; unfold N_laws_szBlockStateS at h; split at h
  · rename_i x0 x1
    cases h
    have hnd := nd_fst hnd
    have hh := szB_ok x0 x1 hnd
    have e0 := hh
    exact altok rfl (fun _ h => by cases h) (by simp only [e0] <;> rfl) rfl rfl
  · cases h)

def szTGo : Int → List TM → Int
  | k, [] => k
  | k, t :: r => bif ltI (laws_szTerm_0 t.2.1 k) 0 then -1 else szTGo (laws_szTerm_0 t.2.1 k) r
def szTs (k : Int) (ts : List TM) : Int := bif ltI (k - ts.length) 0 then -1 else szTGo (k - ts.length) ts

theorem szTerm_eq {s : ByteArray} {k : Int} (hs : s.size ≤ 9223372036854775807) (hk : 0 ≤ k ∧ k ≤ 1048576) : laws_szTerm_0 s k = bif ltI (k - (s.size : Int)) 0 then -1 else k - (s.size : Int) := by
  have hw : IntKind.i64.wrap (k - (s.size : Int)) = k - (s.size : Int) := wrap_i64 (by omega) (by omega)
  simp only [laws_szTerm_0, laws_szTerm_a0, hw]

def f_laws_szTermS_l0  (b : Int × (ByteArray × Int)) : (Int) → Nat ⊕ (Int)
  | y1 => (bif ((ltI ((laws_szTerm_0 (Prod.fst (Prod.snd (b))) y1)) (0 : Int))) then (.inl 0) else (.inr (((laws_szTerm_0 (Prod.fst (Prod.snd (b))) y1)))))

def st_laws_szTermS_l0 (y2 : List (Int × (ByteArray × Int))) (i : Nat) : (Int) → X_laws_szTermS_l0
  | y1 => ((i : Int), y1, y2)

def pr_laws_szTermS_l0 : X_laws_szTermS_l0 → Int
  | (_, y1, _) => y1

theorem w_laws_szTermS_l0 (y2 : List (Int × (ByteArray × Int))) (y1 : Int) (hn : y2.length ≤ 9223372036854775807)  :
    lp_laws_szTermS_l0.fin ((0 : Int), y1, y2) = true ∧ lp_laws_szTermS_l0.res ((0 : Int), y1, y2) = ((walkL (f_laws_szTermS_l0) 1 y2 0 y1).1, (st_laws_szTermS_l0 y2) (walkL (f_laws_szTermS_l0) 1 y2 0 y1).2.1 (walkL (f_laws_szTermS_l0) 1 y2 0 y1).2.2) := by
  have key := lp_laws_szTermS_l0.along (st_laws_szTermS_l0 y2) pr_laws_szTermS_l0 (f_laws_szTermS_l0) 1 (fun _ _ => True) y2 y1 (by trivial) (by simp only [lp_laws_szTermS_l0, st_laws_szTermS_l0]; omega) (fun i b a hb hI => ?_) (fun a hI => ?_)
  · exact key
  · obtain y1 := a
    have hlt := (List.getElem?_eq_some_iff.1 hb).1
    have hget : ∀ d, Option.getD y2[i]? d = b := fun d => by rw [hb]; rfl
    have hw := wrap64 hlt hn
    have hdec : ltI (i : Int) (y2.length : Int) = true := ltI_t (by omega)
    have hnn : leI (0 : Int) (i : Int) = true := leI_t (by omega)
    have hltd : ltN i y2.length = true := ltN_t hlt
    refine ⟨?_, ?_, ?_, ?_⟩
    · simp [laws_szTermS_l0_a0, laws_szTermS_l0_0, laws_szTermS_l0_1, laws_szTermS_l0_2, laws_szTermS_l0_3, laws_szTermS_l0_4, laws_szTermS_l0_5, laws_szTermS_l0_6, lt_laws_szTermS_l0, lp_laws_szTermS_l0, LT.nds, allT, st_laws_szTermS_l0, hdec, hnn, hltd, hget]
    · simp [laws_szTermS_l0_a0, laws_szTermS_l0_0, laws_szTermS_l0_1, laws_szTermS_l0_2, laws_szTermS_l0_3, laws_szTermS_l0_4, laws_szTermS_l0_5, laws_szTermS_l0_6, lt_laws_szTermS_l0, lp_laws_szTermS_l0, LT.each, st_laws_szTermS_l0, pr_laws_szTermS_l0, hw]
    · simp only [laws_szTermS_l0_a0, laws_szTermS_l0_0, laws_szTermS_l0_1, laws_szTermS_l0_2, laws_szTermS_l0_3, laws_szTermS_l0_4, laws_szTermS_l0_5, laws_szTermS_l0_6, lt_laws_szTermS_l0, lp_laws_szTermS_l0, LT.fn, st_laws_szTermS_l0, pr_laws_szTermS_l0, f_laws_szTermS_l0, Int.toNat_natCast, hdec, hnn, hltd, hget, cond_true, Bool.cond_self]
    · exact fun _ _ => trivial
  · obtain y1 := a
    simp [laws_szTermS_l0_a0, laws_szTermS_l0_0, laws_szTermS_l0_1, laws_szTermS_l0_2, laws_szTermS_l0_3, laws_szTermS_l0_4, laws_szTermS_l0_5, laws_szTermS_l0_6, lt_laws_szTermS_l0, lp_laws_szTermS_l0, LT.out, st_laws_szTermS_l0]

theorem walk_szT : ∀ (r : List TM) (i : Nat) (k : Int), (bif Nat.beq (walkL f_laws_szTermS_l0 1 r i k).1 0 then -1 else (walkL f_laws_szTermS_l0 1 r i k).2.2) = szTGo k r
  | [], i, k => rfl
  | t :: r, i, k => by
    have hf : f_laws_szTermS_l0 t k = bif ltI (laws_szTerm_0 t.2.1 k) 0 then .inl 0 else .inr (laws_szTerm_0 t.2.1 k) := rfl
    simp only [walkL, hf, szTGo]
    cases h : ltI (laws_szTerm_0 t.2.1 k) 0 with
    | true => rfl
    | false => simp only [cond_false]; exact walk_szT r (i + 1) _

theorem szT_ok (k : Int) (xs : List TM) (h : (leN xs.length 9223372036854775807 && (leI (-1) k && leI k 1048576)) = true) : laws_szTermS_0 k xs = szTs k xs ∧ laws_szTermS_1 k xs = true := by
  simp only [Bool.and_eq_true, leN_iff, leI_iff] at h
  have hw : IntKind.i64.wrap (k - (xs.length : Int)) = k - (xs.length : Int) := wrap_i64 (by omega) (by omega)
  obtain ⟨w1, w2⟩ := w_laws_szTermS_l0 xs (k - (xs.length : Int)) h.1
  have hs := walk_szT xs 0 (k - (xs.length : Int))
  have e : laws_szTermS_l0_4 = -1 := rfl
  simp only [laws_szTermS_0, laws_szTermS_1, laws_szTermS_a0, laws_szTermS_a1, hw, w1, w2, st_laws_szTermS_l0, allT, Bool.or_true, cond_true, szTs, e, hs, and_self]

theorem szTGo_small : ∀ (r : List TM) (k : Int), (∀ t ∈ r, t.2.1.size ≤ 9223372036854775807) → 0 ≤ k → k ≤ 1048576 → ltI (szTGo k r) 0 = false → szTGo k r = k - totT r ∧ (totT r : Int) ≤ k
  | [], k, _, h0, h1, _ => by simp [szTGo, totT]; omega
  | t :: r, k, hs, h0, h1, h => by
    have ht := szTerm_eq (k := k) (hs t (by simp)) ⟨h0, h1⟩
    simp only [szTGo] at h ⊢
    cases h2 : ltI (k - (t.2.1.size : Int)) 0 with
    | true => rw [ht, h2] at h; rw [cond_true] at h; exact absurd (show ltI (-1) 0 = false from h) (by decide)
    | false =>
      have h3 := ltI_not.1 h2
      rw [h2, cond_false] at ht
      rw [ht, h2, cond_false] at h
      obtain ⟨q1, q2⟩ := szTGo_small r _ (fun t ht => hs t (by simp [ht])) h3 (by omega) h
      rw [ht, h2, cond_false, q1]
      simp only [totT]
      omega

theorem szTs_small {k : Int} {xs : List TM} (hs : ∀ t ∈ xs, t.2.1.size ≤ 9223372036854775807) (hk : k ≤ 1048576) (h : ltI (szTs k xs) 0 = false) : szTs k xs = k - xs.length - totT xs ∧ (xs.length : Int) + totT xs ≤ k := by
  simp only [szTs] at h ⊢
  cases h2 : ltI (k - (xs.length : Int)) 0 with
  | true => rw [h2] at h; simp at h
  | false =>
    have h3 := ltI_not.1 h2
    rw [h2, cond_false] at h
    obtain ⟨q1, q2⟩ := szTGo_small xs _ hs h3 (by omega) h
    rw [cond_false, q1]
    omega

theorem szL_small {k : Int} {n : Nat} (h : ltI (szL k n) 0 = false) : szL k n = k - n ∧ (n : Int) ≤ k := by
  simp only [szL] at h ⊢
  cases h2 : ltI (k - (n : Int)) 0 with
  | true => rw [h2] at h; simp at h
  | false => have := ltI_not.1 h2; rw [cond_false]; omega

def N_laws_szTermS : List SV → List Entry → Option Out
  | [.one ⟨false, [.ref 0]⟩, .one ⟨false, [.val (.int .i64 x0)]⟩], [.row false 23 (.pair (.int .i64) (.pair (.str) (.int .i64))) x1] => some ⟨(.one ⟨false, [(.val (.int IntKind.i64 (szTs x0 x1)))]⟩), [(.row false 23 (CTy.pair (CTy.int IntKind.i64) (CTy.pair CTy.str (CTy.int IntKind.i64))) x1)], [], [leN x1.length 9223372036854775807 && (leI (-1) x0 && leI x0 1048576)]⟩
  | _, _ => none

def n_laws_szTermS : PF Tryd.prog := PF.alt p_laws_szTermS N_laws_szTermS (by
  intro args es o h hnd; unfold N_laws_szTermS at h; split at h
  · rename_i x0 x1
    cases h
    have hnd := nd_fst hnd
    have hh := szT_ok x0 x1 hnd
    obtain ⟨e0, en⟩ := hh
    exact altok rfl (nd_one en) (by simp only [e0] <;> rfl) rfl rfl
  · cases h)

theorem cloneB_ok (xs : List (Int × Int × Int)) (h : (leN 1 xs.length && leN xs.length 1048576) = true) : slices_Clone_impl_BlockState_0 xs = true := by
  simp only [Bool.and_eq_true, leN_iff] at h
  simp [slices_Clone_impl_BlockState_0, allT]
  omega

/-- slices.Clone at nil, at a slice of no elements; at any slice. -/
def F_cloneB_nil : List SV → List Entry → Option Out
  | [.one ⟨false, [.val (.slice none 0 0)]⟩], [] => some ⟨.one ⟨false, [.ref 0]⟩, [], [.row true 28 (.pair (.int .i64) (.pair (.int .i64) (.int .i64))) []], [true]⟩
  | _, _ => none
def p_cloneB_nil : PF Tryd.prog := PF.ofG Tryd.prog [PF.raw Tryd.prog] [] hmix 142 Tryd.f142 Tryd.func142 (fun c _ => LOk.nil c) F_cloneB_nil (by
  intro vs es r h; unfold F_cloneB_nil at h; split at h
  · cases h; kernel_rfl
  · cases h)
def F_cloneB_lit : List SV → List Entry → Option Out
  | [.one ⟨false, [.val (.slice (some _) 0 _)]⟩], [] => some ⟨.one ⟨false, [.ref 0]⟩, [], [.row true 28 (.pair (.int .i64) (.pair (.int .i64) (.int .i64))) []], [true]⟩
  | _, _ => none
def p_cloneB_lit : PF Tryd.prog := PF.ofG Tryd.prog [] [] hmix 142 Tryd.f142 Tryd.func142 (fun c _ => LOk.nil c) F_cloneB_lit (by
  intro vs es r h; unfold F_cloneB_lit at h; split at h
  · cases h; kernel_rfl
  · cases h)
def N_slices_Clone_impl_BlockState : List SV → List Entry → Option Out
  | [.one ⟨false, [.ref 0]⟩], [.row false 28 (.pair (.int .i64) (.pair (.int .i64) (.int .i64))) x0] => some ⟨.one ⟨false, [.ref 1]⟩, [.row false 28 (.pair (.int .i64) (.pair (.int .i64) (.int .i64))) x0], [.row true 28 (.pair (.int .i64) (.pair (.int .i64) (.int .i64))) x0], [leN x0.length 1048576]⟩
  | _, _ => none
def n_slices_Clone_impl_BlockState : PF Tryd.prog where
  k := 142
  F := N_slices_Clone_impl_BlockState
  ok := by
    intro args es o h hnd mem ρ w hp
    unfold N_slices_Clone_impl_BlockState at h
    split at h
    · rename_i x0
      cases h
      have hl := hnd _ (List.mem_singleton.2 rfl)
      cases x0 with
      | nil =>
        exact (clone0 p_cloneB_nil p_cloneB_lit rfl rfl rfl (fun _ _ => rfl) (by simp) (by simp) hp).mono fun en w' ⟨ρ', h1, h2, h3⟩ => ⟨ρ', h1, h2, rfl, (by intro v hv; rw [List.mem_singleton.1 hv]; rfl), h3⟩
      | cons x xs => exact p_slices_Clone_impl_BlockState.ok _ _ ⟨_, _, _, [slices_Clone_impl_BlockState_0 (x :: xs)]⟩ rfl (fun b hb => by rw [List.mem_singleton.1 hb]; exact cloneB_ok (x :: xs) ((Bool.and_eq_true _ _).mpr ⟨leN_t (Nat.succ_pos _), hl⟩)) mem ρ w hp
    · cases h

end Go.SX

/- Rides, in plain words: restraints, plans, copies and comparisons. -/
import Derived.Test.YtjhgiognlkmehaaGreatRs
import Derived.Test.YtjhgiognlkmehaaGreatLk
namespace Go.SX
open Go.Proofs
set_option maxRecDepth 100000

def eqPr (xs ys : List (Int × Int)) : Bool := decide (xs = ys)
def f_laws_toLockFaultS_l0 (y1 : List (Int × (Int × Int))) (b : Nat) : (List (Int × (Int × Int))) → Nat ⊕ (List (Int × (Int × Int)))
  | y2 => (.inr ((List.set y2 (b) (Prod.fst ((Option.getD y1[b]? ((0 : Int), (0 : Int), (0 : Int)))), Prod.fst (Prod.snd ((Option.getD y1[b]? ((0 : Int), (0 : Int), (0 : Int))))), Prod.snd (Prod.snd ((Option.getD y1[b]? ((0 : Int), (0 : Int), (0 : Int)))))))))

def st_laws_toLockFaultS_l0 (y1 : List (Int × (Int × Int))) (i : Nat) : (List (Int × (Int × Int))) → X_laws_toLockFaultS_l0
  | y2 => ((i : Int), y1, y2)

def pr_laws_toLockFaultS_l0 : X_laws_toLockFaultS_l0 → List (Int × (Int × Int))
  | (_, _, y2) => y2

theorem w_laws_toLockFaultS_l0 (y1 : List (Int × (Int × Int))) (y2 : List (Int × (Int × Int))) (hn : y1.length ≤ 9223372036854775807) (hl : y2.length = y1.length) :
    lp_laws_toLockFaultS_l0.fin ((0 : Int), y1, y2) = true ∧ lp_laws_toLockFaultS_l0.res ((0 : Int), y1, y2) = ((walkL (f_laws_toLockFaultS_l0 y1) 0 (List.range y1.length) 0 y2).1, (st_laws_toLockFaultS_l0 y1) (walkL (f_laws_toLockFaultS_l0 y1) 0 (List.range y1.length) 0 y2).2.1 (walkL (f_laws_toLockFaultS_l0 y1) 0 (List.range y1.length) 0 y2).2.2) := by
  have key := lp_laws_toLockFaultS_l0.along (st_laws_toLockFaultS_l0 y1) pr_laws_toLockFaultS_l0 (f_laws_toLockFaultS_l0 y1) 0 (fun _ a => a.length = y1.length) (List.range y1.length) y2 hl (by simp only [lp_laws_toLockFaultS_l0, st_laws_toLockFaultS_l0, List.length_range]; omega) (fun i b a hb hI => ?_) (fun a hI => ?_)
  · exact key
  · obtain y2 := a
    obtain ⟨rfl, hlt⟩ := range_get hb
    have hw : IntKind.i64.wrap ((b : Int) + 1) = ((b + 1 : Nat) : Int) := by rw [wrap_i64 (by omega) (by omega)]; omega
    have hdec : ltI (b : Int) (y1.length : Int) = true := ltI_t (by omega)
    have hnn : leI (0 : Int) (b : Int) = true := leI_t (by omega)
    have hltd : ltN b y1.length = true := ltN_t (by omega)
    refine ⟨?_, ?_, ?_, ?_⟩
    · simp [laws_toLockFaultS_l0_a0, laws_toLockFaultS_l0_0, laws_toLockFaultS_l0_1, laws_toLockFaultS_l0_2, laws_toLockFaultS_l0_3, laws_toLockFaultS_l0_4, laws_toLockFaultS_l0_5, laws_toLockFaultS_l0_6, lt_laws_toLockFaultS_l0, lp_laws_toLockFaultS_l0, LT.nds, allT, st_laws_toLockFaultS_l0, hdec, hnn, hltd, hI]
    · simp [laws_toLockFaultS_l0_a0, laws_toLockFaultS_l0_0, laws_toLockFaultS_l0_1, laws_toLockFaultS_l0_2, laws_toLockFaultS_l0_3, laws_toLockFaultS_l0_4, laws_toLockFaultS_l0_5, laws_toLockFaultS_l0_6, lt_laws_toLockFaultS_l0, lp_laws_toLockFaultS_l0, LT.each, st_laws_toLockFaultS_l0, pr_laws_toLockFaultS_l0, hw, hI]
    · simp only [laws_toLockFaultS_l0_a0, laws_toLockFaultS_l0_0, laws_toLockFaultS_l0_1, laws_toLockFaultS_l0_2, laws_toLockFaultS_l0_3, laws_toLockFaultS_l0_4, laws_toLockFaultS_l0_5, laws_toLockFaultS_l0_6, lt_laws_toLockFaultS_l0, lp_laws_toLockFaultS_l0, LT.fn, st_laws_toLockFaultS_l0, pr_laws_toLockFaultS_l0, f_laws_toLockFaultS_l0, Int.toNat_natCast, hdec, cond_true]
    · intro a' hf; simp only [f_laws_toLockFaultS_l0, Sum.inr.injEq] at hf; subst hf; simpa using hI
  · obtain y2 := a
    simp [laws_toLockFaultS_l0_a0, laws_toLockFaultS_l0_0, laws_toLockFaultS_l0_1, laws_toLockFaultS_l0_2, laws_toLockFaultS_l0_3, laws_toLockFaultS_l0_4, laws_toLockFaultS_l0_5, laws_toLockFaultS_l0_6, lt_laws_toLockFaultS_l0, lp_laws_toLockFaultS_l0, LT.out, st_laws_toLockFaultS_l0, List.length_range]

def f_laws_eqLockFaultS_l0 (y1 : List (Int × (Int × Int))) (y2 : List (Int × (Int × Int))) (b : Nat) : (Unit) → Nat ⊕ (Unit)
  | _ => (bif ((!laws_eqLockFault_0 (Prod.fst ((Option.getD y1[b]? ((0 : Int), (0 : Int), (0 : Int))))) (Prod.fst (Prod.snd ((Option.getD y1[b]? ((0 : Int), (0 : Int), (0 : Int)))))) (Prod.snd (Prod.snd ((Option.getD y1[b]? ((0 : Int), (0 : Int), (0 : Int)))))) (Prod.fst ((Option.getD y2[b]? ((0 : Int), (0 : Int), (0 : Int))))) (Prod.fst (Prod.snd ((Option.getD y2[b]? ((0 : Int), (0 : Int), (0 : Int)))))) (Prod.snd (Prod.snd ((Option.getD y2[b]? ((0 : Int), (0 : Int), (0 : Int)))))))) then (.inl 0) else (.inr ()))

def st_laws_eqLockFaultS_l0 (y1 : List (Int × (Int × Int))) (y2 : List (Int × (Int × Int))) (i : Nat) : (Unit) → X_laws_eqLockFaultS_l0
  | _ => ((i : Int), y1, y2)

def pr_laws_eqLockFaultS_l0 : X_laws_eqLockFaultS_l0 → Unit
  | (_, _, _) => ()

theorem w_laws_eqLockFaultS_l0 (y1 : List (Int × (Int × Int))) (y2 : List (Int × (Int × Int)))  (hn : y1.length ≤ 9223372036854775807) (he : y2.length = y1.length) :
    lp_laws_eqLockFaultS_l0.fin ((0 : Int), y1, y2) = true ∧ lp_laws_eqLockFaultS_l0.res ((0 : Int), y1, y2) = ((walkL (f_laws_eqLockFaultS_l0 y1 y2) 1 (List.range y1.length) 0 ()).1, (st_laws_eqLockFaultS_l0 y1 y2) (walkL (f_laws_eqLockFaultS_l0 y1 y2) 1 (List.range y1.length) 0 ()).2.1 (walkL (f_laws_eqLockFaultS_l0 y1 y2) 1 (List.range y1.length) 0 ()).2.2) := by
  have key := lp_laws_eqLockFaultS_l0.along (st_laws_eqLockFaultS_l0 y1 y2) pr_laws_eqLockFaultS_l0 (f_laws_eqLockFaultS_l0 y1 y2) 1 (fun _ _ => True) (List.range y1.length) () (by trivial) (by simp only [lp_laws_eqLockFaultS_l0, st_laws_eqLockFaultS_l0, List.length_range]; omega) (fun i b a hb hI => ?_) (fun a hI => ?_)
  · exact key
  · obtain ⟨⟩ := a
    obtain ⟨rfl, hlt⟩ := range_get hb
    have hw : IntKind.i64.wrap ((b : Int) + 1) = ((b + 1 : Nat) : Int) := by rw [wrap_i64 (by omega) (by omega)]; omega
    have hdec : ltI (b : Int) (y1.length : Int) = true := ltI_t (by omega)
    have hnn : leI (0 : Int) (b : Int) = true := leI_t (by omega)
    have hltd : ltN b y1.length = true := ltN_t (by omega)
    refine ⟨?_, ?_, ?_, ?_⟩
    · simp [laws_eqLockFaultS_l0_a0, laws_eqLockFaultS_l0_a1, laws_eqLockFaultS_l0_0, laws_eqLockFaultS_l0_1, laws_eqLockFaultS_l0_2, laws_eqLockFaultS_l0_3, laws_eqLockFaultS_l0_4, laws_eqLockFaultS_l0_5, laws_eqLockFaultS_l0_6, lt_laws_eqLockFaultS_l0, lp_laws_eqLockFaultS_l0, LT.nds, allT, st_laws_eqLockFaultS_l0, hdec, hnn, hltd, he]
    · simp [laws_eqLockFaultS_l0_a0, laws_eqLockFaultS_l0_a1, laws_eqLockFaultS_l0_0, laws_eqLockFaultS_l0_1, laws_eqLockFaultS_l0_2, laws_eqLockFaultS_l0_3, laws_eqLockFaultS_l0_4, laws_eqLockFaultS_l0_5, laws_eqLockFaultS_l0_6, lt_laws_eqLockFaultS_l0, lp_laws_eqLockFaultS_l0, LT.each, st_laws_eqLockFaultS_l0, pr_laws_eqLockFaultS_l0, hw, he]
    · simp only [laws_eqLockFaultS_l0_a0, laws_eqLockFaultS_l0_a1, laws_eqLockFaultS_l0_0, laws_eqLockFaultS_l0_1, laws_eqLockFaultS_l0_2, laws_eqLockFaultS_l0_3, laws_eqLockFaultS_l0_4, laws_eqLockFaultS_l0_5, laws_eqLockFaultS_l0_6, lt_laws_eqLockFaultS_l0, lp_laws_eqLockFaultS_l0, LT.fn, st_laws_eqLockFaultS_l0, pr_laws_eqLockFaultS_l0, f_laws_eqLockFaultS_l0, Int.toNat_natCast, hdec, cond_true]
    · exact fun _ _ => trivial
  · obtain ⟨⟩ := a
    simp [laws_eqLockFaultS_l0_a0, laws_eqLockFaultS_l0_a1, laws_eqLockFaultS_l0_0, laws_eqLockFaultS_l0_1, laws_eqLockFaultS_l0_2, laws_eqLockFaultS_l0_3, laws_eqLockFaultS_l0_4, laws_eqLockFaultS_l0_5, laws_eqLockFaultS_l0_6, lt_laws_eqLockFaultS_l0, lp_laws_eqLockFaultS_l0, LT.out, st_laws_eqLockFaultS_l0, List.length_range]

theorem toLF_ok (xs : List (Int × Int × Int)) (hn : leN xs.length 1048576 = true) : laws_toLockFaultS_0 xs = xs ∧ laws_toLockFaultS_1 xs = true := by
  have hn := leN_iff.1 hn
  have hr : (List.replicate (Int.toNat (xs.length : Int)) ((0 : Int), (0 : Int), (0 : Int))).length = xs.length := by simp
  obtain ⟨w1, w2⟩ := w_laws_toLockFaultS_l0 xs (List.replicate (Int.toNat (xs.length : Int)) ((0 : Int), (0 : Int), (0 : Int))) (by omega) hr
  have hc := walk_copy (xs := xs) (d := ((0 : Int), (0 : Int), (0 : Int))) (g := fun x => x) (f := f_laws_toLockFaultS_l0 xs) (e := 0) (fun b a => rfl) hr
  rw [hc] at w2
  refine ⟨?_, ?_⟩
  · simp only [laws_toLockFaultS_a0, laws_toLockFaultS_0, laws_toLockFaultS_1, w2, st_laws_toLockFaultS_l0]; simp
  · simp only [laws_toLockFaultS_a0, laws_toLockFaultS_0, laws_toLockFaultS_1, w1, allT]; simp; omega

def N_laws_toLockFaultS : List SV → List Entry → Option Out
  | [.one ⟨false, [.ref 0]⟩], [.row false 84 (.pair (.int .i64) (.pair (.int .i64) (.int .i64))) x0] => some ⟨(.one ⟨false, [(.ref 1)]⟩), [(.row false 84 (CTy.pair (CTy.int IntKind.i64) (CTy.pair (CTy.int IntKind.i64) (CTy.int IntKind.i64))) x0)], [(.row true 82 (CTy.pair (CTy.int IntKind.i64) (CTy.pair (CTy.int IntKind.i64) (CTy.int IntKind.i64))) (x0))], [leN x0.length 1048576]⟩
  | _, _ => none

def n_laws_toLockFaultS : PF Tryz.prog := PF.alt p_laws_toLockFaultS N_laws_toLockFaultS (by
  intro args es o h hnd; unfold N_laws_toLockFaultS at h; split at h
  · rename_i x0
    cases h
    have hnd := nd_fst hnd
    have hh := toLF_ok x0 hnd
    obtain ⟨e0, en⟩ := hh
    exact altok rfl (nd_one en) rfl rfl (by simp only [e0] <;> rfl)
  · cases h)

theorem eqLF_ok (xs ys : List (Int × Int × Int)) (hn : leN xs.length 9223372036854775807 = true) : laws_eqLockFaultS_0 xs ys = eqFls xs ys ∧ laws_eqLockFaultS_1 xs ys = true := by
  have hn := leN_iff.1 hn
  unfold eqFls
  have h3 : ∀ a b : Int × Int × Int, (!laws_eqLockFault_0 a.1 a.2.1 a.2.2 b.1 b.2.1 b.2.2) = !decide (a = b) := fun a b => by
    obtain ⟨a1, a2, a3⟩ := a; obtain ⟨b1, b2, b3⟩ := b
    simp only [laws_eqLockFault_0, Prod.mk.injEq]
    by_cases h1 : a1 = b1 <;> by_cases h2 : a2 = b2 <;> by_cases h3 : a3 = b3 <;> simp [h1, h2, h3]
  by_cases hl : ys.length = xs.length
  · obtain ⟨w1, w2⟩ := w_laws_eqLockFaultS_l0 xs ys hn hl
    have ha := any_ne (d := ((0 : Int), (0 : Int), (0 : Int))) hl (P := fun b => !decide (Option.getD xs[b]? (0, 0, 0) = Option.getD ys[b]? (0, 0, 0))) (fun b => rfl)
    rw [walk_stop (P := fun b => !decide (Option.getD xs[b]? (0, 0, 0) = Option.getD ys[b]? (0, 0, 0))) (j := 0) (fun b => by simp only [f_laws_eqLockFaultS_l0, h3]), ha] at w2
    simp only [laws_eqLockFaultS_a0, laws_eqLockFaultS_a1, laws_eqLockFaultS_0, laws_eqLockFaultS_1, w1, w2, allT]
    by_cases he : xs = ys
    · subst he; simp; decide
    · simp [he, hl]
  · have hne : xs ≠ ys := fun h => hl (by rw [h])
    simp [laws_eqLockFaultS_a0, laws_eqLockFaultS_a1, laws_eqLockFaultS_0, laws_eqLockFaultS_1, allT, hne]
    omega

def N_laws_eqLockFaultS : List SV → List Entry → Option Out
  | [.one ⟨false, [.ref 0]⟩, .one ⟨false, [.ref 1]⟩], [.row false 82 (.pair (.int .i64) (.pair (.int .i64) (.int .i64))) x0, .row false 82 (.pair (.int .i64) (.pair (.int .i64) (.int .i64))) x1] => some ⟨(.one ⟨false, [(.val (.bool (eqFls x0 x1)))]⟩), [(.row false 82 (CTy.pair (CTy.int IntKind.i64) (CTy.pair (CTy.int IntKind.i64) (CTy.int IntKind.i64))) x0), (.row false 82 (CTy.pair (CTy.int IntKind.i64) (CTy.pair (CTy.int IntKind.i64) (CTy.int IntKind.i64))) x1)], [], [leN x0.length 9223372036854775807]⟩
  | _, _ => none

def n_laws_eqLockFaultS : PF Tryz.prog := PF.alt p_laws_eqLockFaultS N_laws_eqLockFaultS (by
  intro args es o h hnd; unfold N_laws_eqLockFaultS at h; split at h
  · rename_i x0 x1
    cases h
    have hnd := nd_fst hnd
    have hh := eqLF_ok x0 x1 hnd
    obtain ⟨e0, en⟩ := hh
    exact altok rfl (nd_one en) (by simp only [e0] <;> rfl) rfl rfl
  · cases h)

def f_laws_toTaskS_l0 (y1 : List (Int × Int)) (b : Nat) : (List (Int × Int)) → Nat ⊕ (List (Int × Int))
  | y2 => (.inr ((List.set y2 (b) (Prod.fst ((Option.getD y1[b]? ((0 : Int), (0 : Int)))), Prod.snd ((Option.getD y1[b]? ((0 : Int), (0 : Int))))))))

def st_laws_toTaskS_l0 (y1 : List (Int × Int)) (i : Nat) : (List (Int × Int)) → X_laws_toTaskS_l0
  | y2 => ((i : Int), y1, y2)

def pr_laws_toTaskS_l0 : X_laws_toTaskS_l0 → List (Int × Int)
  | (_, _, y2) => y2

theorem w_laws_toTaskS_l0 (y1 : List (Int × Int)) (y2 : List (Int × Int)) (hn : y1.length ≤ 9223372036854775807) (hl : y2.length = y1.length) :
    lp_laws_toTaskS_l0.fin ((0 : Int), y1, y2) = true ∧ lp_laws_toTaskS_l0.res ((0 : Int), y1, y2) = ((walkL (f_laws_toTaskS_l0 y1) 0 (List.range y1.length) 0 y2).1, (st_laws_toTaskS_l0 y1) (walkL (f_laws_toTaskS_l0 y1) 0 (List.range y1.length) 0 y2).2.1 (walkL (f_laws_toTaskS_l0 y1) 0 (List.range y1.length) 0 y2).2.2) := by
  have key := lp_laws_toTaskS_l0.along (st_laws_toTaskS_l0 y1) pr_laws_toTaskS_l0 (f_laws_toTaskS_l0 y1) 0 (fun _ a => a.length = y1.length) (List.range y1.length) y2 hl (by simp only [lp_laws_toTaskS_l0, st_laws_toTaskS_l0, List.length_range]; omega) (fun i b a hb hI => ?_) (fun a hI => ?_)
  · exact key
  · obtain y2 := a
    obtain ⟨rfl, hlt⟩ := range_get hb
    have hw : IntKind.i64.wrap ((b : Int) + 1) = ((b + 1 : Nat) : Int) := by rw [wrap_i64 (by omega) (by omega)]; omega
    have hdec : ltI (b : Int) (y1.length : Int) = true := ltI_t (by omega)
    have hnn : leI (0 : Int) (b : Int) = true := leI_t (by omega)
    have hltd : ltN b y1.length = true := ltN_t (by omega)
    refine ⟨?_, ?_, ?_, ?_⟩
    · simp [laws_toTaskS_l0_a0, laws_toTaskS_l0_0, laws_toTaskS_l0_1, laws_toTaskS_l0_2, laws_toTaskS_l0_3, laws_toTaskS_l0_4, laws_toTaskS_l0_5, laws_toTaskS_l0_6, lt_laws_toTaskS_l0, lp_laws_toTaskS_l0, LT.nds, allT, st_laws_toTaskS_l0, hdec, hnn, hltd, hI]
    · simp [laws_toTaskS_l0_a0, laws_toTaskS_l0_0, laws_toTaskS_l0_1, laws_toTaskS_l0_2, laws_toTaskS_l0_3, laws_toTaskS_l0_4, laws_toTaskS_l0_5, laws_toTaskS_l0_6, lt_laws_toTaskS_l0, lp_laws_toTaskS_l0, LT.each, st_laws_toTaskS_l0, pr_laws_toTaskS_l0, hw, hI]
    · simp only [laws_toTaskS_l0_a0, laws_toTaskS_l0_0, laws_toTaskS_l0_1, laws_toTaskS_l0_2, laws_toTaskS_l0_3, laws_toTaskS_l0_4, laws_toTaskS_l0_5, laws_toTaskS_l0_6, lt_laws_toTaskS_l0, lp_laws_toTaskS_l0, LT.fn, st_laws_toTaskS_l0, pr_laws_toTaskS_l0, f_laws_toTaskS_l0, Int.toNat_natCast, hdec, cond_true]
    · intro a' hf; simp only [f_laws_toTaskS_l0, Sum.inr.injEq] at hf; subst hf; simpa using hI
  · obtain y2 := a
    simp [laws_toTaskS_l0_a0, laws_toTaskS_l0_0, laws_toTaskS_l0_1, laws_toTaskS_l0_2, laws_toTaskS_l0_3, laws_toTaskS_l0_4, laws_toTaskS_l0_5, laws_toTaskS_l0_6, lt_laws_toTaskS_l0, lp_laws_toTaskS_l0, LT.out, st_laws_toTaskS_l0, List.length_range]

def f_laws_eqTaskS_l0 (y1 : List (Int × Int)) (y2 : List (Int × Int)) (b : Nat) : (Unit) → Nat ⊕ (Unit)
  | _ => (bif ((!laws_eqTask_0 (Prod.fst ((Option.getD y1[b]? ((0 : Int), (0 : Int))))) (Prod.snd ((Option.getD y1[b]? ((0 : Int), (0 : Int))))) (Prod.fst ((Option.getD y2[b]? ((0 : Int), (0 : Int))))) (Prod.snd ((Option.getD y2[b]? ((0 : Int), (0 : Int))))))) then (.inl 0) else (.inr ()))

def st_laws_eqTaskS_l0 (y1 : List (Int × Int)) (y2 : List (Int × Int)) (i : Nat) : (Unit) → X_laws_eqTaskS_l0
  | _ => ((i : Int), y1, y2)

def pr_laws_eqTaskS_l0 : X_laws_eqTaskS_l0 → Unit
  | (_, _, _) => ()

theorem w_laws_eqTaskS_l0 (y1 : List (Int × Int)) (y2 : List (Int × Int))  (hn : y1.length ≤ 9223372036854775807) (he : y2.length = y1.length) :
    lp_laws_eqTaskS_l0.fin ((0 : Int), y1, y2) = true ∧ lp_laws_eqTaskS_l0.res ((0 : Int), y1, y2) = ((walkL (f_laws_eqTaskS_l0 y1 y2) 1 (List.range y1.length) 0 ()).1, (st_laws_eqTaskS_l0 y1 y2) (walkL (f_laws_eqTaskS_l0 y1 y2) 1 (List.range y1.length) 0 ()).2.1 (walkL (f_laws_eqTaskS_l0 y1 y2) 1 (List.range y1.length) 0 ()).2.2) := by
  have key := lp_laws_eqTaskS_l0.along (st_laws_eqTaskS_l0 y1 y2) pr_laws_eqTaskS_l0 (f_laws_eqTaskS_l0 y1 y2) 1 (fun _ _ => True) (List.range y1.length) () (by trivial) (by simp only [lp_laws_eqTaskS_l0, st_laws_eqTaskS_l0, List.length_range]; omega) (fun i b a hb hI => ?_) (fun a hI => ?_)
  · exact key
  · obtain ⟨⟩ := a
    obtain ⟨rfl, hlt⟩ := range_get hb
    have hw : IntKind.i64.wrap ((b : Int) + 1) = ((b + 1 : Nat) : Int) := by rw [wrap_i64 (by omega) (by omega)]; omega
    have hdec : ltI (b : Int) (y1.length : Int) = true := ltI_t (by omega)
    have hnn : leI (0 : Int) (b : Int) = true := leI_t (by omega)
    have hltd : ltN b y1.length = true := ltN_t (by omega)
    refine ⟨?_, ?_, ?_, ?_⟩
    · simp [laws_eqTaskS_l0_a0, laws_eqTaskS_l0_a1, laws_eqTaskS_l0_0, laws_eqTaskS_l0_1, laws_eqTaskS_l0_2, laws_eqTaskS_l0_3, laws_eqTaskS_l0_4, laws_eqTaskS_l0_5, laws_eqTaskS_l0_6, lt_laws_eqTaskS_l0, lp_laws_eqTaskS_l0, LT.nds, allT, st_laws_eqTaskS_l0, hdec, hnn, hltd, he]
    · simp [laws_eqTaskS_l0_a0, laws_eqTaskS_l0_a1, laws_eqTaskS_l0_0, laws_eqTaskS_l0_1, laws_eqTaskS_l0_2, laws_eqTaskS_l0_3, laws_eqTaskS_l0_4, laws_eqTaskS_l0_5, laws_eqTaskS_l0_6, lt_laws_eqTaskS_l0, lp_laws_eqTaskS_l0, LT.each, st_laws_eqTaskS_l0, pr_laws_eqTaskS_l0, hw, he]
    · simp only [laws_eqTaskS_l0_a0, laws_eqTaskS_l0_a1, laws_eqTaskS_l0_0, laws_eqTaskS_l0_1, laws_eqTaskS_l0_2, laws_eqTaskS_l0_3, laws_eqTaskS_l0_4, laws_eqTaskS_l0_5, laws_eqTaskS_l0_6, lt_laws_eqTaskS_l0, lp_laws_eqTaskS_l0, LT.fn, st_laws_eqTaskS_l0, pr_laws_eqTaskS_l0, f_laws_eqTaskS_l0, Int.toNat_natCast, hdec, cond_true]
    · exact fun _ _ => trivial
  · obtain ⟨⟩ := a
    simp [laws_eqTaskS_l0_a0, laws_eqTaskS_l0_a1, laws_eqTaskS_l0_0, laws_eqTaskS_l0_1, laws_eqTaskS_l0_2, laws_eqTaskS_l0_3, laws_eqTaskS_l0_4, laws_eqTaskS_l0_5, laws_eqTaskS_l0_6, lt_laws_eqTaskS_l0, lp_laws_eqTaskS_l0, LT.out, st_laws_eqTaskS_l0, List.length_range]

theorem toTa_ok (xs : List (Int × Int)) (hn : leN xs.length 1048576 = true) : laws_toTaskS_0 xs = xs ∧ laws_toTaskS_1 xs = true := by
  have hn := leN_iff.1 hn
  have hr : (List.replicate (Int.toNat (xs.length : Int)) ((0 : Int), (0 : Int))).length = xs.length := by simp
  obtain ⟨w1, w2⟩ := w_laws_toTaskS_l0 xs (List.replicate (Int.toNat (xs.length : Int)) ((0 : Int), (0 : Int))) (by omega) hr
  have hc := walk_copy (xs := xs) (d := ((0 : Int), (0 : Int))) (g := fun x => x) (f := f_laws_toTaskS_l0 xs) (e := 0) (fun b a => rfl) hr
  rw [hc] at w2
  refine ⟨?_, ?_⟩
  · simp only [laws_toTaskS_a0, laws_toTaskS_0, laws_toTaskS_1, w2, st_laws_toTaskS_l0]; simp
  · simp only [laws_toTaskS_a0, laws_toTaskS_0, laws_toTaskS_1, w1, allT]; simp; omega

def N_laws_toTaskS : List SV → List Entry → Option Out
  | [.one ⟨false, [.ref 0]⟩], [.row false 88 (.pair (.int .i64) (.int .i64)) x0] => some ⟨(.one ⟨false, [(.ref 1)]⟩), [(.row false 88 (CTy.pair (CTy.int IntKind.i64) (CTy.int IntKind.i64)) x0)], [(.row true 86 (CTy.pair (CTy.int IntKind.i64) (CTy.int IntKind.i64)) (x0))], [leN x0.length 1048576]⟩
  | _, _ => none

def n_laws_toTaskS : PF Tryz.prog := PF.alt p_laws_toTaskS N_laws_toTaskS (by
  intro args es o h hnd; unfold N_laws_toTaskS at h; split at h
  · rename_i x0
    cases h
    have hnd := nd_fst hnd
    have hh := toTa_ok x0 hnd
    obtain ⟨e0, en⟩ := hh
    exact altok rfl (nd_one en) rfl rfl (by simp only [e0] <;> rfl)
  · cases h)

theorem eqTa_ok (xs ys : List (Int × Int)) (hn : leN xs.length 9223372036854775807 = true) : laws_eqTaskS_0 xs ys = eqPr xs ys ∧ laws_eqTaskS_1 xs ys = true := by
  have hn := leN_iff.1 hn
  unfold eqPr
  have h3 : ∀ a b : Int × Int, (!laws_eqTask_0 a.1 a.2 b.1 b.2) = !decide (a = b) := fun a b => by
    obtain ⟨a1, a2⟩ := a; obtain ⟨b1, b2⟩ := b
    simp only [laws_eqTask_0, Prod.mk.injEq]
    by_cases h1 : a1 = b1 <;> by_cases h2 : a2 = b2 <;> simp [h1, h2]
  by_cases hl : ys.length = xs.length
  · obtain ⟨w1, w2⟩ := w_laws_eqTaskS_l0 xs ys hn hl
    have ha := any_ne (d := ((0 : Int), (0 : Int))) hl (P := fun b => !decide (Option.getD xs[b]? (0, 0) = Option.getD ys[b]? (0, 0))) (fun b => rfl)
    rw [walk_stop (P := fun b => !decide (Option.getD xs[b]? (0, 0) = Option.getD ys[b]? (0, 0))) (j := 0) (fun b => by simp only [f_laws_eqTaskS_l0, h3]), ha] at w2
    simp only [laws_eqTaskS_a0, laws_eqTaskS_a1, laws_eqTaskS_0, laws_eqTaskS_1, w1, w2, allT]
    by_cases he : xs = ys
    · subst he; simp; decide
    · simp [he, hl]
  · have hne : xs ≠ ys := fun h => hl (by rw [h])
    simp [laws_eqTaskS_a0, laws_eqTaskS_a1, laws_eqTaskS_0, laws_eqTaskS_1, allT, hne]
    omega

def N_laws_eqTaskS : List SV → List Entry → Option Out
  | [.one ⟨false, [.ref 0]⟩, .one ⟨false, [.ref 1]⟩], [.row false 86 (.pair (.int .i64) (.int .i64)) x0, .row false 86 (.pair (.int .i64) (.int .i64)) x1] => some ⟨(.one ⟨false, [(.val (.bool (eqPr x0 x1)))]⟩), [(.row false 86 (CTy.pair (CTy.int IntKind.i64) (CTy.int IntKind.i64)) x0), (.row false 86 (CTy.pair (CTy.int IntKind.i64) (CTy.int IntKind.i64)) x1)], [], [leN x0.length 9223372036854775807]⟩
  | _, _ => none

def n_laws_eqTaskS : PF Tryz.prog := PF.alt p_laws_eqTaskS N_laws_eqTaskS (by
  intro args es o h hnd; unfold N_laws_eqTaskS at h; split at h
  · rename_i x0 x1
    cases h
    have hnd := nd_fst hnd
    have hh := eqTa_ok x0 x1 hnd
    obtain ⟨e0, en⟩ := hh
    exact altok rfl (nd_one en) (by simp only [e0] <;> rfl) rfl rfl
  · cases h)

def f_laws_toLockS_l0 (y1 : List (Int × Int)) (b : Nat) : (List (Int × Int)) → Nat ⊕ (List (Int × Int))
  | y2 => (.inr ((List.set y2 (b) (Prod.fst ((Option.getD y1[b]? ((0 : Int), (0 : Int)))), Prod.snd ((Option.getD y1[b]? ((0 : Int), (0 : Int))))))))

def st_laws_toLockS_l0 (y1 : List (Int × Int)) (i : Nat) : (List (Int × Int)) → X_laws_toLockS_l0
  | y2 => ((i : Int), y1, y2)

def pr_laws_toLockS_l0 : X_laws_toLockS_l0 → List (Int × Int)
  | (_, _, y2) => y2

theorem w_laws_toLockS_l0 (y1 : List (Int × Int)) (y2 : List (Int × Int)) (hn : y1.length ≤ 9223372036854775807) (hl : y2.length = y1.length) :
    lp_laws_toLockS_l0.fin ((0 : Int), y1, y2) = true ∧ lp_laws_toLockS_l0.res ((0 : Int), y1, y2) = ((walkL (f_laws_toLockS_l0 y1) 0 (List.range y1.length) 0 y2).1, (st_laws_toLockS_l0 y1) (walkL (f_laws_toLockS_l0 y1) 0 (List.range y1.length) 0 y2).2.1 (walkL (f_laws_toLockS_l0 y1) 0 (List.range y1.length) 0 y2).2.2) := by
  have key := lp_laws_toLockS_l0.along (st_laws_toLockS_l0 y1) pr_laws_toLockS_l0 (f_laws_toLockS_l0 y1) 0 (fun _ a => a.length = y1.length) (List.range y1.length) y2 hl (by simp only [lp_laws_toLockS_l0, st_laws_toLockS_l0, List.length_range]; omega) (fun i b a hb hI => ?_) (fun a hI => ?_)
  · exact key
  · obtain y2 := a
    obtain ⟨rfl, hlt⟩ := range_get hb
    have hw : IntKind.i64.wrap ((b : Int) + 1) = ((b + 1 : Nat) : Int) := by rw [wrap_i64 (by omega) (by omega)]; omega
    have hdec : ltI (b : Int) (y1.length : Int) = true := ltI_t (by omega)
    have hnn : leI (0 : Int) (b : Int) = true := leI_t (by omega)
    have hltd : ltN b y1.length = true := ltN_t (by omega)
    refine ⟨?_, ?_, ?_, ?_⟩
    · simp [laws_toLockS_l0_a0, laws_toLockS_l0_0, laws_toLockS_l0_1, laws_toLockS_l0_2, laws_toLockS_l0_3, laws_toLockS_l0_4, laws_toLockS_l0_5, laws_toLockS_l0_6, lt_laws_toLockS_l0, lp_laws_toLockS_l0, LT.nds, allT, st_laws_toLockS_l0, hdec, hnn, hltd, hI]
    · simp [laws_toLockS_l0_a0, laws_toLockS_l0_0, laws_toLockS_l0_1, laws_toLockS_l0_2, laws_toLockS_l0_3, laws_toLockS_l0_4, laws_toLockS_l0_5, laws_toLockS_l0_6, lt_laws_toLockS_l0, lp_laws_toLockS_l0, LT.each, st_laws_toLockS_l0, pr_laws_toLockS_l0, hw, hI]
    · simp only [laws_toLockS_l0_a0, laws_toLockS_l0_0, laws_toLockS_l0_1, laws_toLockS_l0_2, laws_toLockS_l0_3, laws_toLockS_l0_4, laws_toLockS_l0_5, laws_toLockS_l0_6, lt_laws_toLockS_l0, lp_laws_toLockS_l0, LT.fn, st_laws_toLockS_l0, pr_laws_toLockS_l0, f_laws_toLockS_l0, Int.toNat_natCast, hdec, cond_true]
    · intro a' hf; simp only [f_laws_toLockS_l0, Sum.inr.injEq] at hf; subst hf; simpa using hI
  · obtain y2 := a
    simp [laws_toLockS_l0_a0, laws_toLockS_l0_0, laws_toLockS_l0_1, laws_toLockS_l0_2, laws_toLockS_l0_3, laws_toLockS_l0_4, laws_toLockS_l0_5, laws_toLockS_l0_6, lt_laws_toLockS_l0, lp_laws_toLockS_l0, LT.out, st_laws_toLockS_l0, List.length_range]

def f_laws_eqLockS_l0 (y1 : List (Int × Int)) (y2 : List (Int × Int)) (b : Nat) : (Unit) → Nat ⊕ (Unit)
  | _ => (bif ((!laws_eqLock_0 (Prod.fst ((Option.getD y1[b]? ((0 : Int), (0 : Int))))) (Prod.snd ((Option.getD y1[b]? ((0 : Int), (0 : Int))))) (Prod.fst ((Option.getD y2[b]? ((0 : Int), (0 : Int))))) (Prod.snd ((Option.getD y2[b]? ((0 : Int), (0 : Int))))))) then (.inl 0) else (.inr ()))

def st_laws_eqLockS_l0 (y1 : List (Int × Int)) (y2 : List (Int × Int)) (i : Nat) : (Unit) → X_laws_eqLockS_l0
  | _ => ((i : Int), y1, y2)

def pr_laws_eqLockS_l0 : X_laws_eqLockS_l0 → Unit
  | (_, _, _) => ()

theorem w_laws_eqLockS_l0 (y1 : List (Int × Int)) (y2 : List (Int × Int))  (hn : y1.length ≤ 9223372036854775807) (he : y2.length = y1.length) :
    lp_laws_eqLockS_l0.fin ((0 : Int), y1, y2) = true ∧ lp_laws_eqLockS_l0.res ((0 : Int), y1, y2) = ((walkL (f_laws_eqLockS_l0 y1 y2) 1 (List.range y1.length) 0 ()).1, (st_laws_eqLockS_l0 y1 y2) (walkL (f_laws_eqLockS_l0 y1 y2) 1 (List.range y1.length) 0 ()).2.1 (walkL (f_laws_eqLockS_l0 y1 y2) 1 (List.range y1.length) 0 ()).2.2) := by
  have key := lp_laws_eqLockS_l0.along (st_laws_eqLockS_l0 y1 y2) pr_laws_eqLockS_l0 (f_laws_eqLockS_l0 y1 y2) 1 (fun _ _ => True) (List.range y1.length) () (by trivial) (by simp only [lp_laws_eqLockS_l0, st_laws_eqLockS_l0, List.length_range]; omega) (fun i b a hb hI => ?_) (fun a hI => ?_)
  · exact key
  · obtain ⟨⟩ := a
    obtain ⟨rfl, hlt⟩ := range_get hb
    have hw : IntKind.i64.wrap ((b : Int) + 1) = ((b + 1 : Nat) : Int) := by rw [wrap_i64 (by omega) (by omega)]; omega
    have hdec : ltI (b : Int) (y1.length : Int) = true := ltI_t (by omega)
    have hnn : leI (0 : Int) (b : Int) = true := leI_t (by omega)
    have hltd : ltN b y1.length = true := ltN_t (by omega)
    refine ⟨?_, ?_, ?_, ?_⟩
    · simp [laws_eqLockS_l0_a0, laws_eqLockS_l0_a1, laws_eqLockS_l0_0, laws_eqLockS_l0_1, laws_eqLockS_l0_2, laws_eqLockS_l0_3, laws_eqLockS_l0_4, laws_eqLockS_l0_5, laws_eqLockS_l0_6, lt_laws_eqLockS_l0, lp_laws_eqLockS_l0, LT.nds, allT, st_laws_eqLockS_l0, hdec, hnn, hltd, he]
    · simp [laws_eqLockS_l0_a0, laws_eqLockS_l0_a1, laws_eqLockS_l0_0, laws_eqLockS_l0_1, laws_eqLockS_l0_2, laws_eqLockS_l0_3, laws_eqLockS_l0_4, laws_eqLockS_l0_5, laws_eqLockS_l0_6, lt_laws_eqLockS_l0, lp_laws_eqLockS_l0, LT.each, st_laws_eqLockS_l0, pr_laws_eqLockS_l0, hw, he]
    · simp only [laws_eqLockS_l0_a0, laws_eqLockS_l0_a1, laws_eqLockS_l0_0, laws_eqLockS_l0_1, laws_eqLockS_l0_2, laws_eqLockS_l0_3, laws_eqLockS_l0_4, laws_eqLockS_l0_5, laws_eqLockS_l0_6, lt_laws_eqLockS_l0, lp_laws_eqLockS_l0, LT.fn, st_laws_eqLockS_l0, pr_laws_eqLockS_l0, f_laws_eqLockS_l0, Int.toNat_natCast, hdec, cond_true]
    · exact fun _ _ => trivial
  · obtain ⟨⟩ := a
    simp [laws_eqLockS_l0_a0, laws_eqLockS_l0_a1, laws_eqLockS_l0_0, laws_eqLockS_l0_1, laws_eqLockS_l0_2, laws_eqLockS_l0_3, laws_eqLockS_l0_4, laws_eqLockS_l0_5, laws_eqLockS_l0_6, lt_laws_eqLockS_l0, lp_laws_eqLockS_l0, LT.out, st_laws_eqLockS_l0, List.length_range]

theorem toLo_ok (xs : List (Int × Int)) (hn : leN xs.length 1048576 = true) : laws_toLockS_0 xs = xs ∧ laws_toLockS_1 xs = true := by
  have hn := leN_iff.1 hn
  have hr : (List.replicate (Int.toNat (xs.length : Int)) ((0 : Int), (0 : Int))).length = xs.length := by simp
  obtain ⟨w1, w2⟩ := w_laws_toLockS_l0 xs (List.replicate (Int.toNat (xs.length : Int)) ((0 : Int), (0 : Int))) (by omega) hr
  have hc := walk_copy (xs := xs) (d := ((0 : Int), (0 : Int))) (g := fun x => x) (f := f_laws_toLockS_l0 xs) (e := 0) (fun b a => rfl) hr
  rw [hc] at w2
  refine ⟨?_, ?_⟩
  · simp only [laws_toLockS_a0, laws_toLockS_0, laws_toLockS_1, w2, st_laws_toLockS_l0]; simp
  · simp only [laws_toLockS_a0, laws_toLockS_0, laws_toLockS_1, w1, allT]; simp; omega

def N_laws_toLockS : List SV → List Entry → Option Out
  | [.one ⟨false, [.ref 0]⟩], [.row false 92 (.pair (.int .i64) (.int .i64)) x0] => some ⟨(.one ⟨false, [(.ref 1)]⟩), [(.row false 92 (CTy.pair (CTy.int IntKind.i64) (CTy.int IntKind.i64)) x0)], [(.row true 90 (CTy.pair (CTy.int IntKind.i64) (CTy.int IntKind.i64)) (x0))], [leN x0.length 1048576]⟩
  | _, _ => none

def n_laws_toLockS : PF Tryz.prog := PF.alt p_laws_toLockS N_laws_toLockS (by
  intro args es o h hnd; unfold N_laws_toLockS at h; split at h
  · rename_i x0
    cases h
    have hnd := nd_fst hnd
    have hh := toLo_ok x0 hnd
    obtain ⟨e0, en⟩ := hh
    exact altok rfl (nd_one en) rfl rfl (by simp only [e0] <;> rfl)
  · cases h)

theorem eqLo_ok (xs ys : List (Int × Int)) (hn : leN xs.length 9223372036854775807 = true) : laws_eqLockS_0 xs ys = eqPr xs ys ∧ laws_eqLockS_1 xs ys = true := by
  have hn := leN_iff.1 hn
  unfold eqPr
  have h3 : ∀ a b : Int × Int, (!laws_eqLock_0 a.1 a.2 b.1 b.2) = !decide (a = b) := fun a b => by
    obtain ⟨a1, a2⟩ := a; obtain ⟨b1, b2⟩ := b
    simp only [laws_eqLock_0, Prod.mk.injEq]
    by_cases h1 : a1 = b1 <;> by_cases h2 : a2 = b2 <;> simp [h1, h2]
  by_cases hl : ys.length = xs.length
  · obtain ⟨w1, w2⟩ := w_laws_eqLockS_l0 xs ys hn hl
    have ha := any_ne (d := ((0 : Int), (0 : Int))) hl (P := fun b => !decide (Option.getD xs[b]? (0, 0) = Option.getD ys[b]? (0, 0))) (fun b => rfl)
    rw [walk_stop (P := fun b => !decide (Option.getD xs[b]? (0, 0) = Option.getD ys[b]? (0, 0))) (j := 0) (fun b => by simp only [f_laws_eqLockS_l0, h3]), ha] at w2
    simp only [laws_eqLockS_a0, laws_eqLockS_a1, laws_eqLockS_0, laws_eqLockS_1, w1, w2, allT]
    by_cases he : xs = ys
    · subst he; simp; decide
    · simp [he, hl]
  · have hne : xs ≠ ys := fun h => hl (by rw [h])
    simp [laws_eqLockS_a0, laws_eqLockS_a1, laws_eqLockS_0, laws_eqLockS_1, allT, hne]
    omega

def N_laws_eqLockS : List SV → List Entry → Option Out
  | [.one ⟨false, [.ref 0]⟩, .one ⟨false, [.ref 1]⟩], [.row false 90 (.pair (.int .i64) (.int .i64)) x0, .row false 90 (.pair (.int .i64) (.int .i64)) x1] => some ⟨(.one ⟨false, [(.val (.bool (eqPr x0 x1)))]⟩), [(.row false 90 (CTy.pair (CTy.int IntKind.i64) (CTy.int IntKind.i64)) x0), (.row false 90 (CTy.pair (CTy.int IntKind.i64) (CTy.int IntKind.i64)) x1)], [], [leN x0.length 9223372036854775807]⟩
  | _, _ => none

def n_laws_eqLockS : PF Tryz.prog := PF.alt p_laws_eqLockS N_laws_eqLockS (by
  intro args es o h hnd; unfold N_laws_eqLockS at h; split at h
  · rename_i x0 x1
    cases h
    have hnd := nd_fst hnd
    have hh := eqLo_ok x0 x1 hnd
    obtain ⟨e0, en⟩ := hh
    exact altok rfl (nd_one en) (by simp only [e0] <;> rfl) rfl rfl
  · cases h)

/-! ### Lists of lists -/

def ssOk (m : Nat) (rs : List (List Int)) : Bool := leN rs.length m && rs.all fun x => leN x.length m
def eqSS (xs ys : List (List Int)) : Bool := decide (xs = ys)

theorem ss_iff {m : Nat} {rs : List (List Int)} : ssOk m rs = true ↔ rs.length ≤ m ∧ ∀ x ∈ rs, x.length ≤ m := by
  simp only [ssOk, Bool.and_eq_true, leN_iff, List.all_eq_true]

def f_laws_toInt64SS_l0 (y1 : List (List Int)) (b : Nat) : (List (List Int)) → Nat ⊕ (List (List Int))
  | y2 => (.inr ((List.set y2 (b) ((Option.getD y1[b]? (dflt (CTy.sl (2 : TypeId) (CTy.int IntKind.i64))))))))

def st_laws_toInt64SS_l0 (y1 : List (List Int)) (i : Nat) : (List (List Int)) → X_laws_toInt64SS_l0
  | y2 => ((i : Int), y1, y2)

def pr_laws_toInt64SS_l0 : X_laws_toInt64SS_l0 → List (List Int)
  | (_, _, y2) => y2

theorem w_laws_toInt64SS_l0 (y1 : List (List Int)) (y2 : List (List Int)) (hn : y1.length ≤ 9223372036854775807) (hl : y2.length = y1.length) (hA : ∀ x ∈ y1, x.length ≤ 1048576) :
    lp_laws_toInt64SS_l0.fin ((0 : Int), y1, y2) = true ∧ lp_laws_toInt64SS_l0.res ((0 : Int), y1, y2) = ((walkL (f_laws_toInt64SS_l0 y1) 0 (List.range y1.length) 0 y2).1, (st_laws_toInt64SS_l0 y1) (walkL (f_laws_toInt64SS_l0 y1) 0 (List.range y1.length) 0 y2).2.1 (walkL (f_laws_toInt64SS_l0 y1) 0 (List.range y1.length) 0 y2).2.2) := by
  have key := lp_laws_toInt64SS_l0.along (st_laws_toInt64SS_l0 y1) pr_laws_toInt64SS_l0 (f_laws_toInt64SS_l0 y1) 0 (fun _ a => a.length = y1.length) (List.range y1.length) y2 hl (by simp only [lp_laws_toInt64SS_l0, st_laws_toInt64SS_l0, List.length_range]; omega) (fun i b a hb hI => ?_) (fun a hI => ?_)
  · exact key
  · obtain y2 := a
    obtain ⟨rfl, hlt⟩ := range_get hb
    have hw : IntKind.i64.wrap ((b : Int) + 1) = ((b + 1 : Nat) : Int) := by rw [wrap_i64 (by omega) (by omega)]; omega
    have hdec : ltI (b : Int) (y1.length : Int) = true := ltI_t (by omega)
    have hnn : leI (0 : Int) (b : Int) = true := leI_t (by omega)
    have hltd : ltN b y1.length = true := ltN_t (by omega)
    refine ⟨?_, ?_, ?_, ?_⟩
    · have hI2 : a.length = y1.length := hI
      have h6 : leN (laws_toInt64SS_l0_a0 (b : Int) y1).length 1048576 = true := leN_t (by
        simp only [laws_toInt64SS_l0_a0, Int.toNat_natCast]
        cases hq : y1[b]? with
        | none => exact Nat.zero_le _
        | some x => exact hA x (List.mem_of_getElem? hq))
      simp [laws_toInt64SS_l0_0, laws_toInt64SS_l0_1, laws_toInt64SS_l0_2, laws_toInt64SS_l0_3, laws_toInt64SS_l0_4, laws_toInt64SS_l0_5, lt_laws_toInt64SS_l0, lp_laws_toInt64SS_l0, LT.nds, allT, st_laws_toInt64SS_l0, hdec, hnn, hltd, hI2, h6]
    · simp [laws_toInt64SS_l0_a0, laws_toInt64SS_l0_0, laws_toInt64SS_l0_1, laws_toInt64SS_l0_2, laws_toInt64SS_l0_3, laws_toInt64SS_l0_4, laws_toInt64SS_l0_5, laws_toInt64SS_l0_6, laws_toInt64SS_l0_7, lt_laws_toInt64SS_l0, lp_laws_toInt64SS_l0, LT.each, st_laws_toInt64SS_l0, pr_laws_toInt64SS_l0, hw]
    · simp only [laws_toInt64SS_l0_a0, laws_toInt64SS_l0_0, laws_toInt64SS_l0_1, laws_toInt64SS_l0_2, laws_toInt64SS_l0_3, laws_toInt64SS_l0_4, laws_toInt64SS_l0_5, laws_toInt64SS_l0_6, laws_toInt64SS_l0_7, lt_laws_toInt64SS_l0, lp_laws_toInt64SS_l0, LT.fn, st_laws_toInt64SS_l0, pr_laws_toInt64SS_l0, f_laws_toInt64SS_l0, Int.toNat_natCast, hdec, cond_true]
    · intro a' hf; simp only [f_laws_toInt64SS_l0, Sum.inr.injEq] at hf; subst hf; simpa using hI
  · obtain y2 := a
    simp [laws_toInt64SS_l0_a0, laws_toInt64SS_l0_0, laws_toInt64SS_l0_1, laws_toInt64SS_l0_2, laws_toInt64SS_l0_3, laws_toInt64SS_l0_4, laws_toInt64SS_l0_5, laws_toInt64SS_l0_6, laws_toInt64SS_l0_7, lt_laws_toInt64SS_l0, lp_laws_toInt64SS_l0, LT.out, st_laws_toInt64SS_l0, List.length_range]

theorem toSS_ok (xs : List (List Int)) (h : ssOk 1048576 xs = true) : laws_toInt64SS_0 xs = xs ∧ laws_toInt64SS_1 xs = true := by
  obtain ⟨hn, hA⟩ := ss_iff.1 h
  have hr : (List.replicate (Int.toNat (xs.length : Int)) ([] : List Int)).length = xs.length := by simp
  obtain ⟨w1, w2⟩ := w_laws_toInt64SS_l0 xs (List.replicate (Int.toNat (xs.length : Int)) []) (by omega) hr hA
  have hc := walk_copy (xs := xs) (d := ([] : List Int)) (g := fun x => x) (f := f_laws_toInt64SS_l0 xs) (e := 0) (fun b a => rfl) hr
  rw [hc] at w2
  refine ⟨?_, ?_⟩
  · simp only [laws_toInt64SS_0, laws_toInt64SS_a0, w2, st_laws_toInt64SS_l0]; simp
  · simp only [laws_toInt64SS_1, laws_toInt64SS_a0, w1, allT]; simp; omega

def N_laws_toInt64SS : List SV → List Entry → Option Out
  | [.one ⟨false, [.ref 0]⟩], [.row false 22 (.sl 2 (.int .i64)) x0] => some ⟨(.one ⟨false, [(.ref 1)]⟩), [(.row false 22 (CTy.sl (2 : TypeId) (CTy.int IntKind.i64)) x0)], [(.row true 22 (CTy.sl (2 : Nat) (CTy.int IntKind.i64)) (x0))], [ssOk 1048576 x0]⟩
  | _, _ => none

def n_laws_toInt64SS : PF Tryz.prog := PF.alt p_laws_toInt64SS N_laws_toInt64SS (by
  intro args es o h hnd; unfold N_laws_toInt64SS at h; split at h
  · rename_i x0
    cases h
    have hnd := nd_fst hnd
    have hh := toSS_ok x0 hnd
    obtain ⟨e0, en⟩ := hh
    exact altok rfl (nd_one en) rfl rfl (by simp only [e0] <;> rfl)
  · cases h)

def f_laws_eqInt64SS_l0 (y1 : List (List Int)) (y2 : List (List Int)) (b : Nat) : (Unit) → Nat ⊕ (Unit)
  | _ => (bif ((!eqL ((Option.getD y1[b]? (dflt (CTy.sl (2 : TypeId) (CTy.int IntKind.i64))))) (Option.getD y2[b]? (dflt (CTy.sl (2 : TypeId) (CTy.int IntKind.i64)))))) then (.inl 0) else (.inr ()))

def st_laws_eqInt64SS_l0 (y1 : List (List Int)) (y2 : List (List Int)) (i : Nat) : (Unit) → X_laws_eqInt64SS_l0
  | _ => ((i : Int), y1, y2)

def pr_laws_eqInt64SS_l0 : X_laws_eqInt64SS_l0 → Unit
  | (_, _, _) => ()

theorem w_laws_eqInt64SS_l0 (y1 : List (List Int)) (y2 : List (List Int))  (hn : y1.length ≤ 9223372036854775807) (he : y2.length = y1.length) (hA : ∀ x ∈ y1, x.length ≤ 9223372036854775807) :
    lp_laws_eqInt64SS_l0.fin ((0 : Int), y1, y2) = true ∧ lp_laws_eqInt64SS_l0.res ((0 : Int), y1, y2) = ((walkL (f_laws_eqInt64SS_l0 y1 y2) 1 (List.range y1.length) 0 ()).1, (st_laws_eqInt64SS_l0 y1 y2) (walkL (f_laws_eqInt64SS_l0 y1 y2) 1 (List.range y1.length) 0 ()).2.1 (walkL (f_laws_eqInt64SS_l0 y1 y2) 1 (List.range y1.length) 0 ()).2.2) := by
  have key := lp_laws_eqInt64SS_l0.along (st_laws_eqInt64SS_l0 y1 y2) pr_laws_eqInt64SS_l0 (f_laws_eqInt64SS_l0 y1 y2) 1 (fun _ _ => True) (List.range y1.length) () (by trivial) (by simp only [lp_laws_eqInt64SS_l0, st_laws_eqInt64SS_l0, List.length_range]; omega) (fun i b a hb hI => ?_) (fun a hI => ?_)
  · exact key
  · obtain ⟨⟩ := a
    obtain ⟨rfl, hlt⟩ := range_get hb
    have hw : IntKind.i64.wrap ((b : Int) + 1) = ((b + 1 : Nat) : Int) := by rw [wrap_i64 (by omega) (by omega)]; omega
    have hdec : ltI (b : Int) (y1.length : Int) = true := ltI_t (by omega)
    have hnn : leI (0 : Int) (b : Int) = true := leI_t (by omega)
    have hltd : ltN b y1.length = true := ltN_t (by omega)
    refine ⟨?_, ?_, ?_, ?_⟩
    · have h6 : leN (laws_eqInt64SS_l0_a0 (b : Int) y1).length 9223372036854775807 = true := leN_t (by
        simp only [laws_eqInt64SS_l0_a0, Int.toNat_natCast]
        cases hq : y1[b]? with
        | none => exact Nat.zero_le _
        | some x => exact hA x (List.mem_of_getElem? hq))
      simp [laws_eqInt64SS_l0_0, laws_eqInt64SS_l0_1, laws_eqInt64SS_l0_2, laws_eqInt64SS_l0_3, laws_eqInt64SS_l0_4, laws_eqInt64SS_l0_5, lt_laws_eqInt64SS_l0, lp_laws_eqInt64SS_l0, LT.nds, allT, st_laws_eqInt64SS_l0, hdec, hnn, hltd, he, h6]
    · simp [laws_eqInt64SS_l0_a0, laws_eqInt64SS_l0_0, laws_eqInt64SS_l0_1, laws_eqInt64SS_l0_2, laws_eqInt64SS_l0_3, laws_eqInt64SS_l0_4, laws_eqInt64SS_l0_5, laws_eqInt64SS_l0_6, laws_eqInt64SS_l0_7, lt_laws_eqInt64SS_l0, lp_laws_eqInt64SS_l0, LT.each, st_laws_eqInt64SS_l0, pr_laws_eqInt64SS_l0, hw]
    · simp only [laws_eqInt64SS_l0_a0, laws_eqInt64SS_l0_0, laws_eqInt64SS_l0_1, laws_eqInt64SS_l0_2, laws_eqInt64SS_l0_3, laws_eqInt64SS_l0_4, laws_eqInt64SS_l0_5, laws_eqInt64SS_l0_6, laws_eqInt64SS_l0_7, lt_laws_eqInt64SS_l0, lp_laws_eqInt64SS_l0, LT.fn, st_laws_eqInt64SS_l0, pr_laws_eqInt64SS_l0, f_laws_eqInt64SS_l0, Int.toNat_natCast, hdec, cond_true]
    · exact fun _ _ => trivial
  · obtain ⟨⟩ := a
    simp [laws_eqInt64SS_l0_a0, laws_eqInt64SS_l0_0, laws_eqInt64SS_l0_1, laws_eqInt64SS_l0_2, laws_eqInt64SS_l0_3, laws_eqInt64SS_l0_4, laws_eqInt64SS_l0_5, laws_eqInt64SS_l0_6, laws_eqInt64SS_l0_7, lt_laws_eqInt64SS_l0, lp_laws_eqInt64SS_l0, LT.out, st_laws_eqInt64SS_l0, List.length_range]

theorem eqSS_ok (xs ys : List (List Int)) (h : ssOk 9223372036854775807 xs = true) : laws_eqInt64SS_0 xs ys = eqSS xs ys ∧ laws_eqInt64SS_1 xs ys = true := by
  obtain ⟨hn, hA⟩ := ss_iff.1 h
  unfold eqSS
  by_cases hl : ys.length = xs.length
  · obtain ⟨w1, w2⟩ := w_laws_eqInt64SS_l0 xs ys hn hl hA
    have ha := any_ne (d := ([] : List Int)) hl (P := fun b => !decide (Option.getD xs[b]? [] = Option.getD ys[b]? [])) (fun b => rfl)
    rw [walk_stop (P := fun b => !decide (Option.getD xs[b]? [] = Option.getD ys[b]? [])) (j := 0) (fun b => rfl), ha] at w2
    simp only [laws_eqInt64SS_0, laws_eqInt64SS_1, laws_eqInt64SS_a0, laws_eqInt64SS_a1, w1, w2, allT]
    by_cases he : xs = ys
    · subst he; simp; decide
    · simp [he, hl]
  · have hne : xs ≠ ys := fun h => hl (by rw [h])
    simp [laws_eqInt64SS_0, laws_eqInt64SS_1, laws_eqInt64SS_a0, allT, hne]
    omega

def N_laws_eqInt64SS : List SV → List Entry → Option Out
  | [.one ⟨false, [.ref 0]⟩, .one ⟨false, [.ref 1]⟩], [.row false 22 (.sl 2 (.int .i64)) x0, .row false 22 (.sl 2 (.int .i64)) x1] => some ⟨(.one ⟨false, [(.val (.bool (eqSS x0 x1)))]⟩), [(.row false 22 (CTy.sl (2 : TypeId) (CTy.int IntKind.i64)) x0), (.row false 22 (CTy.sl (2 : TypeId) (CTy.int IntKind.i64)) x1)], [], [ssOk 9223372036854775807 x0]⟩
  | _, _ => none

def n_laws_eqInt64SS : PF Tryz.prog := PF.alt p_laws_eqInt64SS N_laws_eqInt64SS (by
  intro args es o h hnd; unfold N_laws_eqInt64SS at h; split at h
  · rename_i x0 x1
    cases h
    have hnd := nd_fst hnd
    have hh := eqSS_ok x0 x1 hnd
    obtain ⟨e0, en⟩ := hh
    exact altok rfl (nd_one en) (by simp only [e0] <;> rfl) rfl rfl
  · cases h)

def szL : Int → List (List Int) → Option Int
  | k, [] => some k
  | k, x :: r => bif ltI (szV k x) 0 then none else szL (szV k x) r
def szSS (k : Int) (rs : List (List Int)) : Int := bif ltI (k - (rs.length : Int)) 0 then -1 else (szL (k - (rs.length : Int)) rs).getD (-1)

theorem szV_le {k : Int} {x : List Int} (h : ltI (szV k x) 0 = false) : (x.length : Int) ≤ k ∧ szV k x = k - x.length := by
  unfold szV at h ⊢
  cases hq : ltI (k - (x.length : Int)) 0 with
  | true => rw [hq] at h; cases h
  | false => have := ltI_not.1 hq; exact ⟨by omega, rfl⟩

def f_laws_szInt64SS_l0  (b : List Int) : (Int) → Nat ⊕ (Int)
  | y1 => (bif ((ltI (szV y1 ((b))) (0 : Int))) then (.inl 0) else (.inr ((szV y1 ((b))))))

def st_laws_szInt64SS_l0 (y2 : List (List Int)) (i : Nat) : (Int) → X_laws_szInt64SS_l0
  | y1 => ((i : Int), y1, y2)

def pr_laws_szInt64SS_l0 : X_laws_szInt64SS_l0 → Int
  | (_, y1, _) => y1

theorem w_laws_szInt64SS_l0 (y2 : List (List Int)) (y1 : Int) (hn : y2.length ≤ 9223372036854775807) (hA : ∀ x ∈ y2, x.length ≤ 9223372036854775807) (hk : 0 ≤ y1 ∧ y1 ≤ 1048576) :
    lp_laws_szInt64SS_l0.fin ((0 : Int), y1, y2) = true ∧ lp_laws_szInt64SS_l0.res ((0 : Int), y1, y2) = ((walkL (f_laws_szInt64SS_l0) 1 y2 0 y1).1, (st_laws_szInt64SS_l0 y2) (walkL (f_laws_szInt64SS_l0) 1 y2 0 y1).2.1 (walkL (f_laws_szInt64SS_l0) 1 y2 0 y1).2.2) := by
  have key := lp_laws_szInt64SS_l0.along (st_laws_szInt64SS_l0 y2) pr_laws_szInt64SS_l0 (f_laws_szInt64SS_l0) 1 (fun _ a => 0 ≤ a ∧ a ≤ 1048576) y2 y1 hk (by simp only [lp_laws_szInt64SS_l0, st_laws_szInt64SS_l0]; omega) (fun i b a hb hI => ?_) (fun a hI => ?_)
  · exact key
  · obtain y1 := a
    have hlt := (List.getElem?_eq_some_iff.1 hb).1
    have hget : ∀ d, Option.getD y2[i]? d = b := fun d => by rw [hb]; rfl
    have hw := wrap64 hlt hn
    have hdec : ltI (i : Int) (y2.length : Int) = true := ltI_t (by omega)
    have hnn : leI (0 : Int) (i : Int) = true := leI_t (by omega)
    have hltd : ltN i y2.length = true := ltN_t hlt
    refine ⟨?_, ?_, ?_, ?_⟩
    · have hg2 : laws_szInt64SS_l0_a0 (i : Int) y2 = b := by simp only [laws_szInt64SS_l0_a0, Int.toNat_natCast]; exact hget _
      have h6 : leN b.length 9223372036854775807 = true := leN_t (hA b (List.mem_of_getElem? hb))
      have h7 : leI (-1) a = true := leI_t (by have := hI.1; omega)
      have h8 : leI a 1048576 = true := leI_t hI.2
      simp [laws_szInt64SS_l0_0, laws_szInt64SS_l0_1, laws_szInt64SS_l0_2, laws_szInt64SS_l0_3, lt_laws_szInt64SS_l0, lp_laws_szInt64SS_l0, LT.nds, allT, st_laws_szInt64SS_l0, hdec, hnn, hltd, hg2, h6, h7, h8]
    · simp [laws_szInt64SS_l0_a0, laws_szInt64SS_l0_0, laws_szInt64SS_l0_1, laws_szInt64SS_l0_2, laws_szInt64SS_l0_3, laws_szInt64SS_l0_4, laws_szInt64SS_l0_5, laws_szInt64SS_l0_6, laws_szInt64SS_l0_7, lt_laws_szInt64SS_l0, lp_laws_szInt64SS_l0, LT.each, st_laws_szInt64SS_l0, pr_laws_szInt64SS_l0, hw]
    · have hg2 : laws_szInt64SS_l0_a0 (i : Int) y2 = b := by simp only [laws_szInt64SS_l0_a0, Int.toNat_natCast]; exact hget _
      simp only [laws_szInt64SS_l0_0, laws_szInt64SS_l0_4, laws_szInt64SS_l0_7, lt_laws_szInt64SS_l0, lp_laws_szInt64SS_l0, LT.fn, st_laws_szInt64SS_l0, pr_laws_szInt64SS_l0, f_laws_szInt64SS_l0, Int.toNat_natCast, hdec, hg2, cond_true]
    · intro a' hf; simp only [f_laws_szInt64SS_l0] at hf; cases hz : ltI (szV a b) 0 <;> rw [hz] at hf <;> simp at hf; subst hf; have := szV_le hz; have := hI.1; have := hI.2; omega
  · obtain y1 := a
    simp [laws_szInt64SS_l0_a0, laws_szInt64SS_l0_0, laws_szInt64SS_l0_1, laws_szInt64SS_l0_2, laws_szInt64SS_l0_3, laws_szInt64SS_l0_4, laws_szInt64SS_l0_5, laws_szInt64SS_l0_6, laws_szInt64SS_l0_7, lt_laws_szInt64SS_l0, lp_laws_szInt64SS_l0, LT.out, st_laws_szInt64SS_l0]

theorem walk_sz : ∀ (rs : List (List Int)) (i : Nat) (k : Int), ∃ m, walkL f_laws_szInt64SS_l0 1 rs i k = (match szL k rs with | some v => 1 | none => 0, m, (walkL f_laws_szInt64SS_l0 1 rs i k).2.2) ∧ ∀ v, szL k rs = some v → (walkL f_laws_szInt64SS_l0 1 rs i k).2.2 = v
  | [], i, k => ⟨i, rfl, fun v h => by simp [szL] at h; simp [walkL, h]⟩
  | x :: r, i, k => by
    simp only [walkL, f_laws_szInt64SS_l0, szL]
    cases hz : ltI (szV k x) 0 with
    | true => exact ⟨i, rfl, fun v h => by cases h⟩
    | false => exact walk_sz r (i + 1) (szV k x)

theorem szSS_ok (k : Int) (rs : List (List Int)) (h : (ssOk 9223372036854775807 rs && (leI (-1) k && leI k 1048576)) = true) : laws_szInt64SS_0 k rs = szSS k rs ∧ laws_szInt64SS_1 k rs = true := by
  simp only [Bool.and_eq_true, leI_iff] at h
  obtain ⟨hs, h1, h2⟩ := h
  obtain ⟨hn, hA⟩ := ss_iff.1 hs
  have e0 : laws_szInt64SS_a0 k rs = k - (rs.length : Int) := by simp only [laws_szInt64SS_a0]; rw [wrap_i64 (by omega) (by omega)]
  simp only [laws_szInt64SS_0, laws_szInt64SS_1, laws_szInt64SS_a1, e0, szSS]
  cases hz : ltI (k - (rs.length : Int)) 0 with
  | true => simp [allT]
  | false =>
    have := ltI_not.1 hz
    obtain ⟨w1, w2⟩ := w_laws_szInt64SS_l0 rs (k - (rs.length : Int)) (by omega) hA ⟨by omega, by omega⟩
    obtain ⟨m, e, hv⟩ := walk_sz rs 0 (k - (rs.length : Int))
    rw [w1, w2, e]
    cases hq : szL (k - (rs.length : Int)) rs with
    | none => simp [allT, Nat.beq, laws_szInt64SS_l0_5]
    | some v => have := hv v hq; simp [allT, Nat.beq, st_laws_szInt64SS_l0, this]

def N_laws_szInt64SS : List SV → List Entry → Option Out
  | [.one ⟨false, [.ref 0]⟩, .one ⟨false, [.val (.int .i64 x0)]⟩], [.row false 22 (.sl 2 (.int .i64)) x1] => some ⟨(.one ⟨false, [(.val (.int IntKind.i64 (szSS x0 x1)))]⟩), [(.row false 22 (CTy.sl (2 : TypeId) (CTy.int IntKind.i64)) x1)], [], [ssOk 9223372036854775807 x1 && (leI (-1) x0 && leI x0 1048576)]⟩
  | _, _ => none

def n_laws_szInt64SS : PF Tryz.prog := PF.alt p_laws_szInt64SS N_laws_szInt64SS (by
  intro args es o h hnd; unfold N_laws_szInt64SS at h; split at h
  · rename_i x0 x1
    cases h
    have hnd := nd_fst hnd
    have hh := szSS_ok x0 x1 hnd
    obtain ⟨e0, en⟩ := hh
    exact altok rfl (nd_one en) (by simp only [e0] <;> rfl) rfl rfl
  · cases h)

theorem szL_small : ∀ (rs : List (List Int)) (k v : Int), szL k rs = some v → 0 ≤ k → (∀ x ∈ rs, (x.length : Int) ≤ k) ∧ 0 ≤ v ∧ v ≤ k
  | [], k, v, h, h0 => by simp [szL] at h; subst h; exact ⟨by simp, h0, by omega⟩
  | x :: r, k, v, h, h0 => by
    simp only [szL] at h
    cases hz : ltI (szV k x) 0 with
    | true => rw [hz] at h; cases h
    | false =>
      rw [hz, cond_false] at h
      obtain ⟨a1, a2⟩ := szV_le hz
      rw [a2] at h
      obtain ⟨b1, b2, b3⟩ := szL_small r _ v h (by omega)
      refine ⟨fun y hy => ?_, b2, by omega⟩
      rcases List.mem_cons.1 hy with rfl | hy
      · exact a1
      · have := b1 y hy; omega

theorem szSS_small {k : Int} {rs : List (List Int)} (hk : k ≤ 1048576) (h : ltI (szSS k rs) 0 = false) : ssOk 1048576 rs = true ∧ 0 ≤ szSS k rs ∧ szSS k rs ≤ k := by
  have h0 := ltI_not.1 h
  unfold szSS at h0 ⊢
  cases hz : ltI (k - (rs.length : Int)) 0 with
  | true => rw [hz] at h0; simp at h0
  | false =>
    have := ltI_not.1 hz
    rw [hz, cond_false] at h0
    cases hq : szL (k - (rs.length : Int)) rs with
    | none => rw [hq] at h0; simp at h0
    | some v =>
      obtain ⟨b1, b2, b3⟩ := szL_small rs _ v hq (by omega)
      refine ⟨ss_iff.2 ⟨by omega, fun x hx => by have := b1 x hx; omega⟩, ?_, ?_⟩
      · simpa using b2
      · simp; omega

/-! ### Restraints and plans -/

def f_spec_AreRestraints_l0  (b : Int) : (Unit) → Nat ⊕ (Unit)
  | _ => (bif ((!spec_l01In_0 (b) (0 : Int) (2 : Int))) then (.inl 0) else (.inr ()))

def st_spec_AreRestraints_l0 (y1 : List Int) (i : Nat) : (Unit) → X_spec_AreRestraints_l0
  | _ => ((i : Int), y1)

def pr_spec_AreRestraints_l0 : X_spec_AreRestraints_l0 → Unit
  | (_, _) => ()

theorem w_spec_AreRestraints_l0 (y1 : List Int)  (hn : y1.length ≤ 9223372036854775807)  :
    lp_spec_AreRestraints_l0.fin ((0 : Int), y1) = true ∧ lp_spec_AreRestraints_l0.res ((0 : Int), y1) = ((walkL (f_spec_AreRestraints_l0) 1 y1 0 ()).1, (st_spec_AreRestraints_l0 y1) (walkL (f_spec_AreRestraints_l0) 1 y1 0 ()).2.1 (walkL (f_spec_AreRestraints_l0) 1 y1 0 ()).2.2) := by
  have key := lp_spec_AreRestraints_l0.along (st_spec_AreRestraints_l0 y1) pr_spec_AreRestraints_l0 (f_spec_AreRestraints_l0) 1 (fun _ _ => True) y1 () (by trivial) (by simp only [lp_spec_AreRestraints_l0, st_spec_AreRestraints_l0]; omega) (fun i b a hb hI => ?_) (fun a hI => ?_)
  · exact key
  · obtain ⟨⟩ := a
    have hlt := (List.getElem?_eq_some_iff.1 hb).1
    have hget : ∀ d, Option.getD y1[i]? d = b := fun d => by rw [hb]; rfl
    have hw := wrap64 hlt hn
    have hdec : ltI (i : Int) (y1.length : Int) = true := ltI_t (by omega)
    have hnn : leI (0 : Int) (i : Int) = true := leI_t (by omega)
    have hltd : ltN i y1.length = true := ltN_t hlt
    refine ⟨?_, ?_, ?_, ?_⟩
    · simp [spec_AreRestraints_l0_0, spec_AreRestraints_l0_1, spec_AreRestraints_l0_2, spec_AreRestraints_l0_3, spec_AreRestraints_l0_4, lt_spec_AreRestraints_l0, lp_spec_AreRestraints_l0, LT.nds, allT, st_spec_AreRestraints_l0, hdec, hnn, hltd, hget]
    · simp [spec_AreRestraints_l0_0, spec_AreRestraints_l0_1, spec_AreRestraints_l0_2, spec_AreRestraints_l0_3, spec_AreRestraints_l0_4, lt_spec_AreRestraints_l0, lp_spec_AreRestraints_l0, LT.each, st_spec_AreRestraints_l0, pr_spec_AreRestraints_l0, hw]
    · simp only [spec_AreRestraints_l0_0, spec_AreRestraints_l0_1, spec_AreRestraints_l0_2, spec_AreRestraints_l0_3, spec_AreRestraints_l0_4, lt_spec_AreRestraints_l0, lp_spec_AreRestraints_l0, LT.fn, st_spec_AreRestraints_l0, pr_spec_AreRestraints_l0, f_spec_AreRestraints_l0, Int.toNat_natCast, hdec, hnn, hltd, hget, cond_true, Bool.cond_self]
    · exact fun _ _ => trivial
  · obtain ⟨⟩ := a
    simp [spec_AreRestraints_l0_0, spec_AreRestraints_l0_1, spec_AreRestraints_l0_2, spec_AreRestraints_l0_3, spec_AreRestraints_l0_4, lt_spec_AreRestraints_l0, lp_spec_AreRestraints_l0, LT.out, st_spec_AreRestraints_l0]

def f_slices_IndexFunc_int64_int64_q2001_l0  (b : Int) : (Unit) → Nat ⊕ (Unit)
  | _ => (bif ((impl_AreRestraints_1_q2002_0 (b))) then (.inl 0) else (.inr ()))

def st_slices_IndexFunc_int64_int64_q2001_l0 (y2 : List Int) (i : Nat) : (Unit) → X_slices_IndexFunc_int64_int64_q2001_l0
  | _ => ((i : Int), (↑(List.length y2) : Int), y2)

def pr_slices_IndexFunc_int64_int64_q2001_l0 : X_slices_IndexFunc_int64_int64_q2001_l0 → Unit
  | (_, _, _) => ()

theorem w_slices_IndexFunc_int64_int64_q2001_l0 (y2 : List Int)  (hn : y2.length ≤ 9223372036854775807)  :
    lp_slices_IndexFunc_int64_int64_q2001_l0.fin ((0 : Int), (↑(List.length y2) : Int), y2) = true ∧ lp_slices_IndexFunc_int64_int64_q2001_l0.res ((0 : Int), (↑(List.length y2) : Int), y2) = ((walkL (f_slices_IndexFunc_int64_int64_q2001_l0) 1 y2 0 ()).1, (st_slices_IndexFunc_int64_int64_q2001_l0 y2) (walkL (f_slices_IndexFunc_int64_int64_q2001_l0) 1 y2 0 ()).2.1 (walkL (f_slices_IndexFunc_int64_int64_q2001_l0) 1 y2 0 ()).2.2) := by
  have key := lp_slices_IndexFunc_int64_int64_q2001_l0.along (st_slices_IndexFunc_int64_int64_q2001_l0 y2) pr_slices_IndexFunc_int64_int64_q2001_l0 (f_slices_IndexFunc_int64_int64_q2001_l0) 1 (fun _ _ => True) y2 () (by trivial) (by simp only [lp_slices_IndexFunc_int64_int64_q2001_l0, st_slices_IndexFunc_int64_int64_q2001_l0]; omega) (fun i b a hb hI => ?_) (fun a hI => ?_)
  · exact key
  · obtain ⟨⟩ := a
    have hlt := (List.getElem?_eq_some_iff.1 hb).1
    have hget : ∀ d, Option.getD y2[i]? d = b := fun d => by rw [hb]; rfl
    have hw := wrap64 hlt hn
    have hdec : ltI (i : Int) (y2.length : Int) = true := ltI_t (by omega)
    have hnn : leI (0 : Int) (i : Int) = true := leI_t (by omega)
    have hltd : ltN i y2.length = true := ltN_t hlt
    refine ⟨?_, ?_, ?_, ?_⟩
    · simp [slices_IndexFunc_int64_int64_q2001_l0_0, slices_IndexFunc_int64_int64_q2001_l0_1, slices_IndexFunc_int64_int64_q2001_l0_2, slices_IndexFunc_int64_int64_q2001_l0_3, slices_IndexFunc_int64_int64_q2001_l0_4, slices_IndexFunc_int64_int64_q2001_l0_5, lt_slices_IndexFunc_int64_int64_q2001_l0, lp_slices_IndexFunc_int64_int64_q2001_l0, LT.nds, allT, st_slices_IndexFunc_int64_int64_q2001_l0, hdec, hnn, hltd, hget]
    · simp [slices_IndexFunc_int64_int64_q2001_l0_0, slices_IndexFunc_int64_int64_q2001_l0_1, slices_IndexFunc_int64_int64_q2001_l0_2, slices_IndexFunc_int64_int64_q2001_l0_3, slices_IndexFunc_int64_int64_q2001_l0_4, slices_IndexFunc_int64_int64_q2001_l0_5, lt_slices_IndexFunc_int64_int64_q2001_l0, lp_slices_IndexFunc_int64_int64_q2001_l0, LT.each, st_slices_IndexFunc_int64_int64_q2001_l0, pr_slices_IndexFunc_int64_int64_q2001_l0, hw]
    · simp only [slices_IndexFunc_int64_int64_q2001_l0_0, slices_IndexFunc_int64_int64_q2001_l0_1, slices_IndexFunc_int64_int64_q2001_l0_2, slices_IndexFunc_int64_int64_q2001_l0_3, slices_IndexFunc_int64_int64_q2001_l0_4, slices_IndexFunc_int64_int64_q2001_l0_5, lt_slices_IndexFunc_int64_int64_q2001_l0, lp_slices_IndexFunc_int64_int64_q2001_l0, LT.fn, st_slices_IndexFunc_int64_int64_q2001_l0, pr_slices_IndexFunc_int64_int64_q2001_l0, f_slices_IndexFunc_int64_int64_q2001_l0, Int.toNat_natCast, hdec, hnn, hltd, hget, cond_true, Bool.cond_self]
    · exact fun _ _ => trivial
  · obtain ⟨⟩ := a
    simp [slices_IndexFunc_int64_int64_q2001_l0_0, slices_IndexFunc_int64_int64_q2001_l0_1, slices_IndexFunc_int64_int64_q2001_l0_2, slices_IndexFunc_int64_int64_q2001_l0_3, slices_IndexFunc_int64_int64_q2001_l0_4, slices_IndexFunc_int64_int64_q2001_l0_5, lt_slices_IndexFunc_int64_int64_q2001_l0, lp_slices_IndexFunc_int64_int64_q2001_l0, LT.out, st_slices_IndexFunc_int64_int64_q2001_l0]

def f_spec_IsPlan_l0  (b : Int × Int) : (Unit) → Nat ⊕ (Unit)
  | _ => (bif ((bif (!spec_l01In_0 (Prod.fst ((b))) (1 : Int) (366 : Int)) then true else !spec_l01In_0 (Prod.snd ((b))) (0 : Int) (100000 : Int))) then (.inl 0) else (.inr ()))

def st_spec_IsPlan_l0 (y1 : List (Int × Int)) (i : Nat) : (Unit) → X_spec_IsPlan_l0
  | _ => ((i : Int), y1)

def pr_spec_IsPlan_l0 : X_spec_IsPlan_l0 → Unit
  | (_, _) => ()

theorem w_spec_IsPlan_l0 (y1 : List (Int × Int))  (hn : y1.length ≤ 9223372036854775807)  :
    lp_spec_IsPlan_l0.fin ((0 : Int), y1) = true ∧ lp_spec_IsPlan_l0.res ((0 : Int), y1) = ((walkL (f_spec_IsPlan_l0) 1 y1 0 ()).1, (st_spec_IsPlan_l0 y1) (walkL (f_spec_IsPlan_l0) 1 y1 0 ()).2.1 (walkL (f_spec_IsPlan_l0) 1 y1 0 ()).2.2) := by
  have key := lp_spec_IsPlan_l0.along (st_spec_IsPlan_l0 y1) pr_spec_IsPlan_l0 (f_spec_IsPlan_l0) 1 (fun _ _ => True) y1 () (by trivial) (by simp only [lp_spec_IsPlan_l0, st_spec_IsPlan_l0]; omega) (fun i b a hb hI => ?_) (fun a hI => ?_)
  · exact key
  · obtain ⟨⟩ := a
    have hlt := (List.getElem?_eq_some_iff.1 hb).1
    have hget : ∀ d, Option.getD y1[i]? d = b := fun d => by rw [hb]; rfl
    have hw := wrap64 hlt hn
    have hdec : ltI (i : Int) (y1.length : Int) = true := ltI_t (by omega)
    have hnn : leI (0 : Int) (i : Int) = true := leI_t (by omega)
    have hltd : ltN i y1.length = true := ltN_t hlt
    refine ⟨?_, ?_, ?_, ?_⟩
    · simp [spec_IsPlan_l0_a0, spec_IsPlan_l0_a1, spec_IsPlan_l0_0, spec_IsPlan_l0_1, spec_IsPlan_l0_2, spec_IsPlan_l0_3, spec_IsPlan_l0_4, spec_IsPlan_l0_5, spec_IsPlan_l0_6, spec_IsPlan_l0_7, lt_spec_IsPlan_l0, lp_spec_IsPlan_l0, LT.nds, allT, st_spec_IsPlan_l0, hdec, hnn, hltd, hget]
    · simp [spec_IsPlan_l0_a0, spec_IsPlan_l0_a1, spec_IsPlan_l0_0, spec_IsPlan_l0_1, spec_IsPlan_l0_2, spec_IsPlan_l0_3, spec_IsPlan_l0_4, spec_IsPlan_l0_5, spec_IsPlan_l0_6, spec_IsPlan_l0_7, lt_spec_IsPlan_l0, lp_spec_IsPlan_l0, LT.each, st_spec_IsPlan_l0, pr_spec_IsPlan_l0, hw]
    · simp only [spec_IsPlan_l0_a0, spec_IsPlan_l0_a1, spec_IsPlan_l0_0, spec_IsPlan_l0_1, spec_IsPlan_l0_2, spec_IsPlan_l0_3, spec_IsPlan_l0_4, spec_IsPlan_l0_5, spec_IsPlan_l0_6, spec_IsPlan_l0_7, lt_spec_IsPlan_l0, lp_spec_IsPlan_l0, LT.fn, st_spec_IsPlan_l0, pr_spec_IsPlan_l0, f_spec_IsPlan_l0, Int.toNat_natCast, hdec, hnn, hltd, hget, cond_true, Bool.cond_self]
    · exact fun _ _ => trivial
  · obtain ⟨⟩ := a
    simp [spec_IsPlan_l0_a0, spec_IsPlan_l0_a1, spec_IsPlan_l0_0, spec_IsPlan_l0_1, spec_IsPlan_l0_2, spec_IsPlan_l0_3, spec_IsPlan_l0_4, spec_IsPlan_l0_5, spec_IsPlan_l0_6, spec_IsPlan_l0_7, lt_spec_IsPlan_l0, lp_spec_IsPlan_l0, LT.out, st_spec_IsPlan_l0]

def f_slices_IndexFunc_impl_Task_q2007_l0  (b : Int × Int) : (Unit) → Nat ⊕ (Unit)
  | _ => (bif ((impl_IsPlan_1_q2008_0 (Prod.fst ((b))) (Prod.snd ((b))))) then (.inl 0) else (.inr ()))

def st_slices_IndexFunc_impl_Task_q2007_l0 (y2 : List (Int × Int)) (i : Nat) : (Unit) → X_slices_IndexFunc_impl_Task_q2007_l0
  | _ => ((i : Int), (↑(List.length y2) : Int), y2)

def pr_slices_IndexFunc_impl_Task_q2007_l0 : X_slices_IndexFunc_impl_Task_q2007_l0 → Unit
  | (_, _, _) => ()

theorem w_slices_IndexFunc_impl_Task_q2007_l0 (y2 : List (Int × Int))  (hn : y2.length ≤ 9223372036854775807)  :
    lp_slices_IndexFunc_impl_Task_q2007_l0.fin ((0 : Int), (↑(List.length y2) : Int), y2) = true ∧ lp_slices_IndexFunc_impl_Task_q2007_l0.res ((0 : Int), (↑(List.length y2) : Int), y2) = ((walkL (f_slices_IndexFunc_impl_Task_q2007_l0) 1 y2 0 ()).1, (st_slices_IndexFunc_impl_Task_q2007_l0 y2) (walkL (f_slices_IndexFunc_impl_Task_q2007_l0) 1 y2 0 ()).2.1 (walkL (f_slices_IndexFunc_impl_Task_q2007_l0) 1 y2 0 ()).2.2) := by
  have key := lp_slices_IndexFunc_impl_Task_q2007_l0.along (st_slices_IndexFunc_impl_Task_q2007_l0 y2) pr_slices_IndexFunc_impl_Task_q2007_l0 (f_slices_IndexFunc_impl_Task_q2007_l0) 1 (fun _ _ => True) y2 () (by trivial) (by simp only [lp_slices_IndexFunc_impl_Task_q2007_l0, st_slices_IndexFunc_impl_Task_q2007_l0]; omega) (fun i b a hb hI => ?_) (fun a hI => ?_)
  · exact key
  · obtain ⟨⟩ := a
    have hlt := (List.getElem?_eq_some_iff.1 hb).1
    have hget : ∀ d, Option.getD y2[i]? d = b := fun d => by rw [hb]; rfl
    have hw := wrap64 hlt hn
    have hdec : ltI (i : Int) (y2.length : Int) = true := ltI_t (by omega)
    have hnn : leI (0 : Int) (i : Int) = true := leI_t (by omega)
    have hltd : ltN i y2.length = true := ltN_t hlt
    refine ⟨?_, ?_, ?_, ?_⟩
    · simp [slices_IndexFunc_impl_Task_q2007_l0_a0, slices_IndexFunc_impl_Task_q2007_l0_0, slices_IndexFunc_impl_Task_q2007_l0_1, slices_IndexFunc_impl_Task_q2007_l0_2, slices_IndexFunc_impl_Task_q2007_l0_3, slices_IndexFunc_impl_Task_q2007_l0_4, slices_IndexFunc_impl_Task_q2007_l0_5, lt_slices_IndexFunc_impl_Task_q2007_l0, lp_slices_IndexFunc_impl_Task_q2007_l0, LT.nds, allT, st_slices_IndexFunc_impl_Task_q2007_l0, hdec, hnn, hltd, hget]
    · simp [slices_IndexFunc_impl_Task_q2007_l0_a0, slices_IndexFunc_impl_Task_q2007_l0_0, slices_IndexFunc_impl_Task_q2007_l0_1, slices_IndexFunc_impl_Task_q2007_l0_2, slices_IndexFunc_impl_Task_q2007_l0_3, slices_IndexFunc_impl_Task_q2007_l0_4, slices_IndexFunc_impl_Task_q2007_l0_5, lt_slices_IndexFunc_impl_Task_q2007_l0, lp_slices_IndexFunc_impl_Task_q2007_l0, LT.each, st_slices_IndexFunc_impl_Task_q2007_l0, pr_slices_IndexFunc_impl_Task_q2007_l0, hw]
    · simp only [slices_IndexFunc_impl_Task_q2007_l0_a0, slices_IndexFunc_impl_Task_q2007_l0_0, slices_IndexFunc_impl_Task_q2007_l0_1, slices_IndexFunc_impl_Task_q2007_l0_2, slices_IndexFunc_impl_Task_q2007_l0_3, slices_IndexFunc_impl_Task_q2007_l0_4, slices_IndexFunc_impl_Task_q2007_l0_5, lt_slices_IndexFunc_impl_Task_q2007_l0, lp_slices_IndexFunc_impl_Task_q2007_l0, LT.fn, st_slices_IndexFunc_impl_Task_q2007_l0, pr_slices_IndexFunc_impl_Task_q2007_l0, f_slices_IndexFunc_impl_Task_q2007_l0, Int.toNat_natCast, hdec, hnn, hltd, hget, cond_true, Bool.cond_self]
    · exact fun _ _ => trivial
  · obtain ⟨⟩ := a
    simp [slices_IndexFunc_impl_Task_q2007_l0_a0, slices_IndexFunc_impl_Task_q2007_l0_0, slices_IndexFunc_impl_Task_q2007_l0_1, slices_IndexFunc_impl_Task_q2007_l0_2, slices_IndexFunc_impl_Task_q2007_l0_3, slices_IndexFunc_impl_Task_q2007_l0_4, slices_IndexFunc_impl_Task_q2007_l0_5, lt_slices_IndexFunc_impl_Task_q2007_l0, lp_slices_IndexFunc_impl_Task_q2007_l0, LT.out, st_slices_IndexFunc_impl_Task_q2007_l0]

theorem ltI_nat (n : Nat) (k : Int) (hk : 0 ≤ k) : leI (n : Int) k = leN n k.toNat := by
  rw [Bool.eq_iff_iff, leI_iff, leN_iff]; omega

theorem specRest_ok (st : List Int) (hn : leN st.length 9223372036854775807 = true) : spec_AreRestraints_0 st = areR st ∧ spec_AreRestraints_1 st = true := by
  obtain ⟨w1, w2⟩ := w_spec_AreRestraints_l0 st (leN_iff.1 hn)
  rw [walk_stop (P := fun v => !inR v 0 2) (j := 0) (fun v => by simp only [f_spec_AreRestraints_l0, spec_l01In_0, inR_eq])] at w2
  have e5 : (st.any fun v => !inR v 0 2) = !st.all fun v => inR v 0 2 := by simp [List.all_eq_not_any_not]
  rw [e5] at w2
  simp only [spec_AreRestraints_0, spec_AreRestraints_1, w1, w2, allT, areR, spec_l01In_0, inR_eq]
  cases (st.all fun v => inR v 0 2) <;> cases inR (st.length : Int) 1 12 <;> simp [Nat.beq]

theorem implRest_ok (st : List Int) (hn : leN st.length 9223372036854775807 = true) : impl_AreRestraints_0 st = areR st ∧ impl_AreRestraints_1 st = true := by
  obtain ⟨w1, w2⟩ := w_slices_IndexFunc_int64_int64_q2001_l0 st (leN_iff.1 hn)
  rw [walk_stop (P := fun v => !inR v 0 2) (j := 0) (fun v => by simp only [f_slices_IndexFunc_int64_int64_q2001_l0, impl_AreRestraints_1_q2002_0, impl_within_0, inR_eq])] at w2
  have e5 : (st.any fun v => !inR v 0 2) = !st.all fun v => inR v 0 2 := by simp [List.all_eq_not_any_not]
  rw [e5] at w2
  simp only [impl_AreRestraints_0, impl_AreRestraints_1, slices_ContainsFunc_int64_int64_q2000_0, slices_ContainsFunc_int64_int64_q2000_1, slices_IndexFunc_int64_int64_q2001_0, slices_IndexFunc_int64_int64_q2001_1, slices_IndexFunc_int64_int64_q2001_a0, w1, w2, allT, areR, impl_isRowCount_0, impl_within_0, impl_length_int64_0, inR_eq, st_slices_IndexFunc_int64_int64_q2001_l0]
  cases hr : inR (st.length : Int) 1 12 with
  | false => simp
  | true =>
    cases (st.all fun v => inR v 0 2) with
    | true =>
      have q : leI 0 (-1) = false := rfl
      simp [Nat.beq, q]
    | false =>
      simp only [Bool.not_false, cond_true, Nat.beq, Bool.and_false]
      rw [leI_t (by omega)]; simp

theorem specPlan_ok (pl : List (Int × Int)) (hn : leN pl.length 9223372036854775807 = true) : spec_IsPlan_0 pl = okPl pl ∧ spec_IsPlan_1 pl = true := by
  obtain ⟨w1, w2⟩ := w_spec_IsPlan_l0 pl (leN_iff.1 hn)
  rw [walk_stop (P := fun t => !plIn t) (j := 0) (fun t => by simp only [f_spec_IsPlan_l0, spec_l01In_0, inR_eq, plIn]; cases inR t.1 1 366 <;> rfl)] at w2
  have e5 : (pl.any fun t => !plIn t) = !pl.all plIn := by simp [List.all_eq_not_any_not]
  rw [e5] at w2
  simp only [spec_IsPlan_0, spec_IsPlan_1, w1, w2, allT, okPl, ltI_nat pl.length 12 (by omega)]
  cases pl.all plIn <;> simp [Nat.beq]

theorem implPlan_ok (pl : List (Int × Int)) (hn : leN pl.length 9223372036854775807 = true) : impl_IsPlan_0 pl = okPl pl ∧ impl_IsPlan_1 pl = true := by
  obtain ⟨w1, w2⟩ := w_slices_IndexFunc_impl_Task_q2007_l0 pl (leN_iff.1 hn)
  rw [walk_stop (P := fun t => !plIn t) (j := 0) (fun t => by simp only [f_slices_IndexFunc_impl_Task_q2007_l0, impl_IsPlan_1_q2008_0, impl_isDay_0, impl_within_0, inR_eq, plIn]; cases inR t.1 1 366 <;> rfl)] at w2
  have e5 : (pl.any fun t => !plIn t) = !pl.all plIn := by simp [List.all_eq_not_any_not]
  rw [e5] at w2
  simp only [impl_IsPlan_0, impl_IsPlan_1, impl_IsPlan_a0, slices_ContainsFunc_impl_Task_q2006_0, slices_ContainsFunc_impl_Task_q2006_1, slices_IndexFunc_impl_Task_q2007_0, slices_IndexFunc_impl_Task_q2007_1, slices_IndexFunc_impl_Task_q2007_a0, w1, w2, allT, okPl, ltI_nat pl.length 12 (by omega), st_slices_IndexFunc_impl_Task_q2007_l0]
  cases hr : leN pl.length (Int.toNat 12) with
  | false =>
    simp at hr
    simp [hr]
    intro h; omega
  | true =>
    simp at hr
    cases pl.all plIn with
    | true =>
      have q : leI 0 (-1) = false := rfl
      simp [Nat.beq, hr, q]
    | false =>
      simp only [Bool.not_false, cond_true, Nat.beq, Bool.and_false]
      rw [leI_t (by omega)]; simp

def N_spec_AreRestraints : List SV → List Entry → Option Out
  | [.one ⟨false, [.ref 0]⟩], [.row false 2 (.int .i64) x0] => some ⟨(.one ⟨false, [(.val (.bool (areR x0)))]⟩), [(.row false 2 (CTy.int IntKind.i64) x0)], [], [leN x0.length 9223372036854775807]⟩
  | _, _ => none

def n_spec_AreRestraints : PF Tryz.prog := PF.alt p_spec_AreRestraints N_spec_AreRestraints (by
  intro args es o h hnd; unfold N_spec_AreRestraints at h; split at h
  · rename_i x0
    cases h
    have hnd := nd_fst hnd
    have hh := specRest_ok x0 hnd
    obtain ⟨e0, en⟩ := hh
    exact altok rfl (nd_one en) (by simp only [e0] <;> rfl) rfl rfl
  · cases h)

def N_impl_AreRestraints : List SV → List Entry → Option Out
  | [.one ⟨false, [.ref 0]⟩], [.row false 2 (.int .i64) x0] => some ⟨(.one ⟨false, [(.val (.bool (areR x0)))]⟩), [(.row false 2 (CTy.int IntKind.i64) x0)], [], [leN x0.length 9223372036854775807]⟩
  | _, _ => none

def n_impl_AreRestraints : PF Tryz.prog := PF.alt p_impl_AreRestraints N_impl_AreRestraints (by
  intro args es o h hnd; unfold N_impl_AreRestraints at h; split at h
  · rename_i x0
    cases h
    have hnd := nd_fst hnd
    have hh := implRest_ok x0 hnd
    obtain ⟨e0, en⟩ := hh
    exact altok rfl (nd_one en) (by simp only [e0] <;> rfl) rfl rfl
  · cases h)

def N_spec_IsPlan : List SV → List Entry → Option Out
  | [.one ⟨false, [.ref 0]⟩], [.row false 86 (.pair (.int .i64) (.int .i64)) x0] => some ⟨(.one ⟨false, [(.val (.bool (okPl x0)))]⟩), [(.row false 86 (CTy.pair (CTy.int IntKind.i64) (CTy.int IntKind.i64)) x0)], [], [leN x0.length 9223372036854775807]⟩
  | _, _ => none

def n_spec_IsPlan : PF Tryz.prog := PF.alt p_spec_IsPlan N_spec_IsPlan (by
  intro args es o h hnd; unfold N_spec_IsPlan at h; split at h
  · rename_i x0
    cases h
    have hnd := nd_fst hnd
    have hh := specPlan_ok x0 hnd
    obtain ⟨e0, en⟩ := hh
    exact altok rfl (nd_one en) (by simp only [e0] <;> rfl) rfl rfl
  · cases h)

def N_impl_IsPlan : List SV → List Entry → Option Out
  | [.one ⟨false, [.ref 0]⟩], [.row false 86 (.pair (.int .i64) (.int .i64)) x0] => some ⟨(.one ⟨false, [(.val (.bool (okPl x0)))]⟩), [(.row false 86 (CTy.pair (CTy.int IntKind.i64) (CTy.int IntKind.i64)) x0)], [], [leN x0.length 9223372036854775807]⟩
  | _, _ => none

def n_impl_IsPlan : PF Tryz.prog := PF.alt p_impl_IsPlan N_impl_IsPlan (by
  intro args es o h hnd; unfold N_impl_IsPlan at h; split at h
  · rename_i x0
    cases h
    have hnd := nd_fst hnd
    have hh := implPlan_ok x0 hnd
    obtain ⟨e0, en⟩ := hh
    exact altok rfl (nd_one en) (by simp only [e0] <;> rfl) rfl rfl
  · cases h)

end Go.SX

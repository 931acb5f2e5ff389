/- What functions of the program come to, and what that says in plain words: part 2. -/
import Derived.Test.YtbbfgoobcjlooaaGreatDoorPa
import Derived.Test.YtbbfgoobcjlooaaGreatDoorTXh
import Derived.Test.YtbbfgoobcjlooaaGreatDoorProg
set_option linter.unusedSimpArgs false
set_option linter.unusedVariables false
namespace Go.SX
open Go.Proofs
set_option maxRecDepth 100000

/-- A loop of few rounds, by what stays true. -/
theorem Lp.inv {X : Type} (p : Lp X) (I : Nat → X → Prop) (Q : Nat → X → Prop)
    (hs : ∀ k x, I (k + 1) x → (∃ j, (p.lt x).out = some (.inl j) ∧ Q j x) ∨ ∃ y, (p.lt x).out = some (.inr y) ∧ I k y)
    (he : ∀ x, I 0 x → ∃ j, (p.lt x).out = some (.inl j) ∧ Q j x) (N : Nat) (x : X) (hN : N ≤ 999) (h : I N x) :
    p.fin x = true ∧ ∃ j y, p.res x = (j, y) ∧ Q j y := by
  have key : ∀ (k : Nat) (x : X), I k x → ∃ j y, runL p.lt (k + 1) x = some (j, y) ∧ Q j y := by
    intro k
    induction k with
    | zero =>
      intro x h
      obtain ⟨j, h1, h2⟩ := he x h
      exact ⟨j, x, runL_end _ h1, h2⟩
    | succ k ih =>
      intro x h
      rcases hs k x h with ⟨j, h1, h2⟩ | ⟨y, h1, h2⟩
      · exact ⟨j, x, runL_end _ h1, h2⟩
      · obtain ⟨j, z, h3, h4⟩ := ih y h2
        exact ⟨j, z, by rw [runL_next _ h1]; exact h3, h4⟩
  obtain ⟨j, y, h1, h2⟩ := key N x h
  obtain ⟨r1, r2⟩ := p.run h1 (le_big (by omega))
  exact ⟨r1, j, y, r2, h2⟩

abbrev TM := Int × ByteArray × Int

theorem k16i {a b : ByteArray} : a.toList = b.toList ↔ a = b := by
  constructor
  · intro h
    rw [Go.Lib.toList_data, Go.Lib.toList_data] at h
    exact ByteArray.ext (Array.toList_inj.1 h)
  · intro h; rw [h]

theorem k15f (N : Nat) (hN : N ≤ 20) (k : Int) (h0 : 0 ≤ k) (hm : k ≤ 9223372036854775807) (hk : k < 10 ^ N) (s : ByteArray) (hs : s.size = 0) :
    k5r.fin (k, s) = true ∧ ∃ j r, k5r.res (k, s) = (j, r) ∧ r.2.size ≤ 20 := by
  refine k5r.inv (fun m x => (0 ≤ x.1 ∧ x.1 < 10 ^ m) ∧ (m ≤ N ∧ x.1 ≤ 9223372036854775807) ∧ x.2.size ≤ N - m) (fun _ r => r.2.size ≤ 20) (fun m x hx => ?_) (fun x hx => ?_) N _ (by omega) ⟨⟨h0, hk⟩, ⟨Nat.le_refl _, hm⟩, by simp only; omega⟩
  · obtain ⟨y0, y1⟩ := x
    obtain ⟨⟨h1, h2⟩, ⟨hm, hm2⟩, hl⟩ := hx
    simp only at h1 h2 hl hm2
    by_cases hz : 0 < y0
    · refine .inr ⟨(Int.tdiv y0 10, kaa y0 ++ y1), ?_, ⟨?_, ?_⟩, ⟨by omega, ?_⟩, ?_⟩
      · have t1 : ltI 0 y0 = true := ltI_t hz
        have hsz : (kaa y0).size = 1 := by simp [kaa, strOfNums_size]
        have t2 : leN ((kaa y0).size + y1.size) 9223372036854775807 = true := leN_t (by omega)
        have hw : IntKind.i64.wrap (Int.tdiv y0 10) = Int.tdiv y0 10 := by
          rw [Int.tdiv_eq_ediv_of_nonneg h1]; exact wrap_i64 (by omega) (by omega)
        simp only [k5r, kl0, LT.out, kmj, kp9, ktg, ktl, ktj, t1, t2, hw, allT, cond_true]
        rfl
      · simp only; rw [Int.tdiv_eq_ediv_of_nonneg h1]; omega
      · simp only; rw [Int.tdiv_eq_ediv_of_nonneg h1]
        rw [Int.pow_succ] at h2; omega
      · simp only; rw [Int.tdiv_eq_ediv_of_nonneg h1]; omega
      · have hsz : (kaa y0).size = 1 := by simp [kaa, strOfNums_size]
        simp only [ByteArray.size_append, hsz]; omega
    · refine .inl ⟨0, ?_, by simp only; omega⟩
      simp [k5r, kl0, LT.out, kmj, show ltI 0 y0 = false from ltI_f (by omega)]
  · obtain ⟨y0, y1⟩ := x
    obtain ⟨⟨h1, h2⟩, ⟨hm, hm2⟩, hl⟩ := hx
    simp only at h1 h2 hl hm2
    have : y0 = 0 := by simp at h2; omega
    subst this
    exact ⟨0, by simp [k5r, kl0, LT.out, kmj], by simp only; omega⟩

theorem k16h (k : Int) (h : (leI 0 k && leI k 9223372036854775807) = true) : kne k = true := by
  simp only [Bool.and_eq_true, leI_iff] at h
  obtain ⟨w1, j, r, w2, w3⟩ := k15f 20 (by omega) k h.1 h.2 (by omega) ⟨#[]⟩ rfl
  simp only [kne, krn, w1, w2, allT, Bool.or_true, cond_true, Bool.or_eq_true]
  have : leN (ByteArray.size ⟨#[109]⟩ + r.2.size) 9223372036854775807 = true := leN_t (by have : (ByteArray.size ⟨#[109]⟩) = 1 := rfl; omega)
  simp [this]

def totT : List TM → Nat
  | [] => 0
  | t :: r => t.2.1.size + totT r

def eqTs (xs ys : List (Int × ByteArray × Int)) : Bool := decide (xs = ys)
theorem k14p (xs : List (Int × ByteArray × Int)) : eqTs xs xs = true := by simp [eqTs]

def kdz (y1 : List (Int × (ByteArray × Int))) (b : Nat) : (List (Int × (ByteArray × Int))) → Nat ⊕ (List (Int × (ByteArray × Int)))
  | y2 => (.inr ((List.set y2 (b) (Prod.fst ((Option.getD y1[b]? ((0 : Int), ByteArray.empty, (0 : Int)))), Prod.fst (Prod.snd ((Option.getD y1[b]? ((0 : Int), ByteArray.empty, (0 : Int))))), Prod.snd (Prod.snd ((Option.getD y1[b]? ((0 : Int), ByteArray.empty, (0 : Int)))))))))

def kb9 (y1 : List (Int × (ByteArray × Int))) (i : Nat) : (List (Int × (ByteArray × Int))) → k9h
  | y2 => ((i : Int), y1, y2)

def kpt : k9h → List (Int × (ByteArray × Int))
  | (_, _, y2) => y2

theorem k128 (y1 : List (Int × (ByteArray × Int))) (y2 : List (Int × (ByteArray × Int))) (hn : y1.length ≤ 9223372036854775807) (hl : y2.length = y1.length) :
    k4w.fin ((0 : Int), y1, y2) = true ∧ k4w.res ((0 : Int), y1, y2) = ((walkL (kdz y1) 0 (List.range y1.length) 0 y2).1, (kb9 y1) (walkL (kdz y1) 0 (List.range y1.length) 0 y2).2.1 (walkL (kdz y1) 0 (List.range y1.length) 0 y2).2.2) := by
  have key := k4w.along (kb9 y1) kpt (kdz y1) 0 (fun _ a => a.length = y1.length) (List.range y1.length) y2 hl (by simp only [k4w, kb9, List.length_range]; omega) (fun i b a hb hI => ?_) (fun a hI => ?_)
  · exact key
  · obtain y2 := a
    obtain ⟨rfl, hlt⟩ := range_get hb
    have hw : IntKind.i64.wrap ((b : Int) + 1) = ((b + 1 : Nat) : Int) := by rw [wrap_i64 (by omega) (by omega)]; omega
    have hdec : ltI (b : Int) (y1.length : Int) = true := ltI_t (by omega)
    have hnn : leI (0 : Int) (b : Int) = true := leI_t (by omega)
    have hltd : ltN b y1.length = true := ltN_t (by omega)
    refine ⟨?_, ?_, ?_, ?_⟩
    · simp [kcn, kg6, kga, kjr, kk3, kk7, kju, kjz, kip, k4w, LT.nds, allT, kb9, hdec, hnn, hltd, hI]
    · simp [kcn, kg6, kga, kjr, kk3, kk7, kju, kjz, kip, k4w, LT.each, kb9, kpt, hw, hI]
    · simp only [kcn, kg6, kga, kjr, kk3, kk7, kju, kjz, kip, k4w, LT.fn, kb9, kpt, kdz, Int.toNat_natCast, hdec, cond_true]
    · intro a' hf; simp only [kdz, Sum.inr.injEq] at hf; subst hf; simpa using hI
  · obtain y2 := a
    simp [kcn, kg6, kga, kjr, kk3, kk7, kju, kjz, kip, k4w, LT.out, kb9, List.length_range]

def kg3 (y1 : List (Int × (ByteArray × Int))) (y2 : List (Int × (ByteArray × Int))) (b : Nat) : (Unit) → Nat ⊕ (Unit)
  | _ => (bif ((!kqc (Prod.fst ((Option.getD y1[b]? ((0 : Int), ByteArray.empty, (0 : Int))))) (Prod.fst (Prod.snd ((Option.getD y1[b]? ((0 : Int), ByteArray.empty, (0 : Int)))))) (Prod.snd (Prod.snd ((Option.getD y1[b]? ((0 : Int), ByteArray.empty, (0 : Int)))))) (Prod.fst ((Option.getD y2[b]? ((0 : Int), ByteArray.empty, (0 : Int))))) (Prod.fst (Prod.snd ((Option.getD y2[b]? ((0 : Int), ByteArray.empty, (0 : Int)))))) (Prod.snd (Prod.snd ((Option.getD y2[b]? ((0 : Int), ByteArray.empty, (0 : Int)))))))) then (.inl 0) else (.inr ()))

def kcw (y1 : List (Int × (ByteArray × Int))) (y2 : List (Int × (ByteArray × Int))) (i : Nat) : (Unit) → k9d
  | _ => ((i : Int), y1, y2)

def kpx : k9d → Unit
  | (_, _, _) => ()

theorem k120 (y1 : List (Int × (ByteArray × Int))) (y2 : List (Int × (ByteArray × Int)))  (hn : y1.length ≤ 9223372036854775807) (he : y2.length = y1.length) :
    k3r.fin ((0 : Int), y1, y2) = true ∧ k3r.res ((0 : Int), y1, y2) = ((walkL (kg3 y1 y2) 1 (List.range y1.length) 0 ()).1, (kcw y1 y2) (walkL (kg3 y1 y2) 1 (List.range y1.length) 0 ()).2.1 (walkL (kg3 y1 y2) 1 (List.range y1.length) 0 ()).2.2) := by
  have key := k3r.along (kcw y1 y2) kpx (kg3 y1 y2) 1 (fun _ _ => True) (List.range y1.length) () (by trivial) (by simp only [k3r, kcw, List.length_range]; omega) (fun i b a hb hI => ?_) (fun a hI => ?_)
  · exact key
  · obtain ⟨⟩ := a
    obtain ⟨rfl, hlt⟩ := range_get hb
    have hw : IntKind.i64.wrap ((b : Int) + 1) = ((b + 1 : Nat) : Int) := by rw [wrap_i64 (by omega) (by omega)]; omega
    have hdec : ltI (b : Int) (y1.length : Int) = true := ltI_t (by omega)
    have hnn : leI (0 : Int) (b : Int) = true := leI_t (by omega)
    have hltd : ltN b y1.length = true := ltN_t (by omega)
    refine ⟨?_, ?_, ?_, ?_⟩
    · simp [kcj, kcs, kg4, kg9, kjd, kjf, kjv, kjx, kkb, kig, k3r, LT.nds, allT, kcw, hdec, hnn, hltd, he]
    · simp [kcj, kcs, kg4, kg9, kjd, kjf, kjv, kjx, kkb, kig, k3r, LT.each, kcw, kpx, hw, he]
    · simp only [kcj, kcs, kg4, kg9, kjd, kjf, kjv, kjx, kkb, kig, k3r, LT.fn, kcw, kpx, kg3, Int.toNat_natCast, hdec, cond_true]
    · exact fun _ _ => trivial
  · obtain ⟨⟩ := a
    simp [kcj, kcs, kg4, kg9, kjd, kjf, kjv, kjx, kkb, kig, k3r, LT.out, kcw, List.length_range]

theorem k158 (xs : List (Int × ByteArray × Int)) (hn : leN xs.length 1048576 = true) : kra xs = xs ∧ kr0 xs = true := by
  have hn := leN_iff.1 hn
  have hr : (List.replicate (Int.toNat (xs.length : Int)) ((0 : Int), (⟨#[]⟩ : ByteArray), (0 : Int))).length = xs.length := by simp
  obtain ⟨w1, w2⟩ := k128 xs (List.replicate (Int.toNat (xs.length : Int)) ((0 : Int), (⟨#[]⟩ : ByteArray), (0 : Int))) (by omega) hr
  have hc := walk_copy (xs := xs) (d := ((0 : Int), (⟨#[]⟩ : ByteArray), (0 : Int))) (g := fun x => x) (f := kdz xs) (e := 0) (fun b a => rfl) hr
  rw [hc] at w2
  refine ⟨?_, ?_⟩
  · simp only [kqa, kra, kr0, w2, kb9]; simp
  · simp only [kqa, kra, kr0, w1, allT]; simp; omega

def kyv : List SV → List Entry → Option Out
  | [.one ⟨false, [.ref 0]⟩], [.row false 175 (.pair (.int .i64) (.pair (.str) (.int .i64))) x0] => some ⟨(.one ⟨false, [(.ref 1)]⟩), [(.row false 175 (CTy.pair (CTy.int IntKind.i64) (CTy.pair CTy.str (CTy.int IntKind.i64))) x0)], [(.row true 178 (CTy.pair (CTy.int IntKind.i64) (CTy.pair CTy.str (CTy.int IntKind.i64))) (x0))], [leN x0.length 1048576]⟩
  | _, _ => none

def kui : PF Tryz.prog := PF.alt k13z kyv (by
  intro args es o h hnd; unfold kyv at h; split at h
  · rename_i x0
    cases h
    have hnd := nd_fst hnd
    have hh := k158 x0 hnd
    obtain ⟨e0, en⟩ := hh
    exact altok rfl (nd_one en) rfl rfl (by simp only [e0] <;> rfl)
  · cases h)

theorem k156 (xs ys : List (Int × ByteArray × Int)) (hn : leN xs.length 9223372036854775807 = true) : kr6 xs ys = eqTs xs ys ∧ kr8 xs ys = true := by
  have hn := leN_iff.1 hn
  unfold eqTs
  have h3 : ∀ a b : Int × ByteArray × Int, (!kqc a.1 a.2.1 a.2.2 b.1 b.2.1 b.2.2) = !decide (a = b) := fun a b => by
    obtain ⟨a1, a2, a3⟩ := a; obtain ⟨b1, b2, b3⟩ := b
    simp only [kqc, Prod.mk.injEq]
    by_cases h1 : a1 = b1 <;> by_cases h2 : a2 = b2 <;> by_cases h3 : a3 = b3 <;> simp [h1, h2, h3, k16i]
  by_cases hl : ys.length = xs.length
  · obtain ⟨w1, w2⟩ := k120 xs ys hn hl
    have ha := any_ne (d := ((0 : Int), ByteArray.empty, (0 : Int))) hl (P := fun b => !decide (Option.getD xs[b]? ((0 : Int), ByteArray.empty, (0 : Int)) = Option.getD ys[b]? ((0 : Int), ByteArray.empty, (0 : Int)))) (fun b => rfl)
    rw [walk_stop (P := fun b => !decide (Option.getD xs[b]? ((0 : Int), ByteArray.empty, (0 : Int)) = Option.getD ys[b]? ((0 : Int), ByteArray.empty, (0 : Int)))) (j := 0) (fun b => by simp only [kg3, h3]), ha] at w2
    simp only [kq2, kq6, kr6, kr8, w1, w2, allT]
    by_cases he : xs = ys
    · subst he; simp; decide
    · simp [he, hl]
  · have hne : xs ≠ ys := fun h => hl (by rw [h])
    simp [kq2, kq6, kr6, kr8, allT, hne]
    omega

def kyx : List SV → List Entry → Option Out
  | [.one ⟨false, [.ref 0]⟩, .one ⟨false, [.ref 1]⟩], [.row false 178 (.pair (.int .i64) (.pair (.str) (.int .i64))) x0, .row false 178 (.pair (.int .i64) (.pair (.str) (.int .i64))) x1] => some ⟨(.one ⟨false, [(.val (.bool (eqTs x0 x1)))]⟩), [(.row false 178 (CTy.pair (CTy.int IntKind.i64) (CTy.pair CTy.str (CTy.int IntKind.i64))) x0), (.row false 178 (CTy.pair (CTy.int IntKind.i64) (CTy.pair CTy.str (CTy.int IntKind.i64))) x1)], [], [leN x0.length 9223372036854775807]⟩
  | _, _ => none

def ktz : PF Tryz.prog := PF.alt k140 kyx (by
  intro args es o h hnd; unfold kyx at h; split at h
  · rename_i x0 x1
    cases h
    have hnd := nd_fst hnd
    have hh := k156 x0 x1 hnd
    obtain ⟨e0, en⟩ := hh
    exact altok rfl (nd_one en) (by simp only [e0] <;> rfl) rfl rfl
  · cases h)

def eqIs (xs ys : List (Int × Int)) : Bool := decide (xs = ys)
theorem k15y (xs : List (Int × Int)) : eqIs xs xs = true := by simp [eqIs]

def k7p (y1 : List (Int × Int)) (b : Nat) : (List (Int × Int)) → Nat ⊕ (List (Int × Int))
  | y2 => (.inr ((List.set y2 (b) (Prod.fst ((Option.getD y1[b]? ((0 : Int), (0 : Int)))), Prod.snd ((Option.getD y1[b]? ((0 : Int), (0 : Int))))))))

def k5i (y1 : List (Int × Int)) (i : Nat) : (List (Int × Int)) → k3h
  | y2 => ((i : Int), y1, y2)

def kic : k3h → List (Int × Int)
  | (_, _, y2) => y2

theorem kub (y1 : List (Int × Int)) (y2 : List (Int × Int)) (hn : y1.length ≤ 9223372036854775807) (hl : y2.length = y1.length) :
    k25.fin ((0 : Int), y1, y2) = true ∧ k25.res ((0 : Int), y1, y2) = ((walkL (k7p y1) 0 (List.range y1.length) 0 y2).1, (k5i y1) (walkL (k7p y1) 0 (List.range y1.length) 0 y2).2.1 (walkL (k7p y1) 0 (List.range y1.length) 0 y2).2.2) := by
  have key := k25.along (k5i y1) kic (k7p y1) 0 (fun _ a => a.length = y1.length) (List.range y1.length) y2 hl (by simp only [k25, k5i, List.length_range]; omega) (fun i b a hb hI => ?_) (fun a hI => ?_)
  · exact key
  · obtain y2 := a
    obtain ⟨rfl, hlt⟩ := range_get hb
    have hw : IntKind.i64.wrap ((b : Int) + 1) = ((b + 1 : Nat) : Int) := by rw [wrap_i64 (by omega) (by omega)]; omega
    have hdec : ltI (b : Int) (y1.length : Int) = true := ltI_t (by omega)
    have hnn : leI (0 : Int) (b : Int) = true := leI_t (by omega)
    have hltd : ltN b y1.length = true := ltN_t (by omega)
    refine ⟨?_, ?_, ?_, ?_⟩
    · simp [k8u, k9u, k9x, kbs, kbq, kbo, kbp, kbr, kbc, k25, LT.nds, allT, k5i, hdec, hnn, hltd, hI]
    · simp [k8u, k9u, k9x, kbs, kbq, kbo, kbp, kbr, kbc, k25, LT.each, k5i, kic, hw, hI]
    · simp only [k8u, k9u, k9x, kbs, kbq, kbo, kbp, kbr, kbc, k25, LT.fn, k5i, kic, k7p, Int.toNat_natCast, hdec, cond_true]
    · intro a' hf; simp only [k7p, Sum.inr.injEq] at hf; subst hf; simpa using hI
  · obtain y2 := a
    simp [k8u, k9u, k9x, kbs, kbq, kbo, kbp, kbr, kbc, k25, LT.out, k5i, List.length_range]

def k9k (y1 : List (Int × Int)) (y2 : List (Int × Int)) (b : Nat) : (Unit) → Nat ⊕ (Unit)
  | _ => (bif ((!kfv (Prod.fst ((Option.getD y1[b]? ((0 : Int), (0 : Int))))) (Prod.snd ((Option.getD y1[b]? ((0 : Int), (0 : Int))))) (Prod.fst ((Option.getD y2[b]? ((0 : Int), (0 : Int))))) (Prod.snd ((Option.getD y2[b]? ((0 : Int), (0 : Int))))))) then (.inl 0) else (.inr ()))

def k6l (y1 : List (Int × Int)) (y2 : List (Int × Int)) (i : Nat) : (Unit) → k3f
  | _ => ((i : Int), y1, y2)

def kio : k3f → Unit
  | (_, _, _) => ()

theorem kua (y1 : List (Int × Int)) (y2 : List (Int × Int))  (hn : y1.length ≤ 9223372036854775807) (he : y2.length = y1.length) :
    k1y.fin ((0 : Int), y1, y2) = true ∧ k1y.res ((0 : Int), y1, y2) = ((walkL (k9k y1 y2) 1 (List.range y1.length) 0 ()).1, (k6l y1 y2) (walkL (k9k y1 y2) 1 (List.range y1.length) 0 ()).2.1 (walkL (k9k y1 y2) 1 (List.range y1.length) 0 ()).2.2) := by
  have key := k1y.along (k6l y1 y2) kio (k9k y1 y2) 1 (fun _ _ => True) (List.range y1.length) () (by trivial) (by simp only [k1y, k6l, List.length_range]; omega) (fun i b a hb hI => ?_) (fun a hI => ?_)
  · exact key
  · obtain ⟨⟩ := a
    obtain ⟨rfl, hlt⟩ := range_get hb
    have hw : IntKind.i64.wrap ((b : Int) + 1) = ((b + 1 : Nat) : Int) := by rw [wrap_i64 (by omega) (by omega)]; omega
    have hdec : ltI (b : Int) (y1.length : Int) = true := ltI_t (by omega)
    have hnn : leI (0 : Int) (b : Int) = true := leI_t (by omega)
    have hltd : ltN b y1.length = true := ltN_t (by omega)
    refine ⟨?_, ?_, ?_, ?_⟩
    · simp [k8s, k8v, k9j, k9t, kbz, kbj, kbh, kbn, kc3, kbb, k1y, LT.nds, allT, k6l, hdec, hnn, hltd, he]
    · simp [k8s, k8v, k9j, k9t, kbz, kbj, kbh, kbn, kc3, kbb, k1y, LT.each, k6l, kio, hw, he]
    · simp only [k8s, k8v, k9j, k9t, kbz, kbj, kbh, kbn, kc3, kbb, k1y, LT.fn, k6l, kio, k9k, Int.toNat_natCast, hdec, cond_true]
    · exact fun _ _ => trivial
  · obtain ⟨⟩ := a
    simp [k8s, k8v, k9j, k9t, kbz, kbj, kbh, kbn, kc3, kbb, k1y, LT.out, k6l, List.length_range]

theorem k11y (xs : List (Int × Int)) (hn : leN xs.length 1048576 = true) : khn xs = xs ∧ khs xs = true := by
  have hn := leN_iff.1 hn
  have hr : (List.replicate (Int.toNat (xs.length : Int)) ((0 : Int), (0 : Int))).length = xs.length := by simp
  obtain ⟨w1, w2⟩ := kub xs (List.replicate (Int.toNat (xs.length : Int)) ((0 : Int), (0 : Int))) (by omega) hr
  have hc := walk_copy (xs := xs) (d := ((0 : Int), (0 : Int))) (g := fun x => x) (f := k7p xs) (e := 0) (fun b a => rfl) hr
  rw [hc] at w2
  refine ⟨?_, ?_⟩
  · simp only [khl, khn, khs, w2, k5i]; simp
  · simp only [khl, khn, khs, w1, allT]; simp; omega

def kqs : List SV → List Entry → Option Out
  | [.one ⟨false, [.ref 0]⟩], [.row false 183 (.pair (.int .i64) (.int .i64)) x0] => some ⟨(.one ⟨false, [(.ref 1)]⟩), [(.row false 183 (CTy.pair (CTy.int IntKind.i64) (CTy.int IntKind.i64)) x0)], [(.row true 150 (CTy.pair (CTy.int IntKind.i64) (CTy.int IntKind.i64)) (x0))], [leN x0.length 1048576]⟩
  | _, _ => none

def kn1 : PF Tryz.prog := PF.alt kx5 kqs (by
  intro args es o h hnd; unfold kqs at h; split at h
  · rename_i x0
    cases h
    have hnd := nd_fst hnd
    have hh := k11y x0 hnd
    obtain ⟨e0, en⟩ := hh
    exact altok rfl (nd_one en) rfl rfl (by simp only [e0] <;> rfl)
  · cases h)

theorem k11v (xs ys : List (Int × Int)) (hn : leN xs.length 9223372036854775807 = true) : khp xs ys = eqIs xs ys ∧ khv xs ys = true := by
  have hn := leN_iff.1 hn
  unfold eqIs
  have h3 : ∀ a b : Int × Int, (!kfv a.1 a.2 b.1 b.2) = !decide (a = b) := fun a b => by
    obtain ⟨a1, a2⟩ := a; obtain ⟨b1, b2⟩ := b
    simp only [kfv, Prod.mk.injEq]
    by_cases h1 : a1 = b1 <;> by_cases h2 : a2 = b2 <;> simp [h1, h2]
  by_cases hl : ys.length = xs.length
  · obtain ⟨w1, w2⟩ := kua xs ys hn hl
    have ha := any_ne (d := ((0 : Int), (0 : Int))) hl (P := fun b => !decide (Option.getD xs[b]? ((0 : Int), (0 : Int)) = Option.getD ys[b]? ((0 : Int), (0 : Int)))) (fun b => rfl)
    rw [walk_stop (P := fun b => !decide (Option.getD xs[b]? ((0 : Int), (0 : Int)) = Option.getD ys[b]? ((0 : Int), (0 : Int)))) (j := 0) (fun b => by simp only [k9k, h3]), ha] at w2
    simp only [kgo, kgz, khp, khv, w1, w2, allT]
    by_cases he : xs = ys
    · subst he; simp; decide
    · simp [he, hl]
  · have hne : xs ≠ ys := fun h => hl (by rw [h])
    simp [kgo, kgz, khp, khv, allT, hne]
    omega

def kqy : List SV → List Entry → Option Out
  | [.one ⟨false, [.ref 0]⟩, .one ⟨false, [.ref 1]⟩], [.row false 150 (.pair (.int .i64) (.int .i64)) x0, .row false 150 (.pair (.int .i64) (.int .i64)) x1] => some ⟨(.one ⟨false, [(.val (.bool (eqIs x0 x1)))]⟩), [(.row false 150 (CTy.pair (CTy.int IntKind.i64) (CTy.int IntKind.i64)) x0), (.row false 150 (CTy.pair (CTy.int IntKind.i64) (CTy.int IntKind.i64)) x1)], [], [leN x0.length 9223372036854775807]⟩
  | _, _ => none

def kmw : PF Tryz.prog := PF.alt kwx kqy (by
  intro args es o h hnd; unfold kqy at h; split at h
  · rename_i x0 x1
    cases h
    have hnd := nd_fst hnd
    have hh := k11v x0 x1 hnd
    obtain ⟨e0, en⟩ := hh
    exact altok rfl (nd_one en) (by simp only [e0] <;> rfl) rfl rfl
  · cases h)

def upG {α : Type} (d : Nat) (mk : Int → α) (k : Int) (n : Nat) : List α := (List.range n).map fun (i : Nat) => mk (k + d * (i : Int))

theorem k16n {α : Type} (d : Nat) (mk : Int → α) (k : Int) (n : Nat) : upG d mk k (n + 1) = mk k :: upG d mk (k + d) n := by
  unfold upG
  rw [List.range_succ_eq_map, List.map_cons, List.map_map]
  congr 1
  · simp
  · refine List.map_congr_left fun i _ => ?_
    simp only [Function.comp]
    congr 1
    simp [Int.mul_add]; omega

theorem k12l {α : Type} {d : Nat} {mk : Int → α} {f : Nat → Int × List α → Nat ⊕ (Int × List α)} {e : Nat}
    (hf : ∀ (b : Nat) (k : Int) (xs : List α), b < xs.length → 0 ≤ k → k + d ≤ 9223372036854775807 → f b (k, xs) = .inr (k + d, xs.set b (mk k))) :
    ∀ (ys pre : List α) (k : Int), 0 ≤ k → k + d * (ys.length : Int) ≤ 9223372036854775807 →
      walkL f e (List.range' pre.length ys.length) pre.length (k, pre ++ ys) = (e, pre.length + ys.length, (k + d * (ys.length : Int), pre ++ upG d mk k ys.length))
  | [], pre, k, _, _ => by simp [walkL, upG]
  | y :: ys, pre, k, h0, h1 => by
    have hd : (d : Int) * (((y :: ys).length : Nat) : Int) = d + d * (ys.length : Int) := by simp [Int.mul_add]; omega
    rw [hd] at h1
    have hp : 0 ≤ (d : Int) * (ys.length : Int) := Int.mul_nonneg (by omega) (by omega)
    have hs : (pre ++ y :: ys).set pre.length (mk k) = (pre ++ [mk k]) ++ ys := by rw [List.set_append_right _ _ (Nat.le_refl _)]; simp
    have ih := k12l (e := e) hf ys (pre ++ [mk k]) (k + d) (by omega) (by omega)
    rw [List.length_cons, List.range'_succ]
    simp only [walkL, hf pre.length k (pre ++ y :: ys) (by simp) h0 (by omega), hs]
    rw [List.length_append, List.length_singleton] at ih
    rw [ih, k16n]
    simp [Int.mul_add]
    omega

def mkOk3 (d : Nat) (k : Int) (n : Nat) : Bool := leI 0 k && leI (k + d * (n : Int)) 9223372036854775807
theorem k129 {d : Nat} {k : Int} {n : Nat} : mkOk3 d k n = true ↔ 0 ≤ k ∧ k + d * (n : Int) ≤ 9223372036854775807 := by simp [mkOk3]

def k4n  (b : Nat) : (Int × List (Int × Int)) → Nat ⊕ (Int × List (Int × Int))
  | (y1, y2) => (.inr (((IntKind.wrap IntKind.i64 ((IntKind.wrap IntKind.i64 (y1 + (1 : Int))) + (1 : Int)))), ((List.set ((List.set y2 (b) (y1, Prod.snd (Option.getD y2[b]? ((0 : Int), (0 : Int)))))) (b) (Prod.fst (Option.getD ((List.set y2 (b) (y1, Prod.snd (Option.getD y2[b]? ((0 : Int), (0 : Int))))))[b]? ((0 : Int), (0 : Int))), (IntKind.wrap IntKind.i64 (y1 + (1 : Int))))))))

def k45  (i : Nat) : (Int × List (Int × Int)) → k2n
  | (y1, y2) => ((i : Int), y1, y2)

def kg1 : k2n → Int × List (Int × Int)
  | (_, y1, y2) => (y1, y2)

theorem kt2  (y1 : Int) (y2 : List (Int × Int)) (n : Nat) (hl : y2.length = n) (hn : n ≤ 9223372036854775807)  :
    k1x.fin ((0 : Int), y1, y2) = true ∧ k1x.res ((0 : Int), y1, y2) = ((walkL (k4n) 0 (List.range n) 0 (y1, y2)).1, (k45) (walkL (k4n) 0 (List.range n) 0 (y1, y2)).2.1 (walkL (k4n) 0 (List.range n) 0 (y1, y2)).2.2) := by
  have key := k1x.along (k45) kg1 (k4n) 0 (fun _ a => a.2.length = n) (List.range n) (y1, y2) hl (by simp only [k1x, k45, List.length_range]; omega) (fun i b a hb hI => ?_) (fun a hI => ?_)
  · exact key
  · obtain ⟨y1, y2⟩ := a
    obtain ⟨rfl, hlt⟩ := range_get hb
    have hI0 : y2.length = n := hI
    have hw : IntKind.i64.wrap ((b : Int) + 1) = ((b + 1 : Nat) : Int) := by rw [wrap_i64 (by omega) (by omega)]; omega
    have hdec : ltI (b : Int) (y2.length : Int) = true := ltI_t (by omega)
    have hnn : leI (0 : Int) (b : Int) = true := leI_t (by omega)
    have hltd : ltN b y2.length = true := ltN_t (by omega)
    refine ⟨?_, ?_, ?_, ?_⟩
    · simp [k44, k7l, k89, k88, kah, kag, kat, kan, kam, kaw, k9z, k1x, LT.nds, allT, k45, hdec, hnn, hltd]
    · simp [k44, k7l, k89, k88, kah, kag, kat, kan, kam, kaw, k9z, k1x, LT.each, k45, kg1, hw]
    · simp only [k44, k7l, k89, k88, kah, kag, kat, kan, kam, kaw, k9z, k1x, LT.fn, k45, kg1, k4n, Int.toNat_natCast, hdec, hnn, hltd, cond_true, Bool.cond_self]
    · intro a' hf; simp only [k4n, Sum.inr.injEq] at hf; subst hf; simp [hI0]
  · obtain ⟨y1, y2⟩ := a
    have hI0 : y2.length = n := hI
    simp [k44, k7l, k89, k88, kah, kag, kat, kan, kam, kaw, k9z, k1x, LT.out, k45, hI0, List.length_range]

def kac  (b : Nat) : (Int × List (Int × (ByteArray × Int))) → Nat ⊕ (Int × List (Int × (ByteArray × Int)))
  | (y1, y2) => (.inr (((IntKind.wrap IntKind.i64 ((IntKind.wrap IntKind.i64 ((IntKind.wrap IntKind.i64 (y1 + (1 : Int))) + (1 : Int))) + (1 : Int)))), ((List.set ((List.set ((List.set y2 (b) (y1, Prod.fst ((Prod.snd (Option.getD y2[b]? ((0 : Int), ByteArray.empty, (0 : Int))))), Prod.snd ((Prod.snd (Option.getD y2[b]? ((0 : Int), ByteArray.empty, (0 : Int)))))))) (b) (Prod.fst ((Option.getD ((List.set y2 (b) (y1, Prod.fst ((Prod.snd (Option.getD y2[b]? ((0 : Int), ByteArray.empty, (0 : Int))))), Prod.snd ((Prod.snd (Option.getD y2[b]? ((0 : Int), ByteArray.empty, (0 : Int))))))))[b]? ((0 : Int), ByteArray.empty, (0 : Int)))), kko ((IntKind.wrap IntKind.i64 (y1 + (1 : Int)))), Prod.snd (Prod.snd ((Option.getD ((List.set y2 (b) (y1, Prod.fst ((Prod.snd (Option.getD y2[b]? ((0 : Int), ByteArray.empty, (0 : Int))))), Prod.snd ((Prod.snd (Option.getD y2[b]? ((0 : Int), ByteArray.empty, (0 : Int))))))))[b]? ((0 : Int), ByteArray.empty, (0 : Int)))))))) (b) (Prod.fst ((Option.getD ((List.set ((List.set y2 (b) (y1, Prod.fst ((Prod.snd (Option.getD y2[b]? ((0 : Int), ByteArray.empty, (0 : Int))))), Prod.snd ((Prod.snd (Option.getD y2[b]? ((0 : Int), ByteArray.empty, (0 : Int)))))))) (b) (Prod.fst ((Option.getD ((List.set y2 (b) (y1, Prod.fst ((Prod.snd (Option.getD y2[b]? ((0 : Int), ByteArray.empty, (0 : Int))))), Prod.snd ((Prod.snd (Option.getD y2[b]? ((0 : Int), ByteArray.empty, (0 : Int))))))))[b]? ((0 : Int), ByteArray.empty, (0 : Int)))), kko ((IntKind.wrap IntKind.i64 (y1 + (1 : Int)))), Prod.snd (Prod.snd ((Option.getD ((List.set y2 (b) (y1, Prod.fst ((Prod.snd (Option.getD y2[b]? ((0 : Int), ByteArray.empty, (0 : Int))))), Prod.snd ((Prod.snd (Option.getD y2[b]? ((0 : Int), ByteArray.empty, (0 : Int))))))))[b]? ((0 : Int), ByteArray.empty, (0 : Int))))))))[b]? ((0 : Int), ByteArray.empty, (0 : Int)))), Prod.fst (Prod.snd ((Option.getD ((List.set ((List.set y2 (b) (y1, Prod.fst ((Prod.snd (Option.getD y2[b]? ((0 : Int), ByteArray.empty, (0 : Int))))), Prod.snd ((Prod.snd (Option.getD y2[b]? ((0 : Int), ByteArray.empty, (0 : Int)))))))) (b) (Prod.fst ((Option.getD ((List.set y2 (b) (y1, Prod.fst ((Prod.snd (Option.getD y2[b]? ((0 : Int), ByteArray.empty, (0 : Int))))), Prod.snd ((Prod.snd (Option.getD y2[b]? ((0 : Int), ByteArray.empty, (0 : Int))))))))[b]? ((0 : Int), ByteArray.empty, (0 : Int)))), kko ((IntKind.wrap IntKind.i64 (y1 + (1 : Int)))), Prod.snd (Prod.snd ((Option.getD ((List.set y2 (b) (y1, Prod.fst ((Prod.snd (Option.getD y2[b]? ((0 : Int), ByteArray.empty, (0 : Int))))), Prod.snd ((Prod.snd (Option.getD y2[b]? ((0 : Int), ByteArray.empty, (0 : Int))))))))[b]? ((0 : Int), ByteArray.empty, (0 : Int))))))))[b]? ((0 : Int), ByteArray.empty, (0 : Int))))), (IntKind.wrap IntKind.i64 ((IntKind.wrap IntKind.i64 (y1 + (1 : Int))) + (1 : Int))))))))

def k8x  (i : Nat) : (Int × List (Int × (ByteArray × Int))) → k71
  | (y1, y2) => ((i : Int), y1, y2)

def kny : k71 → Int × List (Int × (ByteArray × Int))
  | (_, y1, y2) => (y1, y2)

theorem kzn  (y1 : Int) (y2 : List (Int × (ByteArray × Int))) (n : Nat) (hl : y2.length = n) (hn : n ≤ 9223372036854775807) (h1 : 0 ≤ y1) (h2 : y1 + 3 * (n : Int) ≤ 9223372036854775807) :
    k3a.fin ((0 : Int), y1, y2) = true ∧ k3a.res ((0 : Int), y1, y2) = ((walkL (kac) 0 (List.range n) 0 (y1, y2)).1, (k8x) (walkL (kac) 0 (List.range n) 0 (y1, y2)).2.1 (walkL (kac) 0 (List.range n) 0 (y1, y2)).2.2) := by
  have key := k3a.along (k8x) kny (kac) 0 (fun i a => a.2.length = n ∧ 0 ≤ a.1 ∧ a.1 + 3 * ((n - i : Nat) : Int) ≤ 9223372036854775807) (List.range n) (y1, y2) ⟨hl, h1, by simpa using h2⟩ (by simp only [k3a, k8x, List.length_range]; omega) (fun i b a hb hI => ?_) (fun a hI => ?_)
  · exact key
  · obtain ⟨y1, y2⟩ := a
    obtain ⟨rfl, hlt⟩ := range_get hb
    have hI0 : y2.length = n := hI.1
    have hw : IntKind.i64.wrap ((b : Int) + 1) = ((b + 1 : Nat) : Int) := by rw [wrap_i64 (by omega) (by omega)]; omega
    have hdec : ltI (b : Int) (y2.length : Int) = true := ltI_t (by omega)
    have hnn : leI (0 : Int) (b : Int) = true := leI_t (by omega)
    have hltd : ltN b y2.length = true := ltN_t (by omega)
    refine ⟨?_, ?_, ?_, ?_⟩
    · have hk := hI.2
      simp only at hk
      have hw1 : IntKind.i64.wrap (y1 + 1) = y1 + 1 := wrap_i64 (by omega) (by omega)
      have h6 : kne (y1 + 1) = true := k16h (y1 + 1) ((Bool.and_eq_true _ _).mpr ⟨leI_t (by omega), leI_t (by omega)⟩)
      simp [kb2, kcr, k8y, kd1, k93, kci, kcy, kdn, kbw, khg, kgf, kgx, kh8, kha, kgy, khd, kh1, kfu, kfj, k3a, LT.nds, allT, k8x, hdec, hnn, hltd, hw1, h6]
    · simp [kb2, kcr, k8y, kd1, k93, kci, kcy, kdn, kbw, khg, kgf, kgx, kh8, kha, kgy, khd, kh1, kfu, kfj, k3a, LT.each, k8x, kny, hw]
    · simp only [kb2, kcr, k8y, kd1, k93, kci, kcy, kdn, kbw, khg, kgf, kgx, kh8, kha, kgy, khd, kh1, kfu, kfj, k3a, LT.fn, k8x, kny, kac, Int.toNat_natCast, hdec, hnn, hltd, cond_true, Bool.cond_self]
    · have hk := hI.2
      simp only at hk
      intro a' hf; simp only [kac, Sum.inr.injEq] at hf
      subst hf
      refine ⟨by simp [hI0], ?_⟩
      simp only
      rw [wrap_i64 (x := y1 + 1) (by omega) (by omega), wrap_i64 (x := y1 + 1 + 1) (by omega) (by omega), wrap_i64 (x := y1 + 1 + 1 + 1) (by omega) (by omega)]
      omega
  · obtain ⟨y1, y2⟩ := a
    have hI0 : y2.length = n := hI.1
    simp [kb2, kcr, k8y, kd1, k93, kci, kcy, kdn, kbw, khg, kgf, kgx, kh8, kha, kgy, khd, kh1, kfu, kfj, k3a, LT.out, k8x, hI0, List.length_range]

def mkI (k : Int) : Int × Int := (k, k + 1)

theorem k16v (b : Nat) (k : Int) (xs : List (Int × Int)) (hb : b < xs.length) (h0 : 0 ≤ k) (h1 : k + (2 : Nat) ≤ 9223372036854775807) : k4n b (k, xs) = .inr (k + (2 : Nat), xs.set b (mkI k)) := by
  have w1 : IntKind.i64.wrap (k + 1) = k + 1 := wrap_i64 (by omega) (by omega)
  have w2 : IntKind.i64.wrap (k + 1 + 1) = k + 2 := by rw [wrap_i64 (by omega) (by omega)]; omega
  simp [k4n, mkI, w1, w2, List.set_set, List.getElem?_set, hb]

def mkT (k : Int) : TM := (k, kko (k + 1), k + 2)

theorem k16s (b : Nat) (k : Int) (xs : List TM) (hb : b < xs.length) (h0 : 0 ≤ k) (h1 : k + (3 : Nat) ≤ 9223372036854775807) : kac b (k, xs) = .inr (k + (3 : Nat), xs.set b (mkT k)) := by
  have w1 : IntKind.i64.wrap (k + 1) = k + 1 := wrap_i64 (by omega) (by omega)
  have w2 : IntKind.i64.wrap (k + 1 + 1) = k + 2 := by rw [wrap_i64 (by omega) (by omega)]; omega
  have w3 : IntKind.i64.wrap (k + 2 + 1) = k + 3 := by rw [wrap_i64 (by omega) (by omega)]; omega
  simp [kac, mkT, w1, w2, w3, List.set_set, List.getElem?_set, hb]

theorem k16l (k : Int) (xs : List (Int × Int)) (h : (mkOk3 2 k xs.length && leN xs.length 9223372036854775807) = true) : kkt k xs = k + 2 * (xs.length : Int) ∧ kku k xs = true := by
  simp only [Bool.and_eq_true, leN_iff] at h
  obtain ⟨h0, h2⟩ := k129.1 h.1
  obtain ⟨w1, w2⟩ := kt2 k xs xs.length rfl h.2
  have hw := k12l (e := 0) k16v xs [] k h0 h2
  rw [List.length_nil, List.nil_append, ← List.range_eq_range'] at hw
  rw [hw] at w2
  refine ⟨?_, ?_⟩
  · simp only [kkt, kei, kj9, w2, k45]; rfl
  · simp only [kku, kei, w1, allT, cond_true]

theorem k15u (k : Int) (xs : List TM) (h : (mkOk3 3 k xs.length && leN xs.length 9223372036854775807) = true) : ks3 k xs = k + 3 * (xs.length : Int) ∧ krk k xs = true := by
  simp only [Bool.and_eq_true, leN_iff] at h
  obtain ⟨h0, h2⟩ := k129.1 h.1
  obtain ⟨w1, w2⟩ := kzn k xs xs.length rfl h.2 h0 h2
  have hw := k12l (e := 0) k16s xs [] k h0 h2
  rw [List.length_nil, List.nil_append, ← List.range_eq_range'] at hw
  rw [hw] at w2
  refine ⟨?_, ?_⟩
  · simp only [ks3, kni, kqi, w2, k8x]; rfl
  · simp only [krk, kni, w1, allT, cond_true]

def kp4 : List SV → List Entry → Option Out
  | [.one ⟨false, [.ref 0]⟩, .one ⟨false, [.val (.int .i64 x0)]⟩], [.row true 150 (.pair (.int .i64) (.int .i64)) x1] => some ⟨(.one ⟨false, [(.val (.int IntKind.i64 (x0 + 2 * (x1.length : Int))))]⟩), [(.row true 150 (CTy.pair (CTy.int IntKind.i64) (CTy.int IntKind.i64)) (kky x0 x1))], [], [mkOk3 2 x0 x1.length && leN x1.length 9223372036854775807]⟩
  | _, _ => none

def kkx : PF Tryz.prog := PF.alt kuz kp4 (by
  intro args es o h hnd; unfold kp4 at h; split at h
  · rename_i x0 x1
    cases h
    have hnd := nd_fst hnd
    have hh := k16l x0 x1 hnd
    obtain ⟨e0, en⟩ := hh
    exact altok rfl (nd_one en) (by simp only [e0] <;> rfl) rfl rfl
  · cases h)

def kwe : List SV → List Entry → Option Out
  | [.one ⟨false, [.ref 0]⟩, .one ⟨false, [.val (.int .i64 x0)]⟩], [.row true 178 (.pair (.int .i64) (.pair (.str) (.int .i64))) x1] => some ⟨(.one ⟨false, [(.val (.int IntKind.i64 (x0 + 3 * (x1.length : Int))))]⟩), [(.row true 178 (CTy.pair (CTy.int IntKind.i64) (CTy.pair CTy.str (CTy.int IntKind.i64))) (krz x0 x1))], [], [mkOk3 3 x0 x1.length && leN x1.length 9223372036854775807]⟩
  | _, _ => none

def krc : PF Tryz.prog := PF.alt k12k kwe (by
  intro args es o h hnd; unfold kwe at h; split at h
  · rename_i x0 x1
    cases h
    have hnd := nd_fst hnd
    have hh := k15u x0 x1 hnd
    obtain ⟨e0, en⟩ := hh
    exact altok rfl (nd_one en) (by simp only [e0] <;> rfl) rfl rfl
  · cases h)

def szL (k : Int) (n : Nat) : Int := bif ltI (k - n) 0 then -1 else k - n

theorem szI_ok (k : Int) (xs : List (Int × Int)) (h : (leN xs.length 9223372036854775807 && (leI (-1) k && leI k 1048576)) = true) : kn7 k xs = szL k xs.length := by
  simp only [Bool.and_eq_true, leN_iff, leI_iff] at h
  simp only [kn7, kln, szL]
  rw [wrap_i64 (by omega) (by omega)]

def kqz : List SV → List Entry → Option Out
  | [.one ⟨false, [.ref 0]⟩, .one ⟨false, [.val (.int .i64 x0)]⟩], [.row false 183 (.pair (.int .i64) (.int .i64)) x1] => some ⟨(.one ⟨false, [(.val (.int IntKind.i64 (szL x0 x1.length)))]⟩), [(.row false 183 (CTy.pair (CTy.int IntKind.i64) (CTy.int IntKind.i64)) x1)], [], [leN x1.length 9223372036854775807 && (leI (-1) x0 && leI x0 1048576)]⟩
  | _, _ => none

def knb : PF Tryz.prog := PF.alt kx0 kqz (by
  intro args es o h hnd; unfold kqz at h; split at h
  · rename_i x0 x1
    cases h
    have hnd := nd_fst hnd
    have hh := szI_ok x0 x1 hnd
    have e0 := hh
    exact altok rfl (fun _ h => by cases h) (by simp only [e0] <;> rfl) rfl rfl
  · cases h)

def szTGo : Int → List TM → Int
  | k, [] => k
  | k, t :: r => bif ltI (kdl t.2.1 k) 0 then -1 else szTGo (kdl t.2.1 k) r
def szTs (k : Int) (ts : List TM) : Int := bif ltI (k - ts.length) 0 then -1 else szTGo (k - ts.length) ts

theorem k161 {s : ByteArray} {k : Int} (hs : s.size ≤ 9223372036854775807) (hk : 0 ≤ k ∧ k ≤ 1048576) : kdl s k = bif ltI (k - (s.size : Int)) 0 then -1 else k - (s.size : Int) := by
  have hw : IntKind.i64.wrap (k - (s.size : Int)) = k - (s.size : Int) := wrap_i64 (by omega) (by omega)
  simp only [kdl, ku6, hw]

def kcc  (b : Int × (ByteArray × Int)) : (Int) → Nat ⊕ (Int)
  | y1 => (bif ((ltI ((kdl (Prod.fst (Prod.snd (b))) y1)) (0 : Int))) then (.inl 0) else (.inr (((kdl (Prod.fst (Prod.snd (b))) y1)))))

def kbd (y2 : List (Int × (ByteArray × Int))) (i : Nat) : (Int) → k9e
  | y1 => ((i : Int), y1, y2)

def kpq : k9e → Int
  | (_, y1, _) => y1

theorem k11z (y2 : List (Int × (ByteArray × Int))) (y1 : Int) (hn : y2.length ≤ 9223372036854775807)  :
    k39.fin ((0 : Int), y1, y2) = true ∧ k39.res ((0 : Int), y1, y2) = ((walkL (kcc) 1 y2 0 y1).1, (kbd y2) (walkL (kcc) 1 y2 0 y1).2.1 (walkL (kcc) 1 y2 0 y1).2.2) := by
  have key := k39.along (kbd y2) kpq (kcc) 1 (fun _ _ => True) y2 y1 (by trivial) (by simp only [k39, kbd]; omega) (fun i b a hb hI => ?_) (fun a hI => ?_)
  · exact key
  · obtain y1 := a
    have hlt := (List.getElem?_eq_some_iff.1 hb).1
    have hget : ∀ d, Option.getD y2[i]? d = b := fun d => by rw [hb]; rfl
    have hw := wrap64 hlt hn
    have hdec : ltI (i : Int) (y2.length : Int) = true := ltI_t (by omega)
    have hnn : leI (0 : Int) (i : Int) = true := leI_t (by omega)
    have hltd : ltN i y2.length = true := ltN_t hlt
    refine ⟨?_, ?_, ?_, ?_⟩
    · simp [keu, kge, kk4, kje, kjk, ke2, kjm, kk2, kim, k39, LT.nds, allT, kbd, hdec, hnn, hltd, hget]
    · simp [keu, kge, kk4, kje, kjk, ke2, kjm, kk2, kim, k39, LT.each, kbd, kpq, hw]
    · simp only [keu, kge, kk4, kje, kjk, ke2, kjm, kk2, kim, k39, LT.fn, kbd, kpq, kcc, Int.toNat_natCast, hdec, hnn, hltd, hget, cond_true, Bool.cond_self]
    · exact fun _ _ => trivial
  · obtain y1 := a
    simp [keu, kge, kk4, kje, kjk, ke2, kjm, kk2, kim, k39, LT.out, kbd]

theorem k15n : ∀ (r : List TM) (i : Nat) (k : Int), (bif Nat.beq (walkL kcc 1 r i k).1 0 then -1 else (walkL kcc 1 r i k).2.2) = szTGo k r
  | [], i, k => rfl
  | t :: r, i, k => by
    have hf : kcc t k = bif ltI (kdl t.2.1 k) 0 then .inl 0 else .inr (kdl t.2.1 k) := rfl
    simp only [walkL, hf, szTGo]
    cases h : ltI (kdl t.2.1 k) 0 with
    | true => rfl
    | false => simp only [cond_false]; exact k15n r (i + 1) _

theorem szT_ok (k : Int) (xs : List TM) (h : (leN xs.length 9223372036854775807 && (leI (-1) k && leI k 1048576)) = true) : ktu k xs = szTs k xs ∧ kud k xs = true := by
  simp only [Bool.and_eq_true, leN_iff, leI_iff] at h
  have hw : IntKind.i64.wrap (k - (xs.length : Int)) = k - (xs.length : Int) := wrap_i64 (by omega) (by omega)
  obtain ⟨w1, w2⟩ := k11z xs (k - (xs.length : Int)) h.1
  have hs := k15n xs 0 (k - (xs.length : Int))
  have e : ke2 = -1 := rfl
  simp only [ktu, kud, kq5, kq8, hw, w1, w2, kbd, allT, Bool.or_true, cond_true, szTs, e, hs, and_self]

theorem k139 : ∀ (r : List TM) (k : Int), (∀ t ∈ r, t.2.1.size ≤ 9223372036854775807) → 0 ≤ k → k ≤ 1048576 → ltI (szTGo k r) 0 = false → szTGo k r = k - totT r ∧ (totT r : Int) ≤ k
  | [], k, _, h0, h1, _ => by simp [szTGo, totT]; omega
  | t :: r, k, hs, h0, h1, h => by
    have ht := k161 (k := k) (hs t (by simp)) ⟨h0, h1⟩
    simp only [szTGo] at h ⊢
    cases h2 : ltI (k - (t.2.1.size : Int)) 0 with
    | true => rw [ht, h2] at h; rw [cond_true] at h; exact absurd (show ltI (-1) 0 = false from h) (by decide)
    | false =>
      have h3 := ltI_not.1 h2
      rw [h2, cond_false] at ht
      rw [ht, h2, cond_false] at h
      obtain ⟨q1, q2⟩ := k139 r _ (fun t ht => hs t (by simp [ht])) h3 (by omega) h
      rw [ht, h2, cond_false, q1]
      simp only [totT]
      omega

theorem k15h {k : Int} {xs : List TM} (hs : ∀ t ∈ xs, t.2.1.size ≤ 9223372036854775807) (hk : k ≤ 1048576) (h : ltI (szTs k xs) 0 = false) : szTs k xs = k - xs.length - totT xs ∧ (xs.length : Int) + totT xs ≤ k := by
  simp only [szTs] at h ⊢
  cases h2 : ltI (k - (xs.length : Int)) 0 with
  | true => rw [h2] at h; simp at h
  | false =>
    have h3 := ltI_not.1 h2
    rw [h2, cond_false] at h
    obtain ⟨q1, q2⟩ := k139 xs _ hs h3 (by omega) h
    rw [cond_false, q1]
    omega

theorem k15v {k : Int} {n : Nat} (h : ltI (szL k n) 0 = false) : szL k n = k - n ∧ (n : Int) ≤ k := by
  simp only [szL] at h ⊢
  cases h2 : ltI (k - (n : Int)) 0 with
  | true => rw [h2] at h; simp at h
  | false => have := ltI_not.1 h2; rw [cond_false]; omega

def kzt : List SV → List Entry → Option Out
  | [.one ⟨false, [.ref 0]⟩, .one ⟨false, [.val (.int .i64 x0)]⟩], [.row false 175 (.pair (.int .i64) (.pair (.str) (.int .i64))) x1] => some ⟨(.one ⟨false, [(.val (.int IntKind.i64 (szTs x0 x1)))]⟩), [(.row false 175 (CTy.pair (CTy.int IntKind.i64) (CTy.pair CTy.str (CTy.int IntKind.i64))) x1)], [], [leN x1.length 9223372036854775807 && (leI (-1) x0 && leI x0 1048576)]⟩
  | _, _ => none

def ktt : PF Tryz.prog := PF.alt k13l kzt (by
  intro args es o h hnd; unfold kzt at h; split at h
  · rename_i x0 x1
    cases h
    have hnd := nd_fst hnd
    have hh := szT_ok x0 x1 hnd
    obtain ⟨e0, en⟩ := hh
    exact altok rfl (nd_one en) (by simp only [e0] <;> rfl) rfl rfl
  · cases h)

theorem k15w (xs : List (Int × Int × Int)) (h : (leN 1 xs.length && leN xs.length 1048576) = true) : kb1 xs = true := by
  simp only [Bool.and_eq_true, leN_iff] at h
  simp [kb1, allT]
  omega

/-- slices.Clone at nil, at a slice of no elements; at any slice. -/
def k12r : List SV → List Entry → Option Out
  | [.one ⟨false, [.val (.slice none 0 0)]⟩], [] => some ⟨.one ⟨false, [.ref 0]⟩, [], [.row true 172 (.pair (.int .i64) (.pair (.int .i64) (.int .i64))) []], [true]⟩
  | _, _ => none
def k14o : PF Tryz.prog := PF.ofG Tryz.prog [PF.raw Tryz.prog] [] hmix 195 Tryz.f195 Tryz.func195 (fun c _ => LOk.nil c) k12r (by
  intro vs es r h; unfold k12r at h; split at h
  · cases h; kernel_rfl
  · cases h)
def k12t : List SV → List Entry → Option Out
  | [.one ⟨false, [.val (.slice (some _) 0 _)]⟩], [] => some ⟨.one ⟨false, [.ref 0]⟩, [], [.row true 172 (.pair (.int .i64) (.pair (.int .i64) (.int .i64))) []], [true]⟩
  | _, _ => none
def k14e : PF Tryz.prog := PF.ofG Tryz.prog [] [] hmix 195 Tryz.f195 Tryz.func195 (fun c _ => LOk.nil c) k12t (by
  intro vs es r h; unfold k12t at h; split at h
  · cases h; kernel_rfl
  · cases h)
def kjt : List SV → List Entry → Option Out
  | [.one ⟨false, [.ref 0]⟩], [.row false 172 (.pair (.int .i64) (.pair (.int .i64) (.int .i64))) x0] => some ⟨.one ⟨false, [.ref 1]⟩, [.row false 172 (.pair (.int .i64) (.pair (.int .i64) (.int .i64))) x0], [.row true 172 (.pair (.int .i64) (.pair (.int .i64) (.int .i64))) x0], [leN x0.length 1048576]⟩
  | _, _ => none
def ke1 : PF Tryz.prog where
  k := 195
  F := kjt
  ok := by
    intro args es o h hnd mem ρ w hp
    unfold kjt at h
    split at h
    · rename_i x0
      cases h
      have hl := hnd _ (List.mem_singleton.2 rfl)
      cases x0 with
      | nil =>
        exact (clone0 k14o k14e rfl rfl rfl (fun _ _ => rfl) (by simp) (by simp) hp).mono fun en w' ⟨ρ', h1, h2, h3⟩ => ⟨ρ', h1, h2, rfl, (by intro v hv; rw [List.mem_singleton.1 hv]; rfl), h3⟩
      | cons x xs => exact kqq.ok _ _ ⟨_, _, _, [kb1 (x :: xs)]⟩ rfl (fun b hb => by rw [List.mem_singleton.1 hb]; exact k15w (x :: xs) ((Bool.and_eq_true _ _).mpr ⟨leN_t (Nat.succ_pos _), hl⟩)) mem ρ w hp
    · cases h

end Go.SX

namespace Go.SX
open Go.Proofs
set_option maxRecDepth 100000

abbrev IN := Int × Int
abbrev BS3 := Int × Int × Int

/-- What an instruction takes, gives, whether it fits. -/
def tkI (bs : List TM) (x : IN) : Int := k3g x.1 x.2 bs
def gvI (x : IN) : Int := k60 x.1
def fitI (i v o : Int) (bs : List TM) (x : IN) : Bool := kek i v o x.1 x.2 bs

theorem k16k (k : Int) : 0 ≤ kkm k ∧ kkm k ≤ 2 := by
  unfold kkm
  generalize (bif k == 1 then k == 1 else bif k == 2 then k == 2 else k == 3) = b1
  generalize (bif k == 4 then k == 4 else bif k == 7 then k == 7 else bif k == 8 then k == 8 else k == 9) = b2
  cases b1 <;> cases b2 <;> decide

theorem tkI_in (bs : List TM) (x : IN) : 0 ≤ tkI bs x ∧ tkI bs x ≤ 2 := by
  have h := k16k (Prod.fst (Option.getD bs[Int.toNat x.2]? ((0 : Int), ByteArray.empty, (0 : Int))))
  unfold tkI k3g
  generalize k7x x.1 = b1
  generalize k7t x.1 = b2
  generalize kbv x.1 = b3
  generalize (x.1 == 4) = b4
  generalize (x.1 == 7) = b5
  cases b1 <;> cases b4 <;> cases b2 <;> cases b5 <;> cases b3 <;> simp only [cond_true, cond_false] <;> first | exact h | decide

theorem gvI_in (x : IN) : 0 ≤ gvI x ∧ gvI x ≤ 1 := by
  unfold gvI k60
  generalize k7x x.1 = b1
  generalize k7t x.1 = b2
  generalize kbv x.1 = b3
  generalize (x.1 == 4) = b4
  generalize (x.1 == 7) = b5
  cases b1 <;> cases b4 <;> cases b2 <;> cases b5 <;> cases b3 <;> decide

theorem fit_nd {i v o : Int} {bs : List TM} {x : IN} (hl : bs.length ≤ 2000) (h : fitI i v o bs x = true) : kes x.1 x.2 bs = true := by
  by_cases h7 : x.1 = 7
  · simp [fitI, kek, h7, k1o, Bool.cond_eq_ite] at h
    have hw : IntKind.i64.wrap ((bs.length : Int) - 1) = bs.length - 1 := wrap_i64 (by omega) (by omega)
    rw [hw] at h
    have h1 : leI 0 x.2 = true := leI_t (by omega)
    have h2 : ltI x.2 (bs.length : Int) = true := ltI_t (by omega)
    have h3 : ltN x.2.toNat bs.length = true := ltN_t (by omega)
    simp [kes, allT, h1, h2, h3]
  · simp [kes, allT, h7]

theorem k15l {i v o : Int} {bs : List TM} {x : IN} (hi : 0 ≤ i ∧ i ≤ 20) (hv : 0 ≤ v ∧ v ≤ 20) (ho : 0 ≤ o ∧ o ≤ 20) (hl : bs.length ≤ 2000) :
    (bif ltI x.2 0 then true else leI (k3c i v o x.1 bs) x.2) = !fitI i v o bs x := by
  have w1 : IntKind.i64.wrap (i - 1) = i - 1 := wrap_i64 (by omega) (by omega)
  have w2 : IntKind.i64.wrap (v - 1) = v - 1 := wrap_i64 (by omega) (by omega)
  have w3 : IntKind.i64.wrap (o - 1) = o - 1 := wrap_i64 (by omega) (by omega)
  have w4 : IntKind.i64.wrap ((bs.length : Int) - 1) = bs.length - 1 := wrap_i64 (by omega) (by omega)
  have key : ∀ m : Int, (bif ltI x.2 0 then true else leI m x.2) = !(bif leI 0 x.2 then leI x.2 (m - 1) else false) := fun m => by
    by_cases h0 : x.2 < 0
    · have a1 : ltI x.2 0 = true := ltI_t h0
      have a2 : leI 0 x.2 = false := leI_f (by omega)
      simp [a1, a2]
    · have a1 : ltI x.2 0 = false := ltI_f (by omega)
      have a2 : leI 0 x.2 = true := leI_t (by omega)
      simp only [a1, a2, cond_false, cond_true]
      by_cases hm : m ≤ x.2
      · rw [leI_t hm, leI_f (by omega)]; rfl
      · rw [leI_f (by omega), leI_t (by omega)]; rfl
  rw [key]
  simp only [fitI, kek, k3c, kkv, k1o, w1, w2, w3, w4]
  generalize (bif x.1 == 2 then x.1 == 2 else x.1 == 10) = b2
  generalize (bif x.1 == 3 then x.1 == 3 else bif x.1 == 8 then x.1 == 8 else x.1 == 11) = b3
  generalize (bif x.1 == 4 then x.1 == 4 else bif x.1 == 5 then x.1 == 5 else x.1 == 6) = b4
  generalize (x.1 == 1) = b1
  generalize (x.1 == 7) = b5
  generalize (x.1 == 9) = b6
  have e0 : (bif leI 0 x.2 then leI x.2 (1 - 1) else false) = (x.2 == 0) := by
    by_cases h : x.2 = 0
    · rw [h]; rfl
    · have : (x.2 == 0) = false := by simpa using h
      rw [this]
      by_cases h0 : 0 ≤ x.2
      · rw [leI_t h0, leI_f (by omega)]; rfl
      · rw [leI_f (by omega)]; rfl
  have e1 : (bif leI 0 x.2 then leI x.2 (0 - 1) else false) = false := by
    by_cases h0 : 0 ≤ x.2
    · rw [leI_t h0, leI_f (by omega)]; rfl
    · rw [leI_f (by omega)]; rfl
  cases b1 <;> cases b2 <;> cases b3 <;> cases b4 <;> cases b5 <;> cases b6 <;> simp only [cond_true, cond_false, e0, e1] <;> rfl

/-- The heights behind instructions. -/
def hgt (i v o : Int) (bs : List TM) : List IN → Int → List Int → Option (Int × List Int)
  | [], n, acc => some (n, acc)
  | x :: r, n, acc => bif fitI i v o bs x && (leI (tkI bs x) n && leI (n - tkI bs x + gvI x) 40) then hgt i v o bs r (n - tkI bs x + gvI x) (acc ++ [n - tkI bs x + gvI x]) else none

theorem k16a {i v o : Int} {bs : List TM} : ∀ (st : List IN) (n : Int) (acc : List Int) (m : Int) (out : List Int), hgt i v o bs st n acc = some (m, out) → out.length = acc.length + st.length
  | [], n, acc, m, out, h => by simp only [hgt, Option.some.injEq, Prod.mk.injEq] at h; rw [← h.2]; simp
  | x :: r, n, acc, m, out, h => by
    simp only [hgt] at h
    cases hc : (fitI i v o bs x && (leI (tkI bs x) n && leI (n - tkI bs x + gvI x) 40)) with
    | false => rw [hc] at h; cases h
    | true =>
      rw [hc] at h
      have := k16a r _ _ _ _ h
      rw [this]; simp; omega

/-- A step of the heights, as the reference does it. -/
def k14g (i v o : Int) (bs : List TM) (b : IN) : Int × List Int → Nat ⊕ (Int × List Int)
  | (n, acc) => bif !kek i v o b.1 b.2 bs then .inl 0 else
      bif (bif ltI n (k3g b.1 b.2 bs) then true else ltI 40 (IntKind.i64.wrap (IntKind.i64.wrap (n - k3g b.1 b.2 bs) + k60 b.1))) then .inl 1 else
      .inr (IntKind.i64.wrap (IntKind.i64.wrap (n - k3g b.1 b.2 bs) + k60 b.1), acc ++ [IntKind.i64.wrap (IntKind.i64.wrap (n - k3g b.1 b.2 bs) + k60 b.1)])

theorem k16f {i v o : Int} {bs : List TM} {b : IN} {n : Int} {acc : List Int} (hn : 0 ≤ n ∧ n ≤ 40) :
    k14g i v o bs b (n, acc) = bif !fitI i v o bs b then .inl 0 else bif !(leI (tkI bs b) n && leI (n - tkI bs b + gvI b) 40) then .inl 1 else .inr (n - tkI bs b + gvI b, acc ++ [n - tkI bs b + gvI b]) := by
  have ht := tkI_in bs b
  have hg := gvI_in b
  have e1 : k3g b.1 b.2 bs = tkI bs b := rfl
  have e2 : k60 b.1 = gvI b := rfl
  have e3 : kek i v o b.1 b.2 bs = fitI i v o bs b := rfl
  have w1 : IntKind.i64.wrap (n - tkI bs b) = n - tkI bs b := wrap_i64 (by omega) (by omega)
  have w2 : IntKind.i64.wrap (n - tkI bs b + gvI b) = n - tkI bs b + gvI b := wrap_i64 (by omega) (by omega)
  simp only [k14g, e1, e2, e3, w1, w2]
  cases fitI i v o bs b with
  | false => rfl
  | true =>
    have e4 : (bif ltI n (tkI bs b) then true else ltI 40 (n - tkI bs b + gvI b)) = !(leI (tkI bs b) n && leI (n - tkI bs b + gvI b) 40) := by
      by_cases h1 : n < tkI bs b
      · rw [ltI_t h1, leI_f (by omega)]; rfl
      · rw [ltI_f (by omega), leI_t (by omega)]
        by_cases h2 : 40 < n - tkI bs b + gvI b
        · rw [ltI_t h2, leI_f (by omega)]; rfl
        · rw [ltI_f (by omega), leI_t (by omega)]; rfl
    rw [e4]

/-- The heights by a walk. -/
theorem k14i {i v o : Int} {bs : List TM} {f : IN → Int × List Int → Nat ⊕ (Int × List Int)} {e : Nat}
    (hf : ∀ b n acc, 0 ≤ n ∧ n ≤ 40 → ((fitI i v o bs b && (leI (tkI bs b) n && leI (n - tkI bs b + gvI b) 40)) = true → f b (n, acc) = .inr (n - tkI bs b + gvI b, acc ++ [n - tkI bs b + gvI b])) ∧
      ((fitI i v o bs b && (leI (tkI bs b) n && leI (n - tkI bs b + gvI b) 40)) = false → ∃ j, j < e ∧ f b (n, acc) = .inl j)) :
    ∀ (r : List IN) (k : Nat) (n : Int) (acc : List Int), 0 ≤ n ∧ n ≤ 40 →
      (∀ m out, hgt i v o bs r n acc = some (m, out) → walkL f e r k (n, acc) = (e, k + r.length, (m, out)) ∧ 0 ≤ m ∧ m ≤ 40) ∧ (hgt i v o bs r n acc = none → (walkL f e r k (n, acc)).1 < e)
  | [], k, n, acc, hn => ⟨fun m out h => by simp only [hgt, Option.some.injEq, Prod.mk.injEq] at h; obtain ⟨rfl, rfl⟩ := h; exact ⟨rfl, hn⟩, fun h => by simp [hgt] at h⟩
  | b :: r, k, n, acc, hn => by
    have ht := tkI_in bs b
    have hg := gvI_in b
    cases hc : (fitI i v o bs b && (leI (tkI bs b) n && leI (n - tkI bs b + gvI b) 40)) with
    | true =>
      have h1 := (hf b n acc hn).1 hc
      have hb : 0 ≤ n - tkI bs b + gvI b ∧ n - tkI bs b + gvI b ≤ 40 := by simp only [Bool.and_eq_true, leI_iff] at hc; omega
      obtain ⟨g1, g2⟩ := k14i hf r (k + 1) _ (acc ++ [n - tkI bs b + gvI b]) hb
      simp only [hgt, hc, cond_true, walkL, h1]
      refine ⟨fun m out h => ?_, g2⟩
      obtain ⟨q1, q2⟩ := g1 m out h
      refine ⟨?_, q2⟩
      rw [q1]; simp; omega
    | false =>
      obtain ⟨j, hj, h1⟩ := (hf b n acc hn).2 hc
      simp only [hgt, hc, cond_false, walkL, h1]
      exact ⟨fun m out h => (by cases h), fun _ => hj⟩

def k97 (y2 : Int) (y3 : Int) (y4 : Int) (y6 : List (Int × (ByteArray × Int))) (b : Int × Int) : (Int × List Int) → Nat ⊕ (Int × List Int)
  | (y1, y5) => (bif ((!kek y2 y3 y4 (Prod.fst ((b))) (Prod.snd ((b))) y6)) then (.inl 0) else (bif ((bif ltI y1 ((k3g (Prod.fst ((b))) (Prod.snd ((b))) y6)) then true else ltI (40 : Int) ((IntKind.wrap IntKind.i64 (IntKind.wrap IntKind.i64 (y1 - (k3g (Prod.fst ((b))) (Prod.snd ((b))) y6)) + k60 (Prod.fst ((b)))))))) then (.inl 1) else (.inr ((((IntKind.wrap IntKind.i64 (IntKind.wrap IntKind.i64 (y1 - (k3g (Prod.fst ((b))) (Prod.snd ((b))) y6)) + k60 (Prod.fst ((b))))))), ((y5 ++ [(IntKind.wrap IntKind.i64 (IntKind.wrap IntKind.i64 (y1 - (k3g (Prod.fst ((b))) (Prod.snd ((b))) y6)) + k60 (Prod.fst ((b)))))]))))))

def k8g (y2 : Int) (y3 : Int) (y4 : Int) (y6 : List (Int × (ByteArray × Int))) (y7 : List (Int × Int)) (i : Nat) : (Int × List Int) → k62
  | (y1, y5) => ((i : Int), y1, y2, y3, y4, y5, y6, y7)

def kmy : k62 → Int × List Int
  | (_, y1, _, _, _, y5, _, _) => (y1, y5)

theorem kya (y2 : Int) (y3 : Int) (y4 : Int) (y6 : List (Int × (ByteArray × Int))) (y7 : List (Int × Int)) (y1 : Int) (y5 : List Int) (hn : y7.length ≤ 9223372036854775807) (hst : y7.length ≤ 2000) (hbs : y6.length ≤ 2000) (hin : (0 ≤ y1 ∧ y1 ≤ 40) ∧ y5.length = 0) :
    k26.fin ((0 : Int), y1, y2, y3, y4, y5, y6, y7) = true ∧ k26.res ((0 : Int), y1, y2, y3, y4, y5, y6, y7) = ((walkL (k97 y2 y3 y4 y6) 2 y7 0 (y1, y5)).1, (k8g y2 y3 y4 y6 y7) (walkL (k97 y2 y3 y4 y6) 2 y7 0 (y1, y5)).2.1 (walkL (k97 y2 y3 y4 y6) 2 y7 0 (y1, y5)).2.2) := by
  have key := k26.along (k8g y2 y3 y4 y6 y7) kmy (k97 y2 y3 y4 y6) 2 (fun i a => (0 ≤ a.1 ∧ a.1 ≤ 40) ∧ a.2.length = i) y7 (y1, y5) hin (by simp only [k26, k8g]; omega) (fun i b a hb hI => ?_) (fun a hI => ?_)
  · exact key
  · obtain ⟨y1, y5⟩ := a
    have hlt := (List.getElem?_eq_some_iff.1 hb).1
    have hget : ∀ d, Option.getD y7[i]? d = b := fun d => by rw [hb]; rfl
    have hw := wrap64 hlt hn
    have hdec : ltI (i : Int) (y7.length : Int) = true := ltI_t (by omega)
    have hnn : leI (0 : Int) (i : Int) = true := leI_t (by omega)
    have hltd : ltN i y7.length = true := ltN_t hlt
    refine ⟨?_, ?_, ?_, ?_⟩
    · have hg2 : k2r (i : Int) y7 = b := by simp only [k2r, Int.toNat_natCast]; exact hget _
      have hl := hI.2
      have h6 : leN (y5.length + 1) 9223372036854775807 = true := leN_t (by simp only at hl; omega)
      have h7 : leN ((y5.length + 1) * 8) 140737488355328 = true := leN_t (by simp only at hl; omega)
      have h8 : fitI y2 y3 y4 y6 b = true → kes b.1 b.2 y6 = true := fit_nd hbs
      simp only [kb8, kfh, kfq, kfd, kj4, kj7, kj2, ked, k26, LT.nds, allT, k8g, hdec, hnn, hltd, hg2, List.length_singleton, h6, h7, Int.toNat_natCast, cond_true, cond_false]
      change (bif !fitI y2 y3 y4 y6 b then _ else _) = true
      cases hf : fitI y2 y3 y4 y6 b with
      | false => rfl
      | true => simp [h8 hf]
    · simp [k2r, ke3, k8h, kb8, kfh, kfq, kfd, kj4, kj3, kj7, kj2, kj1, kja, kht, ked, k26, LT.each, k8g, kmy, hw]
    · have hg2 : k2r (i : Int) y7 = b := by simp only [k2r, Int.toNat_natCast]; exact hget _
      simp only [kb8, kfd, kj3, kj1, kja, kht, ke3, k8h, ked, k26, LT.fn, k8g, kmy, k97, Int.toNat_natCast, hdec, hg2, cond_true]
    · have hk := hI.1
      simp only at hk
      have hs := k16f (i := y2) (v := y3) (o := y4) (bs := y6) (b := b) (acc := y5) hk
      intro a' hf
      have hf : k14g y2 y3 y4 y6 b (y1, y5) = .inr a' := hf
      rw [hs] at hf
      have ht := tkI_in y6 b
      have hg := gvI_in b
      cases hq : fitI y2 y3 y4 y6 b with
      | false => rw [hq] at hf; cases hf
      | true =>
        cases hq2 : (leI (tkI y6 b) y1 && leI (y1 - tkI y6 b + gvI b) 40) with
        | false => rw [hq, hq2] at hf; cases hf
        | true =>
          rw [hq, hq2] at hf; cases hf
          simp only [Bool.and_eq_true, leI_iff] at hq2
          exact ⟨by simp only; omega, by have hl := hI.2; simp only at hl; simp [hl]⟩
  · obtain ⟨y1, y5⟩ := a
    simp [k2r, ke3, k8h, kb8, kfh, kfq, kfd, kj4, kj3, kj7, kj2, kj1, kja, kht, ked, k26, LT.out, k8g]

end Go.SX

namespace Go.SX
open Go.Proofs
set_option maxRecDepth 100000

/-- The heights' end. -/
def hgtOk (i v o : Int) (bs : List TM) (st : List IN) : Bool := match hgt i v o bs st 0 [] with | some (m, _) => m == 0 | none => false
def hgtL (i v o : Int) (bs : List TM) (st : List IN) : List Int := match hgt i v o bs st 0 [] with | some (_, out) => out | none => []
def blksB (bs : List TM) : Bool := bs.all fun t => blockB t.1 t.2.1 t.2.2
def rngC (i v o : Int) (bs : List TM) (st : List IN) : Bool := inR i 0 20 && (inR v 0 20 && (inR o 0 20 && (leN bs.length 2000 && leN st.length 2000)))
def codeB (i v o : Int) (bs : List TM) (st : List IN) : Bool := rngC i v o bs st && (blksB bs && hgtOk i v o bs st)
def tsOk (bs : List TM) : Bool := leN bs.length 9223372036854775807 && bs.all fun t => leN t.2.1.size 9223372036854775807

theorem k15p {bs : List TM} : tsOk bs = true ↔ bs.length ≤ 9223372036854775807 ∧ ∀ t ∈ bs, t.2.1.size ≤ 9223372036854775807 := by
  simp only [tsOk, Bool.and_eq_true, leN_iff, List.all_eq_true]

theorem kw7 {i v o : Int} {bs : List TM} {st : List IN} : rngC i v o bs st = true ↔ (0 ≤ i ∧ i ≤ 20) ∧ (0 ≤ v ∧ v ≤ 20) ∧ (0 ≤ o ∧ o ≤ 20) ∧ bs.length ≤ 2000 ∧ st.length ≤ 2000 := by
  simp only [rngC, Bool.and_eq_true, krj, leN_iff]

theorem specHts (i v o : Int) (bs : List TM) (st : List IN) (hst : st.length ≤ 2000) (hbs : bs.length ≤ 2000) :
    knr i v o bs st = hgtOk i v o bs st ∧ kqr i v o bs st = hgtL i v o bs st ∧ kno i v o bs st = true := by
  obtain ⟨w1, w2⟩ := kya i v o bs st 0 [] (by omega) hst hbs ⟨⟨by omega, by omega⟩, rfl⟩
  have hw := k14i (i := i) (v := v) (o := o) (bs := bs) (f := k97 i v o bs) (e := 2) (fun b n acc hn => by
    have h := k16f (i := i) (v := v) (o := o) (bs := bs) (b := b) (n := n) (acc := acc) hn
    have h : k97 i v o bs b (n, acc) = _ := h
    rw [h]
    refine ⟨fun hc => ?_, fun hc => ?_⟩
    · simp only [Bool.and_eq_true] at hc
      simp [hc.1, hc.2.1, hc.2.2]
    · cases hq : fitI i v o bs b with
      | false => exact ⟨0, by omega, rfl⟩
      | true =>
        rw [hq, Bool.true_and] at hc
        exact ⟨1, by omega, by rw [hc]; rfl⟩) st 0 0 [] ⟨by omega, by omega⟩
  simp only [knr, kqr, kno, kij, kpj, kph, kpe, w1, allT, cond_true]
  rw [w2]
  simp only [hgtOk, hgtL]
  cases hh : hgt i v o bs st 0 [] with
  | none =>
    have := hw.2 hh
    generalize walkL (k97 i v o bs) 2 st 0 (0, []) = r at this ⊢
    obtain ⟨j, k, a⟩ := r
    have : j = 0 ∨ j = 1 := by simp only at this; omega
    rcases this with rfl | rfl <;> simp [Nat.beq]
  | some r =>
    obtain ⟨m, out⟩ := r
    have := (hw.1 m out hh).1
    rw [this]
    simp [Nat.beq, k8g]

def k14f (i v o : Int) (bs : List TM) (b : IN) : Int × List Int → Nat ⊕ (Int × List Int)
  | (n, acc) => bif (bif ltI b.2 0 then true else leI (k3c i v o b.1 bs) b.2) then .inl 0 else
      bif ltI n (k16 b.1 b.2 bs) then .inl 1 else
      bif ltI 40 (IntKind.i64.wrap (n + IntKind.i64.wrap (k1m b.1 - k16 b.1 b.2 bs))) then .inl 2 else
      .inr (IntKind.i64.wrap (n + IntKind.i64.wrap (k1m b.1 - k16 b.1 b.2 bs)), acc ++ [IntKind.i64.wrap (n + IntKind.i64.wrap (k1m b.1 - k16 b.1 b.2 bs))])

theorem k16c {i v o : Int} {bs : List TM} {b : IN} {n : Int} {acc : List Int} (hr : (0 ≤ i ∧ i ≤ 20) ∧ (0 ≤ v ∧ v ≤ 20) ∧ 0 ≤ o ∧ o ≤ 20) (hl : bs.length ≤ 2000) (hn : 0 ≤ n ∧ n ≤ 40) :
    k14f i v o bs b (n, acc) = bif !fitI i v o bs b then .inl 0 else bif !leI (tkI bs b) n then .inl 1 else bif !leI (n - tkI bs b + gvI b) 40 then .inl 2 else .inr (n - tkI bs b + gvI b, acc ++ [n - tkI bs b + gvI b]) := by
  have ht := tkI_in bs b
  have hg := gvI_in b
  have e1 : k16 b.1 b.2 bs = tkI bs b := rfl
  have e2 : k1m b.1 = gvI b := rfl
  have w1 : IntKind.i64.wrap (gvI b - tkI bs b) = gvI b - tkI bs b := wrap_i64 (by omega) (by omega)
  have w2 : IntKind.i64.wrap (n + (gvI b - tkI bs b)) = n - tkI bs b + gvI b := by rw [wrap_i64 (by omega) (by omega)]; omega
  simp only [k14f, k15l hr.1 hr.2.1 hr.2.2 hl, e1, e2, w1, w2]
  have n1 : ltI n (tkI bs b) = !leI (tkI bs b) n := by
    by_cases h1 : n < tkI bs b
    · rw [ltI_t h1, leI_f (by omega)]; rfl
    · rw [ltI_f (by omega), leI_t (by omega)]; rfl
  have n2 : ltI 40 (n - tkI bs b + gvI b) = !leI (n - tkI bs b + gvI b) 40 := by
    by_cases h1 : 40 < n - tkI bs b + gvI b
    · rw [ltI_t h1, leI_f (by omega)]; rfl
    · rw [ltI_f (by omega), leI_t (by omega)]; rfl
  rw [n1, n2]

def k1t (y4 : Int) (y5 : Int) (y6 : Int) (y8 : List (Int × (ByteArray × Int))) (b : Int × Int) : (Int × List Int) → Nat ⊕ (Int × List Int)
  | (y2, y7) => (bif ((bif ltI (Prod.snd ((b))) (0 : Int) then true else leI (k3c y4 y5 y6 (Prod.fst ((b))) y8) (Prod.snd ((b))))) then (.inl 0) else (bif ((ltI y2 ((k16 (Prod.fst ((b))) (Prod.snd ((b))) y8)))) then (.inl 1) else (bif ((ltI (40 : Int) ((IntKind.wrap IntKind.i64 (y2 + IntKind.wrap IntKind.i64 (k1m (Prod.fst ((b))) - (k16 (Prod.fst ((b))) (Prod.snd ((b))) y8))))))) then (.inl 2) else (.inr ((((IntKind.wrap IntKind.i64 (y2 + IntKind.wrap IntKind.i64 (k1m (Prod.fst ((b))) - (k16 (Prod.fst ((b))) (Prod.snd ((b))) y8)))))), ((y7 ++ [(IntKind.wrap IntKind.i64 (y2 + IntKind.wrap IntKind.i64 (k1m (Prod.fst ((b))) - (k16 (Prod.fst ((b))) (Prod.snd ((b))) y8))))])))))))

def k1s (y3 : List (Int × Int)) (y4 : Int) (y5 : Int) (y6 : Int) (y8 : List (Int × (ByteArray × Int))) (i : Nat) : (Int × List Int) → k1f
  | (y2, y7) => ((i : Int), (↑(List.length y3) : Int), y2, y3, y4, y5, y6, y7, y8)

def k7y : k1f → Int × List Int
  | (_, _, y2, _, _, _, _, y7, _) => (y2, y7)

theorem kks (y3 : List (Int × Int)) (y4 : Int) (y5 : Int) (y6 : Int) (y8 : List (Int × (ByteArray × Int))) (y2 : Int) (y7 : List Int) (hn : y3.length ≤ 9223372036854775807) (hst : y3.length ≤ 2000) (hbs : y8.length ≤ 2000) (hr : (0 ≤ y4 ∧ y4 ≤ 20) ∧ (0 ≤ y5 ∧ y5 ≤ 20) ∧ 0 ≤ y6 ∧ y6 ≤ 20) (hin : (0 ≤ y2 ∧ y2 ≤ 40) ∧ y7.length = 0) :
    kj.fin ((0 : Int), (↑(List.length y3) : Int), y2, y3, y4, y5, y6, y7, y8) = true ∧ kj.res ((0 : Int), (↑(List.length y3) : Int), y2, y3, y4, y5, y6, y7, y8) = ((walkL (k1t y4 y5 y6 y8) 3 y3 0 (y2, y7)).1, (k1s y3 y4 y5 y6 y8) (walkL (k1t y4 y5 y6 y8) 3 y3 0 (y2, y7)).2.1 (walkL (k1t y4 y5 y6 y8) 3 y3 0 (y2, y7)).2.2) := by
  have key := kj.along (k1s y3 y4 y5 y6 y8) k7y (k1t y4 y5 y6 y8) 3 (fun i a => (0 ≤ a.1 ∧ a.1 ≤ 40) ∧ a.2.length = i) y3 (y2, y7) hin (by simp only [kj, k1s]; omega) (fun i b a hb hI => ?_) (fun a hI => ?_)
  · exact key
  · obtain ⟨y2, y7⟩ := a
    have hlt := (List.getElem?_eq_some_iff.1 hb).1
    have hget : ∀ d, Option.getD y3[i]? d = b := fun d => by rw [hb]; rfl
    have hw := wrap64 hlt hn
    have hdec : ltI (i : Int) (y3.length : Int) = true := ltI_t (by omega)
    have hnn : leI (0 : Int) (i : Int) = true := leI_t (by omega)
    have hltd : ltN i y3.length = true := ltN_t hlt
    refine ⟨?_, ?_, ?_, ?_⟩
    · have hg2 : kr (i : Int) y3 = b := by simp only [kr, Int.toNat_natCast]; exact hget _
      have hl := hI.2
      have h6 : leN (y7.length + 1) 9223372036854775807 = true := leN_t (by simp only at hl; omega)
      have h7 : leN ((y7.length + 1) * 8) 140737488355328 = true := leN_t (by simp only at hl; omega)
      have h8 : fitI y4 y5 y6 y8 b = true → k4h b.1 b.2 y8 = true := fit_nd hbs
      simp only [k2y, k5d, k5g, k59, k2z, k5f, k5b, k5c, k2w, kj, LT.nds, allT, k1s, hdec, hnn, hltd, hg2, List.length_singleton, h6, h7, Int.toNat_natCast, k15l hr.1 hr.2.1 hr.2.2 hbs, cond_true, cond_false]
      cases hf : fitI y4 y5 y6 y8 b with
      | false => rfl
      | true => simp [h8 hf]
    · simp [kr, k2u, k1r, k2y, k5d, k5g, k59, k2z, k5f, k5h, k5e, k5b, k5c, k54, k53, k4z, k2w, kj, LT.each, k1s, k7y, hw]
    · have hg2 : kr (i : Int) y3 = b := by simp only [kr, Int.toNat_natCast]; exact hget _
      simp only [k2y, k2z, k5h, k5e, k54, k53, k4z, k2u, k1r, k2w, kj, LT.fn, k1s, k7y, k1t, Int.toNat_natCast, hdec, hg2, cond_true]
    · have hk := hI.1
      simp only at hk
      have hs := k16c (i := y4) (v := y5) (o := y6) (bs := y8) (b := b) (acc := y7) hr hbs hk
      intro a' hf
      have hf : k14f y4 y5 y6 y8 b (y2, y7) = .inr a' := hf
      rw [hs] at hf
      have ht := tkI_in y8 b
      have hg := gvI_in b
      cases hq : fitI y4 y5 y6 y8 b with
      | false => rw [hq] at hf; cases hf
      | true =>
        cases hq2 : leI (tkI y8 b) y2 with
        | false => rw [hq, hq2] at hf; cases hf
        | true =>
          cases hq3 : leI (y2 - tkI y8 b + gvI b) 40 with
          | false => rw [hq, hq2, hq3] at hf; cases hf
          | true =>
            rw [hq, hq2, hq3] at hf; cases hf
            have hq2 := leI_iff.1 hq2
            have hq3 := leI_iff.1 hq3
            exact ⟨by simp only; omega, by have hl := hI.2; simp only at hl; simp [hl]⟩
  · obtain ⟨y2, y7⟩ := a
    simp [kr, k2u, k1r, k2y, k5d, k5g, k59, k2z, k5f, k5h, k5e, k5b, k5c, k54, k53, k4z, k2w, kj, LT.out, k1s]

theorem implHts (i v o : Int) (bs : List TM) (st : List IN) (hr : (0 ≤ i ∧ i ≤ 20) ∧ (0 ≤ v ∧ v ≤ 20) ∧ 0 ≤ o ∧ o ≤ 20) (hst : st.length ≤ 2000) (hbs : bs.length ≤ 2000) :
    k6g i v o bs st = hgtOk i v o bs st ∧ k9q i v o bs st = hgtL i v o bs st ∧ k6a i v o bs st = true := by
  obtain ⟨w1, w2⟩ := kks st i v o bs 0 [] (by omega) hst hbs hr ⟨⟨by omega, by omega⟩, rfl⟩
  have hw := k14i (i := i) (v := v) (o := o) (bs := bs) (f := k1t i v o bs) (e := 3) (fun b n acc hn => by
    have h := k16c (i := i) (v := v) (o := o) (bs := bs) (b := b) (n := n) (acc := acc) hr hbs hn
    have h : k1t i v o bs b (n, acc) = _ := h
    rw [h]
    refine ⟨fun hc => ?_, fun hc => ?_⟩
    · simp only [Bool.and_eq_true] at hc
      simp [hc.1, hc.2.1, hc.2.2]
    · cases hq : fitI i v o bs b with
      | false => exact ⟨0, by omega, rfl⟩
      | true =>
        rw [hq, Bool.true_and] at hc
        cases hq2 : leI (tkI bs b) n with
        | false => exact ⟨1, by omega, rfl⟩
        | true => rw [hq2, Bool.true_and] at hc; exact ⟨2, by omega, by rw [hc]; rfl⟩) st 0 0 [] ⟨by omega, by omega⟩
  simp only [k6g, k9q, k6a, k2l, k98, k9a, k91, k92, w1, allT, cond_true]
  rw [w2]
  simp only [hgtOk, hgtL]
  cases hh : hgt i v o bs st 0 [] with
  | none =>
    have := hw.2 hh
    generalize walkL (k1t i v o bs) 3 st 0 (0, []) = r at this ⊢
    obtain ⟨j, k, a⟩ := r
    have : j = 0 ∨ j = 1 ∨ j = 2 := by simp only at this; omega
    rcases this with rfl | rfl | rfl <;> simp [Nat.beq]
  | some r =>
    obtain ⟨m, out⟩ := r
    have := (hw.1 m out hh).1
    rw [this]
    simp [Nat.beq, k1s]

def kly  (b : Int × (ByteArray × Int)) : (Unit) → Nat ⊕ (Unit)
  | _ => (bif ((!blockB (Prod.fst ((b))) (Prod.fst (Prod.snd ((b)))) (Prod.snd (Prod.snd ((b)))))) then (.inl 0) else (.inr ()))

def ke0 (y1 : Int) (y2 : Int) (y3 : Int) (y4 : List (Int × (ByteArray × Int))) (y5 : List (Int × Int)) (i : Nat) : (Unit) → kaq
  | _ => ((i : Int), y1, y2, y3, y4, y5)

def kql : kaq → Unit
  | (_, _, _, _, _, _) => ()

theorem k12u (y1 : Int) (y2 : Int) (y3 : Int) (y4 : List (Int × (ByteArray × Int))) (y5 : List (Int × Int))  (hn : y4.length ≤ 9223372036854775807) (hA : ∀ t ∈ y4, t.2.1.size ≤ 9223372036854775807) :
    k51.fin ((0 : Int), y1, y2, y3, y4, y5) = true ∧ k51.res ((0 : Int), y1, y2, y3, y4, y5) = ((walkL (kly) 1 y4 0 ()).1, (ke0 y1 y2 y3 y4 y5) (walkL (kly) 1 y4 0 ()).2.1 (walkL (kly) 1 y4 0 ()).2.2) := by
  have key := k51.along (ke0 y1 y2 y3 y4 y5) kql (kly) 1 (fun _ _ => True) y4 () (by trivial) (by simp only [k51, ke0]; omega) (fun i b a hb hI => ?_) (fun a hI => ?_)
  · exact key
  · obtain ⟨⟩ := a
    have hlt := (List.getElem?_eq_some_iff.1 hb).1
    have hget : ∀ d, Option.getD y4[i]? d = b := fun d => by rw [hb]; rfl
    have hw := wrap64 hlt hn
    have hdec : ltI (i : Int) (y4.length : Int) = true := ltI_t (by omega)
    have hnn : leI (0 : Int) (i : Int) = true := leI_t (by omega)
    have hltd : ltN i y4.length = true := ltN_t hlt
    refine ⟨?_, ?_, ?_, ?_⟩
    · have hg2 : k9f (i : Int) y4 = b := by simp only [k9f, Int.toNat_natCast]; exact hget _
      have h6 : leN b.2.1.size 9223372036854775807 = true := leN_t (hA b (List.mem_of_getElem? hb))
      simp [kia, koy, kox, ko7, klt, kou, kk0, k51, LT.nds, allT, ke0, hdec, hnn, hltd, hg2, h6]
    · simp [k9f, kia, koy, kox, ko7, klt, kou, kk0, k51, LT.each, ke0, kql, hw]
    · have hg2 : k9f (i : Int) y4 = b := by simp only [k9f, Int.toNat_natCast]; exact hget _
      simp only [kia, klt, kk0, k51, LT.fn, ke0, kql, kly, Int.toNat_natCast, hdec, hg2, cond_true]
    · exact fun _ _ => trivial
  · obtain ⟨⟩ := a
    simp [k9f, kia, koy, kox, ko7, klt, kou, kk0, k51, LT.out, ke0]

def k4v  (b : Int × (ByteArray × Int)) : (Unit) → Nat ⊕ (Unit)
  | _ => (bif ((kmz (Prod.fst ((b))) (Prod.fst (Prod.snd ((b)))) (Prod.snd (Prod.snd ((b)))))) then (.inl 0) else (.inr ()))

def k21 (y2 : List (Int × (ByteArray × Int))) (i : Nat) : (Unit) → k1n
  | _ => ((i : Int), (↑(List.length y2) : Int), y2)

def ka0 : k1n → Unit
  | (_, _, _) => ()

theorem knd (y2 : List (Int × (ByteArray × Int)))  (hn : y2.length ≤ 9223372036854775807)  :
    kv.fin ((0 : Int), (↑(List.length y2) : Int), y2) = true ∧ kv.res ((0 : Int), (↑(List.length y2) : Int), y2) = ((walkL (k4v) 1 y2 0 ()).1, (k21 y2) (walkL (k4v) 1 y2 0 ()).2.1 (walkL (k4v) 1 y2 0 ()).2.2) := by
  have key := kv.along (k21 y2) ka0 (k4v) 1 (fun _ _ => True) y2 () (by trivial) (by simp only [kv, k21]; omega) (fun i b a hb hI => ?_) (fun a hI => ?_)
  · exact key
  · obtain ⟨⟩ := a
    have hlt := (List.getElem?_eq_some_iff.1 hb).1
    have hget : ∀ d, Option.getD y2[i]? d = b := fun d => by rw [hb]; rfl
    have hw := wrap64 hlt hn
    have hdec : ltI (i : Int) (y2.length : Int) = true := ltI_t (by omega)
    have hnn : leI (0 : Int) (i : Int) = true := leI_t (by omega)
    have hltd : ltN i y2.length = true := ltN_t hlt
    refine ⟨?_, ?_, ?_, ?_⟩
    · simp [k2b, k4r, k4u, k4q, k4t, k4s, k4m, k4i, kv, LT.nds, allT, k21, hdec, hnn, hltd, hget]
    · simp [k2b, k4r, k4u, k4q, k4t, k4s, k4m, k4i, kv, LT.each, k21, ka0, hw]
    · simp only [k2b, k4r, k4u, k4q, k4t, k4s, k4m, k4i, kv, LT.fn, k21, ka0, k4v, Int.toNat_natCast, hdec, hnn, hltd, hget, cond_true, Bool.cond_self]
    · exact fun _ _ => trivial
  · obtain ⟨⟩ := a
    simp [k2b, k4r, k4u, k4q, k4t, k4s, k4m, k4i, kv, LT.out, k21]

theorem k15i (bs : List TM) : (bs.any fun t => !blockB t.1 t.2.1 t.2.2) = !blksB bs := by simp [blksB, List.all_eq_not_any_not]

theorem k15m (i v o : Int) (bs : List TM) (st : List IN) : kj0 i v o bs st = !rngC i v o bs st := by
  have e1 : ∀ x : Int, k1o x 0 20 = inR x 0 20 := fun x => by simp only [k1o, inR_eq]
  have e2 : ∀ n : Nat, ltI 2000 (n : Int) = !leN n 2000 := fun n => by
    by_cases h : n ≤ 2000
    · rw [leN_t h, ltI_f (by omega)]; rfl
    · rw [leN_f (by omega), ltI_t (by omega)]; rfl
  simp only [kj0, rngC, e1, e2]
  cases inR i 0 20 <;> cases inR v 0 20 <;> cases inR o 0 20 <;> cases leN bs.length 2000 <;> cases leN st.length 2000 <;> rfl

theorem specCodeB (i v o : Int) (bs : List TM) (st : List IN) (h : tsOk bs = true) : kvk i v o bs st = codeB i v o bs st ∧ kvo i v o bs st = true := by
  obtain ⟨hn, hA⟩ := k15p.1 h
  simp only [kvk, kvo, k15m, codeB]
  cases hr : rngC i v o bs st with
  | false => simp [allT]
  | true =>
    obtain ⟨h1, h2, h3, h4, h5⟩ := kw7.1 hr
    obtain ⟨q1, q2, q3⟩ := specHts i v o bs st h5 h4
    obtain ⟨w1, w2⟩ := k12u i v o bs st hn hA
    rw [walk_stop (P := fun t => !blockB t.1 t.2.1 t.2.2) (j := 0) (fun t => rfl), k15i] at w2
    simp only [kuh, ktv, w1, w2, q1, q3, allT]
    cases blksB bs <;> simp [Nat.beq]

theorem implCodeB (i v o : Int) (bs : List TM) (st : List IN) : kw0 i v o bs st = codeB i v o bs st ∧ kv9 i v o bs st = true := by
  have e0 : kop i v o bs st = kj0 i v o bs st := by simp only [kop, kj0, k95, k1o]
  simp only [kw0, kv9, e0, k15m, codeB]
  cases hr : rngC i v o bs st with
  | false => simp [allT]
  | true =>
    obtain ⟨h1, h2, h3, h4, h5⟩ := kw7.1 hr
    obtain ⟨q1, q2, q3⟩ := implHts i v o bs st ⟨h1, h2, h3⟩ h5 h4
    obtain ⟨w1, w2⟩ := knd bs (by omega)
    rw [walk_stop (P := fun t => !blockB t.1 t.2.1 t.2.2) (j := 0) (fun t => rfl), k15i] at w2
    simp only [k70, kap, kc1, kbm, k85, w1, w2, q1, q3, allT]
    cases blksB bs with
    | true => simp [Nat.beq, show leI 0 (-1) = false from rfl]
    | false => simp [Nat.beq, k21]; intro h; omega

def k118 : List SV → List Entry → Option Out
  | [.one ⟨true, [.val (.int .i64 x0), .val (.int .i64 x1), .val (.int .i64 x2), .ref 0, .ref 1]⟩], [.row false 178 (.pair (.int .i64) (.pair (.str) (.int .i64))) x3, .row false 150 (.pair (.int .i64) (.int .i64)) x4] => some ⟨(.one ⟨false, [(.val (.bool (codeB x0 x1 x2 x3 x4)))]⟩), [(.row false 178 (CTy.pair (CTy.int IntKind.i64) (CTy.pair CTy.str (CTy.int IntKind.i64))) x3), (.row false 150 (CTy.pair (CTy.int IntKind.i64) (CTy.int IntKind.i64)) x4)], [], [tsOk x3]⟩
  | _, _ => none

def kh7 : PF Tryz.prog := PF.alt k14d k118 (by
  intro args es o h hnd; unfold k118 at h; split at h
  · rename_i x0 x1 x2 x3 x4
    cases h
    have hnd := nd_fst hnd
    have hh := specCodeB x0 x1 x2 x3 x4 hnd
    obtain ⟨e0, en⟩ := hh
    exact altok rfl (nd_one en) (by simp only [e0] <;> rfl) rfl rfl
  · cases h)

def k11r : List SV → List Entry → Option Out
  | [.one ⟨true, [.val (.int .i64 x0), .val (.int .i64 x1), .val (.int .i64 x2), .ref 0, .ref 1]⟩], [.row false 178 (.pair (.int .i64) (.pair (.str) (.int .i64))) x3, .row false 150 (.pair (.int .i64) (.int .i64)) x4] => some ⟨(.one ⟨false, [(.val (.bool (codeB x0 x1 x2 x3 x4)))]⟩), [(.row false 178 (CTy.pair (CTy.int IntKind.i64) (CTy.pair CTy.str (CTy.int IntKind.i64))) x3), (.row false 150 (CTy.pair (CTy.int IntKind.i64) (CTy.int IntKind.i64)) x4)], [], []⟩
  | _, _ => none

def khc : PF Tryz.prog := PF.alt k146 k11r (by
  intro args es o h hnd; unfold k11r at h; split at h
  · rename_i x0 x1 x2 x3 x4
    cases h
    have hh := implCodeB x0 x1 x2 x3 x4
    obtain ⟨e0, en⟩ := hh
    exact altok rfl (nd_one en) (by simp only [e0] <;> rfl) rfl rfl
  · cases h)

end Go.SX

namespace Go.SX
open Go.Proofs
set_option maxRecDepth 100000

def termAt (bs : List TM) (k : Nat) : TM := Option.getD bs[k]? ((0 : Int), ByteArray.empty, (0 : Int))
def stAt (ss : List BS3) (k : Nat) : BS3 := Option.getD ss[k]? ((0 : Int), (0 : Int), (0 : Int))
def possAt (bs : List TM) (ss : List BS3) (k : Nat) : Bool := possB (termAt bs k).1 (termAt bs k).2.2 (stAt ss k).1 (stAt ss k).2.1 (stAt ss k).2.2
/-- A memory suits a code. -/
def suitB (v : Int) (bs : List TM) (xs : List Int) (ss : List BS3) : Bool := ((ss.length : Int) == (bs.length : Int)) && (bitsB v xs && (List.range bs.length).all fun k => possAt bs ss k)

def k2x (y2 : List (Int × (ByteArray × Int))) (y4 : List (Int × (Int × Int))) (b : Nat) : (Unit) → Nat ⊕ (Unit)
  | _ => (bif ((!kgc (Prod.fst ((Option.getD y2[b]? ((0 : Int), ByteArray.empty, (0 : Int))))) (Prod.snd (Prod.snd ((Option.getD y2[b]? ((0 : Int), ByteArray.empty, (0 : Int)))))) (Prod.fst ((Option.getD y4[b]? ((0 : Int), (0 : Int), (0 : Int))))) (Prod.fst (Prod.snd ((Option.getD y4[b]? ((0 : Int), (0 : Int), (0 : Int)))))) (Prod.snd (Prod.snd ((Option.getD y4[b]? ((0 : Int), (0 : Int), (0 : Int)))))))) then (.inl 0) else (.inr ()))

def k20 (y2 : List (Int × (ByteArray × Int))) (y3 : List Int) (y4 : List (Int × (Int × Int))) (i : Nat) : (Unit) → k1e
  | _ => ((i : Int), (↑(List.length y2) : Int), y2, y3, y4)

def k7u : k1e → Unit
  | (_, _, _, _, _) => ()

theorem kkr (y2 : List (Int × (ByteArray × Int))) (y3 : List Int) (y4 : List (Int × (Int × Int)))  (hn : y2.length ≤ 9223372036854775807) (he : y4.length = y2.length) :
    kq.fin ((0 : Int), (↑(List.length y2) : Int), y2, y3, y4) = true ∧ kq.res ((0 : Int), (↑(List.length y2) : Int), y2, y3, y4) = ((walkL (k2x y2 y4) 1 (List.range y2.length) 0 ()).1, (k20 y2 y3 y4) (walkL (k2x y2 y4) 1 (List.range y2.length) 0 ()).2.1 (walkL (k2x y2 y4) 1 (List.range y2.length) 0 ()).2.2) := by
  have key := kq.along (k20 y2 y3 y4) k7u (k2x y2 y4) 1 (fun _ _ => True) (List.range y2.length) () (by trivial) (by simp only [kq, k20, List.length_range]; omega) (fun i b a hb hI => ?_) (fun a hI => ?_)
  · exact key
  · obtain ⟨⟩ := a
    obtain ⟨rfl, hlt⟩ := range_get hb
    have hw : IntKind.i64.wrap ((b : Int) + 1) = ((b + 1 : Nat) : Int) := by rw [wrap_i64 (by omega) (by omega)]; omega
    have hdec : ltI (b : Int) (y2.length : Int) = true := ltI_t (by omega)
    have hnn : leI (0 : Int) (b : Int) = true := leI_t (by omega)
    have hltd : ltN b y2.length = true := ltN_t (by omega)
    refine ⟨?_, ?_, ?_, ?_⟩
    · simp [k29, k1z, k32, k2d, k36, k34, k30, k31, k35, k33, k2v, kq, LT.nds, allT, k20, hdec, hnn, hltd, he]
    · simp [k29, k1z, k32, k2d, k36, k34, k30, k31, k35, k33, k2v, kq, LT.each, k20, k7u, hw, he]
    · simp only [k29, k1z, k32, k2d, k36, k34, k30, k31, k35, k33, k2v, kq, LT.fn, k20, k7u, k2x, Int.toNat_natCast, hdec, cond_true]
    · exact fun _ _ => trivial
  · obtain ⟨⟩ := a
    simp [k29, k1z, k32, k2d, k36, k34, k30, k31, k35, k33, k2v, kq, LT.out, k20, List.length_range]

theorem k166 {α : Type} {g h : α → Bool} : ∀ (l : List α), (∀ k ∈ l, g k = h k) → (l.any fun b => !g b) = !l.all h
  | [], _ => rfl
  | a :: l, hg => by
    rw [List.any_cons, List.all_cons, hg a (by simp), k166 l (fun k hk => hg k (by simp [hk]))]
    cases h a <;> simp

theorem implSuits (v : Int) (bs : List TM) (xs : List Int) (ss : List BS3) (h : (leN xs.length 9223372036854775807 && (leN bs.length 9223372036854775807 && blksB bs)) = true) :
    k6e v xs ss bs = suitB v bs xs ss ∧ k68 v xs ss bs = true := by
  simp only [Bool.and_eq_true] at h
  have hn := leN_iff.1 h.2.1
  have hB : ∀ t ∈ bs, blockB t.1 t.2.1 t.2.2 = true := List.all_eq_true.1 h.2.2
  by_cases hl : ss.length = bs.length
  · obtain ⟨w1, w2⟩ := kkr bs xs ss hn hl
    rw [walk_stop (P := fun k => !kgc (termAt bs k).1 (termAt bs k).2.2 (stAt ss k).1 (stAt ss k).2.1 (stAt ss k).2.2) (j := 0) (fun k => rfl),
      k166 (g := fun k => kgc (termAt bs k).1 (termAt bs k).2.2 (stAt ss k).1 (stAt ss k).2.1 (stAt ss k).2.2) (h := possAt bs ss) _ (fun k hk => by
        have hk : k < bs.length := List.mem_range.1 hk
        have hg : termAt bs k = bs[k] := by simp only [termAt, List.getElem?_eq_getElem hk]; rfl
        have := hB _ (List.getElem_mem hk)
        rw [← hg] at this
        exact k16y (kzl this).1)] at w2
    have a0 : k2g v xs ss bs = !bitsB v xs := by simp only [k2g, hl]; cases bitsB v xs <;> simp
    simp only [k6e, k68, k9c, a0, w1, w2, h.1, allT, suitB, hl]
    cases bitsB v xs <;> cases (List.range bs.length).all (possAt bs ss) <;> simp [Nat.beq]
  · have hl2 : ¬ ((ss.length : Int) = (bs.length : Int)) := by omega
    have a0 : k2g v xs ss bs = true := by simp only [k2g]; cases bitsB v xs <;> simp [hl2]
    have e : ((ss.length : Int) == (bs.length : Int)) = false := by simpa using hl2
    simp [k6e, k68, a0, allT, suitB, e, h.1]

def kdq : List SV → List Entry → Option Out
  | [.one ⟨true, [.ref 0, .ref 1]⟩, .one ⟨false, [.val (.int .i64 x0)]⟩, .one ⟨false, [.ref 2]⟩], [.row false 2 (.int .i64) x1, .row false 172 (.pair (.int .i64) (.pair (.int .i64) (.int .i64))) x2, .row false 178 (.pair (.int .i64) (.pair (.str) (.int .i64))) x3] => some ⟨(.one ⟨false, [(.val (.bool (suitB x0 x3 x1 x2)))]⟩), [(.row false 2 (CTy.int IntKind.i64) x1), (.row false 172 (CTy.pair (CTy.int IntKind.i64) (CTy.pair (CTy.int IntKind.i64) (CTy.int IntKind.i64))) x2), (.row false 178 (CTy.pair (CTy.int IntKind.i64) (CTy.pair CTy.str (CTy.int IntKind.i64))) x3)], [], [leN x1.length 9223372036854775807 && (leN x3.length 9223372036854775807 && blksB x3)]⟩
  | _, _ => none

def k9y : PF Tryz.prog := PF.alt kmu kdq (by
  intro args es o h hnd; unfold kdq at h; split at h
  · rename_i x0 x1 x2 x3
    cases h
    have hnd := nd_fst hnd
    have hh := implSuits x0 x3 x1 x2 hnd
    obtain ⟨e0, en⟩ := hh
    exact altok rfl (nd_one en) (by simp only [e0] <;> rfl) rfl rfl
  · cases h)

end Go.SX

namespace Go.SX
open Go.Proofs
set_option maxRecDepth 100000

def kj6 (x0 : Int) (x1 : List Int) : List Int :=
  bif x0 == (0 : Int) then List.replicate (Int.toNat (↑(List.length x1) : Int)) (0 : Int) else x1

def kj8 (x0 : Int) (x1 : List Int) : Bool :=
  allT
  [!x0 == (0 : Int) || leI (0 : Int) (↑(List.length x1) : Int), !x0 == (0 : Int) || leI (↑(List.length x1) : Int) (↑(List.length x1) : Int),
    !x0 == (0 : Int) || leI ((↑(8 : Nat) : Int) * (↑(List.length x1) : Int)) (281474976710656 : Int),
    !x0 == (0 : Int) || leI (↑(List.length x1) : Int) (9223372036854775807 : Int)]

def kzj : List SV → List Entry → Option Out
  | [.one ⟨false, [.ref 0]⟩, .one ⟨false, [.val (.int .i64 x0)]⟩], [.row false 2 (.int .i64) x1] => some ⟨(.one ⟨false, [(.ref 1)]⟩), [(.row false 2 (CTy.int IntKind.i64) x1)], [(.row false 2 (CTy.int IntKind.i64) (kj6 x0 x1))], [(kj8 x0 x1)]⟩
  | _, _ => none

def ku8 : PF Tryz.prog := PF.ofG Tryz.prog [] [] hmix 191 Tryz.f191 Tryz.func191 (fun c _ => LOk.nil c) kzj (by
  intro vs es r h; unfold kzj at h; split at h
  · cases h; kernel_rfl
  · cases h)

def kw (x3 : Int) (x5 : List (Int × Int)) : Int × Int :=
  Option.getD x5[Int.toNat x3]? ((0 : Int), (0 : Int))

def ka (x3 : Int) (x5 : List (Int × Int)) : Bool :=
  Prod.fst (kw x3 x5) == (1 : Int)

def kd (x3 : Int) (x5 : List (Int × Int)) : Bool :=
  k60 (Prod.fst (kw x3 x5)) == (1 : Int)

def k28 (x3 : Int) : Int :=
  IntKind.wrap IntKind.i64 (x3 + (1 : Int))

def kb (x3 : Int) (x5 : List (Int × Int)) : Bool :=
  Prod.fst (kw x3 x5) == (2 : Int)

def kf (x3 : Int) (x5 : List (Int × Int)) : Bool :=
  Prod.fst (kw x3 x5) == (3 : Int)

def ki (x3 : Int) (x5 : List (Int × Int)) : Bool :=
  Prod.fst (kw x3 x5) == (4 : Int)

def kk (x3 : Int) (x5 : List (Int × Int)) : Bool :=
  Prod.fst (kw x3 x5) == (5 : Int)

def kn (x3 : Int) (x5 : List (Int × Int)) : Bool :=
  Prod.fst (kw x3 x5) == (6 : Int)

def kz (x3 : Int) (x5 : List (Int × Int)) : Bool :=
  Prod.fst (kw x3 x5) == (7 : Int)

def k18 (x3 : Int) (x5 : List (Int × Int)) : Bool :=
  Prod.fst (kw x3 x5) == (8 : Int)

def k1p (x3 : Int) (x5 : List (Int × Int)) : Bool :=
  Prod.fst (kw x3 x5) == (9 : Int)

def k2e (x3 : Int) (x5 : List (Int × Int)) : Bool :=
  Prod.fst (kw x3 x5) == (10 : Int)

def k58 (x3 : Int) (x5 : List (Int × Int)) : Bool :=
  Prod.fst (kw x3 x5) == (11 : Int)

def kdi (x3 : Int) (x4 : List (Int × ByteArray × Int)) (x5 : List (Int × Int)) (x6 : List Int) : Int :=
  IntKind.wrap IntKind.i64 ((↑(List.length x6) : Int) - k3g (Prod.fst (kw x3 x5)) (Prod.snd (kw x3 x5)) x4)

def k1c (x3 : Int) (x4 : List (Int × ByteArray × Int)) (x5 : List (Int × Int)) (x6 : List Int) : List Int :=
  List.drop (Int.toNat (0 : Int)) (List.take (Int.toNat (kdi x3 x4 x5 x6)) x6)

def kdd (x3 : Int) (x5 : List (Int × Int)) (x10 : List Int) : Int :=
  Option.getD x10[Int.toNat (Prod.snd (kw x3 x5))]? (0 : Int)

def kdg (x3 : Int) (x5 : List (Int × Int)) (x7 : List Int) : Int :=
  Option.getD x7[Int.toNat (Prod.snd (kw x3 x5))]? (0 : Int)

def k57 (x3 : Int) (x4 : List (Int × ByteArray × Int)) (x5 : List (Int × Int)) (x6 : List Int) : List Int :=
  List.drop (Int.toNat (kdi x3 x4 x5 x6)) (List.take (Int.toNat (↑(List.length x6) : Int)) x6)

def kfg (x3 : Int) (x4 : List (Int × ByteArray × Int)) (x5 : List (Int × Int)) (x6 : List Int) : Int :=
  Option.getD (k57 x3 x4 x5 x6)[Int.toNat (0 : Int)]? (0 : Int)

def k4j (x3 : Int) (x4 : List (Int × ByteArray × Int)) (x5 : List (Int × Int)) (x6 : List Int) : List Int :=
  [IntKind.wrap IntKind.i64 ((1 : Int) - kfg x3 x4 x5 x6)]

def k4g (x3 : Int) (x4 : List (Int × ByteArray × Int)) (x5 : List (Int × Int)) (x6 : List Int) : List Int :=
  [IntKind.wrap IntKind.i64
    (↑(BitVec.toNat
          (BitVec.ofInt (IntKind.bits IntKind.i64) (kfg x3 x4 x5 x6) &&&
            BitVec.ofInt (IntKind.bits IntKind.i64) (Option.getD (k57 x3 x4 x5 x6)[Int.toNat (1 : Int)]? (0 : Int)))) :
      Int)]

def k4a (x3 : Int) (x4 : List (Int × ByteArray × Int)) (x5 : List (Int × Int)) (x6 : List Int) : List Int :=
  [IntKind.wrap IntKind.i64
    (↑(BitVec.toNat
          (BitVec.ofInt (IntKind.bits IntKind.i64) (kfg x3 x4 x5 x6) |||
            BitVec.ofInt (IntKind.bits IntKind.i64) (Option.getD (k57 x3 x4 x5 x6)[Int.toNat (1 : Int)]? (0 : Int)))) :
      Int)]

def kbu (x3 : Int) (x4 : List (Int × ByteArray × Int)) (x5 : List (Int × Int)) : Int × ByteArray × Int :=
  Option.getD x4[Int.toNat (Prod.snd (kw x3 x5))]? ((0 : Int), ByteArray.empty, (0 : Int))

def k7w (x3 : Int) (x5 : List (Int × Int)) (x9 : List (Int × Int × Int)) : Int × Int × Int :=
  Option.getD x9[Int.toNat (Prod.snd (kw x3 x5))]? ((0 : Int), (0 : Int), (0 : Int))

def k4c (x3 : Int) (x4 : List (Int × ByteArray × Int)) (x5 : List (Int × Int)) (x6 : List Int) (x9 : List (Int × Int × Int)) : List Int :=
  [k40 (Prod.fst (kbu x3 x4 x5)) (Prod.snd (Prod.snd (kbu x3 x4 x5))) (Prod.fst (k7w x3 x5 x9))
    (Prod.fst (Prod.snd (k7w x3 x5 x9))) (Prod.snd (Prod.snd (k7w x3 x5 x9))) (k57 x3 x4 x5 x6)]

def kf2 (x3 : Int) (x4 : List (Int × ByteArray × Int)) (x5 : List (Int × Int)) (x6 : List Int) : List Int :=
  bif kd x3 x5 then k1c x3 x4 x5 x6 ++ [(0 : Int)] else k1c x3 x4 x5 x6

def kok (x3 : Int) (x4 : List (Int × ByteArray × Int)) (x5 : List (Int × Int)) (x6 : List Int) (x7 : List Int) : List Int :=
  List.set x7 (Int.toNat (Prod.snd (kw x3 x5))) (kfg x3 x4 x5 x6)

def koq (x3 : Int) (x4 : List (Int × ByteArray × Int)) (x5 : List (Int × Int)) (x6 : List Int) (x8 : List Int) : List Int :=
  List.set x8 (Int.toNat (Prod.snd (kw x3 x5))) (kfg x3 x4 x5 x6)

def koa (x3 : Int) (x4 : List (Int × ByteArray × Int)) (x5 : List (Int × Int)) (x6 : List Int) (x9 : List (Int × Int × Int)) : List (Int × Int × Int) :=
  List.set x9 (Int.toNat (Prod.snd (kw x3 x5)))
  (k5n (Prod.fst (kbu x3 x4 x5)) (Prod.snd (Prod.snd (kbu x3 x4 x5))) (Prod.fst (k7w x3 x5 x9))
      (Prod.fst (Prod.snd (k7w x3 x5 x9))) (Prod.snd (Prod.snd (k7w x3 x5 x9))) (k57 x3 x4 x5 x6),
    k5u (Prod.fst (kbu x3 x4 x5)) (Prod.fst (Prod.snd (k7w x3 x5 x9)))
      (Prod.snd (Prod.snd (k7w x3 x5 x9))) (k57 x3 x4 x5 x6),
    k5w (Prod.fst (kbu x3 x4 x5)) (Prod.snd (Prod.snd (kbu x3 x4 x5))) (Prod.fst (k7w x3 x5 x9))
      (Prod.snd (Prod.snd (k7w x3 x5 x9))) (k57 x3 x4 x5 x6))

def k6q (x3 : Int) (x5 : List (Int × Int)) (x10 : List Int) : Bool :=
  ltI (Prod.snd (kw x3 x5)) (↑(List.length x10) : Int)

def k5s (x3 : Int) (x5 : List (Int × Int)) (x7 : List Int) : Bool :=
  ltI (Prod.snd (kw x3 x5)) (↑(List.length x7) : Int)

def k4b (x3 : Int) (x4 : List (Int × ByteArray × Int)) (x5 : List (Int × Int)) (x6 : List Int) : Bool :=
  ltI (0 : Int) (↑(List.length (k57 x3 x4 x5 x6)) : Int)

def k4d (x3 : Int) (x4 : List (Int × ByteArray × Int)) (x5 : List (Int × Int)) (x6 : List Int) : Bool :=
  ltN (Int.toNat (0 : Int)) (List.length (k57 x3 x4 x5 x6))

def k6s (x3 : Int) (x4 : List (Int × ByteArray × Int)) (x5 : List (Int × Int)) (x6 : List Int) : Bool :=
  ltI (1 : Int) (↑(List.length (k57 x3 x4 x5 x6)) : Int)

def k6k (x3 : Int) (x4 : List (Int × ByteArray × Int)) (x5 : List (Int × Int)) (x6 : List Int) : Bool :=
  ltN (Int.toNat (1 : Int)) (List.length (k57 x3 x4 x5 x6))

def k5t (x3 : Int) (x5 : List (Int × Int)) : Bool :=
  ka x3 x5 ||
  (kb x3 x5 ||
    (kf x3 x5 ||
      (ki x3 x5 ||
        (kk x3 x5 || (kn x3 x5 || (!kz x3 x5 || leI (0 : Int) (Prod.snd (kw x3 x5))))))))

def k6m (x3 : Int) (x5 : List (Int × Int)) (x9 : List (Int × Int × Int)) : Bool :=
  ka x3 x5 ||
  (kb x3 x5 ||
    (kf x3 x5 ||
      (ki x3 x5 ||
        (kk x3 x5 ||
          (kn x3 x5 || (!kz x3 x5 || ltI (Prod.snd (kw x3 x5)) (↑(List.length x9) : Int)))))))

def k6p (x3 : Int) (x5 : List (Int × Int)) (x9 : List (Int × Int × Int)) : Bool :=
  ka x3 x5 ||
  (kb x3 x5 ||
    (kf x3 x5 ||
      (ki x3 x5 ||
        (kk x3 x5 ||
          (kn x3 x5 || (!kz x3 x5 || ltN (Int.toNat (Prod.snd (kw x3 x5))) (List.length x9)))))))

def k4e (x3 : Int) (x4 : List (Int × ByteArray × Int)) (x5 : List (Int × Int)) (x6 : List Int) : Bool :=
  !kd x3 x5 || leN (List.length (k1c x3 x4 x5 x6) + List.length [(0 : Int)]) (9223372036854775807 : Nat)

def k4f (x3 : Int) (x4 : List (Int × ByteArray × Int)) (x5 : List (Int × Int)) (x6 : List Int) : Bool :=
  !kd x3 x5 || leN ((List.length (k1c x3 x4 x5 x6) + List.length [(0 : Int)]) * (8 : Nat)) (140737488355328 : Nat)

def kp1 (x3 : Int) (x5 : List (Int × Int)) : Int :=
  bif ka x3 x5 then bif kd x3 x5 then k28 x3 else k28 x3
  else
  bif kb x3 x5 then bif kd x3 x5 then k28 x3 else k28 x3
  else
    bif kf x3 x5 then bif kd x3 x5 then k28 x3 else k28 x3
    else
      bif ki x3 x5 then bif kd x3 x5 then k28 x3 else k28 x3
      else
        bif kk x3 x5 then bif kd x3 x5 then k28 x3 else k28 x3
        else
          bif kn x3 x5 then bif kd x3 x5 then k28 x3 else k28 x3
          else
            bif kz x3 x5 then bif kd x3 x5 then k28 x3 else k28 x3
            else
              bif k18 x3 x5 then bif kd x3 x5 then k28 x3 else k28 x3
              else
                bif k1p x3 x5 then bif kd x3 x5 then k28 x3 else k28 x3
                else
                  bif k2e x3 x5 then bif kd x3 x5 then k28 x3 else k28 x3
                  else
                    bif k58 x3 x5 then bif kd x3 x5 then k28 x3 else k28 x3
                    else bif kd x3 x5 then k28 x3 else k28 x3

def kof (x3 : Int) (x4 : List (Int × ByteArray × Int)) (x5 : List (Int × Int)) (x6 : List Int) (x7 : List Int) (x9 : List (Int × Int × Int)) (x10 : List Int) : List Int :=
  bif ka x3 x5 then
  bif kd x3 x5 then k1c x3 x4 x5 x6 ++ [Prod.snd (kw x3 x5)] else k1c x3 x4 x5 x6
  else
  bif kb x3 x5 then
    bif kd x3 x5 then k1c x3 x4 x5 x6 ++ [kdd x3 x5 x10] else k1c x3 x4 x5 x6
  else
    bif kf x3 x5 then
      bif kd x3 x5 then k1c x3 x4 x5 x6 ++ [kdg x3 x5 x7] else k1c x3 x4 x5 x6
    else
      bif ki x3 x5 then
        bif kd x3 x5 then k1c x3 x4 x5 x6 ++ k4j x3 x4 x5 x6 else k1c x3 x4 x5 x6
      else
        bif kk x3 x5 then
          bif kd x3 x5 then k1c x3 x4 x5 x6 ++ k4g x3 x4 x5 x6 else k1c x3 x4 x5 x6
        else
          bif kn x3 x5 then
            bif kd x3 x5 then k1c x3 x4 x5 x6 ++ k4a x3 x4 x5 x6 else k1c x3 x4 x5 x6
          else
            bif kz x3 x5 then
              bif kd x3 x5 then k1c x3 x4 x5 x6 ++ k4c x3 x4 x5 x6 x9 else k1c x3 x4 x5 x6
            else
              bif k18 x3 x5 then kf2 x3 x4 x5 x6
              else
                bif k1p x3 x5 then kf2 x3 x4 x5 x6
                else
                  bif k2e x3 x5 then kf2 x3 x4 x5 x6
                  else bif k58 x3 x5 then kf2 x3 x4 x5 x6 else kf2 x3 x4 x5 x6

def kr1 (x3 : Int) (x4 : List (Int × ByteArray × Int)) (x5 : List (Int × Int)) (x6 : List Int) (x7 : List Int) : List Int :=
  bif ka x3 x5 then bif kd x3 x5 then x7 else x7
  else
  bif kb x3 x5 then bif kd x3 x5 then x7 else x7
  else
    bif kf x3 x5 then bif kd x3 x5 then x7 else x7
    else
      bif ki x3 x5 then bif kd x3 x5 then x7 else x7
      else
        bif kk x3 x5 then bif kd x3 x5 then x7 else x7
        else
          bif kn x3 x5 then bif kd x3 x5 then x7 else x7
          else
            bif kz x3 x5 then bif kd x3 x5 then x7 else x7
            else
              bif k18 x3 x5 then bif kd x3 x5 then kok x3 x4 x5 x6 x7 else kok x3 x4 x5 x6 x7
              else
                bif k1p x3 x5 then bif kd x3 x5 then x7 else x7
                else
                  bif k2e x3 x5 then bif kd x3 x5 then x7 else x7
                  else bif k58 x3 x5 then bif kd x3 x5 then x7 else x7 else bif kd x3 x5 then x7 else x7

def kr7 (x3 : Int) (x4 : List (Int × ByteArray × Int)) (x5 : List (Int × Int)) (x6 : List Int) (x7 : List Int) (x8 : List Int) (x10 : List Int) : List Int :=
  bif ka x3 x5 then bif kd x3 x5 then x8 else x8
  else
  bif kb x3 x5 then bif kd x3 x5 then x8 else x8
  else
    bif kf x3 x5 then bif kd x3 x5 then x8 else x8
    else
      bif ki x3 x5 then bif kd x3 x5 then x8 else x8
      else
        bif kk x3 x5 then bif kd x3 x5 then x8 else x8
        else
          bif kn x3 x5 then bif kd x3 x5 then x8 else x8
          else
            bif kz x3 x5 then bif kd x3 x5 then x8 else x8
            else
              bif k18 x3 x5 then bif kd x3 x5 then x8 else x8
              else
                bif k1p x3 x5 then bif kd x3 x5 then koq x3 x4 x5 x6 x8 else koq x3 x4 x5 x6 x8
                else
                  bif k2e x3 x5 then
                    bif kd x3 x5 then kj6 (kdd x3 x5 x10) x8 else kj6 (kdd x3 x5 x10) x8
                  else
                    bif k58 x3 x5 then
                      bif kd x3 x5 then kj6 (kdg x3 x5 x7) x8 else kj6 (kdg x3 x5 x7) x8
                    else bif kd x3 x5 then x8 else x8

def kr9 (x3 : Int) (x4 : List (Int × ByteArray × Int)) (x5 : List (Int × Int)) (x6 : List Int) (x9 : List (Int × Int × Int)) : List (Int × (Int × Int)) :=
  bif ka x3 x5 then bif kd x3 x5 then x9 else x9
  else
  bif kb x3 x5 then bif kd x3 x5 then x9 else x9
  else
    bif kf x3 x5 then bif kd x3 x5 then x9 else x9
    else
      bif ki x3 x5 then bif kd x3 x5 then x9 else x9
      else
        bif kk x3 x5 then bif kd x3 x5 then x9 else x9
        else
          bif kn x3 x5 then bif kd x3 x5 then x9 else x9
          else
            bif kz x3 x5 then bif kd x3 x5 then koa x3 x4 x5 x6 x9 else koa x3 x4 x5 x6 x9
            else
              bif k18 x3 x5 then bif kd x3 x5 then x9 else x9
              else
                bif k1p x3 x5 then bif kd x3 x5 then x9 else x9
                else
                  bif k2e x3 x5 then bif kd x3 x5 then x9 else x9
                  else bif k58 x3 x5 then bif kd x3 x5 then x9 else x9 else bif kd x3 x5 then x9 else x9

def k8p (x3 : Int) (x4 : List (Int × ByteArray × Int)) (x5 : List (Int × Int)) (x6 : List Int) (x7 : List Int) (x8 : List Int) (x9 : List (Int × Int × Int)) (x10 : List Int) : Bool :=
  allT
  [leI (0 : Int) x3, ltI x3 (↑(List.length x5) : Int), ltN (Int.toNat x3) (List.length x5),
    kes (Prod.fst (kw x3 x5)) (Prod.snd (kw x3 x5)) x4, leI (0 : Int) (kdi x3 x4 x5 x6),
    leI (kdi x3 x4 x5 x6) (↑(List.length x6) : Int), leI (↑(List.length x6) : Int) (↑(List.length x6) : Int),
    leN (List.length (k57 x3 x4 x5 x6)) (1048576 : Nat), leI (0 : Int) (kdi x3 x4 x5 x6),
    leI (kdi x3 x4 x5 x6) (↑(List.length x6) : Int), leN (List.length (k1c x3 x4 x5 x6)) (1048576 : Nat),
    leN (List.length x7) (1048576 : Nat), leN (List.length x8) (1048576 : Nat), leN ((0 : Nat) + List.length x9) (9223372036854775807 : Nat),
    leN (((0 : Nat) + List.length x9) * (24 : Nat)) (140737488355328 : Nat),
    ka x3 x5 || (!kb x3 x5 || leI (0 : Int) (Prod.snd (kw x3 x5))),
    ka x3 x5 || (!kb x3 x5 || k6q x3 x5 x10),
    ka x3 x5 || (!kb x3 x5 || ltN (Int.toNat (Prod.snd (kw x3 x5))) (List.length x10)),
    ka x3 x5 || (kb x3 x5 || (!kf x3 x5 || leI (0 : Int) (Prod.snd (kw x3 x5)))),
    ka x3 x5 || (kb x3 x5 || (!kf x3 x5 || k5s x3 x5 x7)),
    ka x3 x5 ||
      (kb x3 x5 || (!kf x3 x5 || ltN (Int.toNat (Prod.snd (kw x3 x5))) (List.length x7))),
    ka x3 x5 || (kb x3 x5 || (kf x3 x5 || (!ki x3 x5 || leI (0 : Int) (0 : Int)))),
    ka x3 x5 || (kb x3 x5 || (kf x3 x5 || (!ki x3 x5 || k4b x3 x4 x5 x6))),
    ka x3 x5 || (kb x3 x5 || (kf x3 x5 || (!ki x3 x5 || k4d x3 x4 x5 x6))),
    ka x3 x5 ||
      (kb x3 x5 || (kf x3 x5 || (ki x3 x5 || (!kk x3 x5 || leI (0 : Int) (0 : Int))))),
    ka x3 x5 ||
      (kb x3 x5 || (kf x3 x5 || (ki x3 x5 || (!kk x3 x5 || k4b x3 x4 x5 x6)))),
    ka x3 x5 ||
      (kb x3 x5 || (kf x3 x5 || (ki x3 x5 || (!kk x3 x5 || k4d x3 x4 x5 x6)))),
    ka x3 x5 ||
      (kb x3 x5 || (kf x3 x5 || (ki x3 x5 || (!kk x3 x5 || leI (0 : Int) (1 : Int))))),
    ka x3 x5 ||
      (kb x3 x5 || (kf x3 x5 || (ki x3 x5 || (!kk x3 x5 || k6s x3 x4 x5 x6)))),
    ka x3 x5 ||
      (kb x3 x5 || (kf x3 x5 || (ki x3 x5 || (!kk x3 x5 || k6k x3 x4 x5 x6)))),
    ka x3 x5 ||
      (kb x3 x5 ||
        (kf x3 x5 || (ki x3 x5 || (kk x3 x5 || (!kn x3 x5 || leI (0 : Int) (0 : Int)))))),
    ka x3 x5 ||
      (kb x3 x5 ||
        (kf x3 x5 || (ki x3 x5 || (kk x3 x5 || (!kn x3 x5 || k4b x3 x4 x5 x6))))),
    ka x3 x5 ||
      (kb x3 x5 ||
        (kf x3 x5 || (ki x3 x5 || (kk x3 x5 || (!kn x3 x5 || k4d x3 x4 x5 x6))))),
    ka x3 x5 ||
      (kb x3 x5 ||
        (kf x3 x5 || (ki x3 x5 || (kk x3 x5 || (!kn x3 x5 || leI (0 : Int) (1 : Int)))))),
    ka x3 x5 ||
      (kb x3 x5 ||
        (kf x3 x5 || (ki x3 x5 || (kk x3 x5 || (!kn x3 x5 || k6s x3 x4 x5 x6))))),
    ka x3 x5 ||
      (kb x3 x5 ||
        (kf x3 x5 || (ki x3 x5 || (kk x3 x5 || (!kn x3 x5 || k6k x3 x4 x5 x6))))),
    k5t x3 x5,
    ka x3 x5 ||
      (kb x3 x5 ||
        (kf x3 x5 ||
          (ki x3 x5 ||
            (kk x3 x5 ||
              (kn x3 x5 || (!kz x3 x5 || ltI (Prod.snd (kw x3 x5)) (↑(List.length x4) : Int))))))),
    ka x3 x5 ||
      (kb x3 x5 ||
        (kf x3 x5 ||
          (ki x3 x5 ||
            (kk x3 x5 ||
              (kn x3 x5 || (!kz x3 x5 || ltN (Int.toNat (Prod.snd (kw x3 x5))) (List.length x4))))))),
    k5t x3 x5, k6m x3 x5 x9, k6p x3 x5 x9,
    ka x3 x5 ||
      (kb x3 x5 ||
        (kf x3 x5 ||
          (ki x3 x5 ||
            (kk x3 x5 || (kn x3 x5 || (!kz x3 x5 || k7q (k57 x3 x4 x5 x6))))))),
    k5t x3 x5, k6m x3 x5 x9, k6p x3 x5 x9,
    ka x3 x5 ||
      (kb x3 x5 ||
        (kf x3 x5 ||
          (ki x3 x5 ||
            (kk x3 x5 || (kn x3 x5 || (kz x3 x5 || (!k18 x3 x5 || leI (0 : Int) (0 : Int)))))))),
    ka x3 x5 ||
      (kb x3 x5 ||
        (kf x3 x5 ||
          (ki x3 x5 ||
            (kk x3 x5 ||
              (kn x3 x5 || (kz x3 x5 || (!k18 x3 x5 || k4b x3 x4 x5 x6))))))),
    ka x3 x5 ||
      (kb x3 x5 ||
        (kf x3 x5 ||
          (ki x3 x5 ||
            (kk x3 x5 ||
              (kn x3 x5 || (kz x3 x5 || (!k18 x3 x5 || k4d x3 x4 x5 x6))))))),
    ka x3 x5 ||
      (kb x3 x5 ||
        (kf x3 x5 ||
          (ki x3 x5 ||
            (kk x3 x5 ||
              (kn x3 x5 || (kz x3 x5 || (!k18 x3 x5 || leI (0 : Int) (Prod.snd (kw x3 x5))))))))),
    ka x3 x5 ||
      (kb x3 x5 ||
        (kf x3 x5 ||
          (ki x3 x5 ||
            (kk x3 x5 ||
              (kn x3 x5 || (kz x3 x5 || (!k18 x3 x5 || k5s x3 x5 x7))))))),
    ka x3 x5 ||
      (kb x3 x5 ||
        (kf x3 x5 ||
          (ki x3 x5 ||
            (kk x3 x5 ||
              (kn x3 x5 ||
                (kz x3 x5 || (!k18 x3 x5 || ltN (Int.toNat (Prod.snd (kw x3 x5))) (List.length x7)))))))),
    ka x3 x5 ||
      (kb x3 x5 ||
        (kf x3 x5 ||
          (ki x3 x5 ||
            (kk x3 x5 ||
              (kn x3 x5 ||
                (kz x3 x5 || (k18 x3 x5 || (!k1p x3 x5 || leI (0 : Int) (0 : Int))))))))),
    ka x3 x5 ||
      (kb x3 x5 ||
        (kf x3 x5 ||
          (ki x3 x5 ||
            (kk x3 x5 ||
              (kn x3 x5 ||
                (kz x3 x5 || (k18 x3 x5 || (!k1p x3 x5 || k4b x3 x4 x5 x6)))))))),
    ka x3 x5 ||
      (kb x3 x5 ||
        (kf x3 x5 ||
          (ki x3 x5 ||
            (kk x3 x5 ||
              (kn x3 x5 ||
                (kz x3 x5 || (k18 x3 x5 || (!k1p x3 x5 || k4d x3 x4 x5 x6)))))))),
    ka x3 x5 ||
      (kb x3 x5 ||
        (kf x3 x5 ||
          (ki x3 x5 ||
            (kk x3 x5 ||
              (kn x3 x5 ||
                (kz x3 x5 ||
                  (k18 x3 x5 || (!k1p x3 x5 || leI (0 : Int) (Prod.snd (kw x3 x5)))))))))),
    ka x3 x5 ||
      (kb x3 x5 ||
        (kf x3 x5 ||
          (ki x3 x5 ||
            (kk x3 x5 ||
              (kn x3 x5 ||
                (kz x3 x5 ||
                  (k18 x3 x5 || (!k1p x3 x5 || ltI (Prod.snd (kw x3 x5)) (↑(List.length x8) : Int))))))))),
    ka x3 x5 ||
      (kb x3 x5 ||
        (kf x3 x5 ||
          (ki x3 x5 ||
            (kk x3 x5 ||
              (kn x3 x5 ||
                (kz x3 x5 ||
                  (k18 x3 x5 || (!k1p x3 x5 || ltN (Int.toNat (Prod.snd (kw x3 x5))) (List.length x8))))))))),
    ka x3 x5 ||
      (kb x3 x5 ||
        (kf x3 x5 ||
          (ki x3 x5 ||
            (kk x3 x5 ||
              (kn x3 x5 ||
                (kz x3 x5 ||
                  (k18 x3 x5 ||
                    (k1p x3 x5 || (!k2e x3 x5 || leI (0 : Int) (Prod.snd (kw x3 x5))))))))))),
    ka x3 x5 ||
      (kb x3 x5 ||
        (kf x3 x5 ||
          (ki x3 x5 ||
            (kk x3 x5 ||
              (kn x3 x5 ||
                (kz x3 x5 ||
                  (k18 x3 x5 || (k1p x3 x5 || (!k2e x3 x5 || k6q x3 x5 x10))))))))),
    ka x3 x5 ||
      (kb x3 x5 ||
        (kf x3 x5 ||
          (ki x3 x5 ||
            (kk x3 x5 ||
              (kn x3 x5 ||
                (kz x3 x5 ||
                  (k18 x3 x5 ||
                    (k1p x3 x5 ||
                      (!k2e x3 x5 || ltN (Int.toNat (Prod.snd (kw x3 x5))) (List.length x10)))))))))),
    ka x3 x5 ||
      (kb x3 x5 ||
        (kf x3 x5 ||
          (ki x3 x5 ||
            (kk x3 x5 ||
              (kn x3 x5 ||
                (kz x3 x5 ||
                  (k18 x3 x5 ||
                    (k1p x3 x5 || (!k2e x3 x5 || kj8 (kdd x3 x5 x10) x8))))))))),
    ka x3 x5 ||
      (kb x3 x5 ||
        (kf x3 x5 ||
          (ki x3 x5 ||
            (kk x3 x5 ||
              (kn x3 x5 ||
                (kz x3 x5 ||
                  (k18 x3 x5 ||
                    (k1p x3 x5 ||
                      (k2e x3 x5 || (!k58 x3 x5 || leI (0 : Int) (Prod.snd (kw x3 x5)))))))))))),
    ka x3 x5 ||
      (kb x3 x5 ||
        (kf x3 x5 ||
          (ki x3 x5 ||
            (kk x3 x5 ||
              (kn x3 x5 ||
                (kz x3 x5 ||
                  (k18 x3 x5 ||
                    (k1p x3 x5 || (k2e x3 x5 || (!k58 x3 x5 || k5s x3 x5 x7)))))))))),
    ka x3 x5 ||
      (kb x3 x5 ||
        (kf x3 x5 ||
          (ki x3 x5 ||
            (kk x3 x5 ||
              (kn x3 x5 ||
                (kz x3 x5 ||
                  (k18 x3 x5 ||
                    (k1p x3 x5 ||
                      (k2e x3 x5 ||
                        (!k58 x3 x5 || ltN (Int.toNat (Prod.snd (kw x3 x5))) (List.length x7))))))))))),
    ka x3 x5 ||
      (kb x3 x5 ||
        (kf x3 x5 ||
          (ki x3 x5 ||
            (kk x3 x5 ||
              (kn x3 x5 ||
                (kz x3 x5 ||
                  (k18 x3 x5 ||
                    (k1p x3 x5 ||
                      (k2e x3 x5 || (!k58 x3 x5 || kj8 (kdg x3 x5 x7) x8)))))))))),
    !ka x3 x5 ||
      (!kd x3 x5 ||
        leN (List.length (k1c x3 x4 x5 x6) + List.length [Prod.snd (kw x3 x5)]) (9223372036854775807 : Nat)),
    !ka x3 x5 ||
      (!kd x3 x5 ||
        leN ((List.length (k1c x3 x4 x5 x6) + List.length [Prod.snd (kw x3 x5)]) * (8 : Nat)) (140737488355328 : Nat)),
    ka x3 x5 ||
      (!kb x3 x5 ||
        (!kd x3 x5 ||
          leN (List.length (k1c x3 x4 x5 x6) + List.length [kdd x3 x5 x10]) (9223372036854775807 : Nat))),
    ka x3 x5 ||
      (!kb x3 x5 ||
        (!kd x3 x5 ||
          leN ((List.length (k1c x3 x4 x5 x6) + List.length [kdd x3 x5 x10]) * (8 : Nat)) (140737488355328 : Nat))),
    ka x3 x5 ||
      (kb x3 x5 ||
        (!kf x3 x5 ||
          (!kd x3 x5 ||
            leN (List.length (k1c x3 x4 x5 x6) + List.length [kdg x3 x5 x7]) (9223372036854775807 : Nat)))),
    ka x3 x5 ||
      (kb x3 x5 ||
        (!kf x3 x5 ||
          (!kd x3 x5 ||
            leN ((List.length (k1c x3 x4 x5 x6) + List.length [kdg x3 x5 x7]) * (8 : Nat)) (140737488355328 : Nat)))),
    ka x3 x5 ||
      (kb x3 x5 ||
        (kf x3 x5 ||
          (!ki x3 x5 ||
            (!kd x3 x5 ||
              leN (List.length (k1c x3 x4 x5 x6) + List.length (k4j x3 x4 x5 x6)) (9223372036854775807 : Nat))))),
    ka x3 x5 ||
      (kb x3 x5 ||
        (kf x3 x5 ||
          (!ki x3 x5 ||
            (!kd x3 x5 ||
              leN ((List.length (k1c x3 x4 x5 x6) + List.length (k4j x3 x4 x5 x6)) * (8 : Nat)) (140737488355328 : Nat))))),
    ka x3 x5 ||
      (kb x3 x5 ||
        (kf x3 x5 ||
          (ki x3 x5 ||
            (!kk x3 x5 ||
              (!kd x3 x5 ||
                leN (List.length (k1c x3 x4 x5 x6) + List.length (k4g x3 x4 x5 x6)) (9223372036854775807 : Nat)))))),
    ka x3 x5 ||
      (kb x3 x5 ||
        (kf x3 x5 ||
          (ki x3 x5 ||
            (!kk x3 x5 ||
              (!kd x3 x5 ||
                leN ((List.length (k1c x3 x4 x5 x6) + List.length (k4g x3 x4 x5 x6)) * (8 : Nat))
                  (140737488355328 : Nat)))))),
    ka x3 x5 ||
      (kb x3 x5 ||
        (kf x3 x5 ||
          (ki x3 x5 ||
            (kk x3 x5 ||
              (!kn x3 x5 ||
                (!kd x3 x5 ||
                  leN (List.length (k1c x3 x4 x5 x6) + List.length (k4a x3 x4 x5 x6)) (9223372036854775807 : Nat))))))),
    ka x3 x5 ||
      (kb x3 x5 ||
        (kf x3 x5 ||
          (ki x3 x5 ||
            (kk x3 x5 ||
              (!kn x3 x5 ||
                (!kd x3 x5 ||
                  leN ((List.length (k1c x3 x4 x5 x6) + List.length (k4a x3 x4 x5 x6)) * (8 : Nat))
                    (140737488355328 : Nat))))))),
    ka x3 x5 ||
      (kb x3 x5 ||
        (kf x3 x5 ||
          (ki x3 x5 ||
            (kk x3 x5 ||
              (kn x3 x5 ||
                (!kz x3 x5 ||
                  (!kd x3 x5 ||
                    leN (List.length (k1c x3 x4 x5 x6) + List.length (k4c x3 x4 x5 x6 x9))
                      (9223372036854775807 : Nat)))))))),
    ka x3 x5 ||
      (kb x3 x5 ||
        (kf x3 x5 ||
          (ki x3 x5 ||
            (kk x3 x5 ||
              (kn x3 x5 ||
                (!kz x3 x5 ||
                  (!kd x3 x5 ||
                    leN ((List.length (k1c x3 x4 x5 x6) + List.length (k4c x3 x4 x5 x6 x9)) * (8 : Nat))
                      (140737488355328 : Nat)))))))),
    ka x3 x5 ||
      (kb x3 x5 ||
        (kf x3 x5 ||
          (ki x3 x5 ||
            (kk x3 x5 ||
              (kn x3 x5 || (kz x3 x5 || (!k18 x3 x5 || k4e x3 x4 x5 x6))))))),
    ka x3 x5 ||
      (kb x3 x5 ||
        (kf x3 x5 ||
          (ki x3 x5 ||
            (kk x3 x5 ||
              (kn x3 x5 || (kz x3 x5 || (!k18 x3 x5 || k4f x3 x4 x5 x6))))))),
    ka x3 x5 ||
      (kb x3 x5 ||
        (kf x3 x5 ||
          (ki x3 x5 ||
            (kk x3 x5 ||
              (kn x3 x5 ||
                (kz x3 x5 || (k18 x3 x5 || (!k1p x3 x5 || k4e x3 x4 x5 x6)))))))),
    ka x3 x5 ||
      (kb x3 x5 ||
        (kf x3 x5 ||
          (ki x3 x5 ||
            (kk x3 x5 ||
              (kn x3 x5 ||
                (kz x3 x5 || (k18 x3 x5 || (!k1p x3 x5 || k4f x3 x4 x5 x6)))))))),
    ka x3 x5 ||
      (kb x3 x5 ||
        (kf x3 x5 ||
          (ki x3 x5 ||
            (kk x3 x5 ||
              (kn x3 x5 ||
                (kz x3 x5 ||
                  (k18 x3 x5 || (k1p x3 x5 || (!k2e x3 x5 || k4e x3 x4 x5 x6))))))))),
    ka x3 x5 ||
      (kb x3 x5 ||
        (kf x3 x5 ||
          (ki x3 x5 ||
            (kk x3 x5 ||
              (kn x3 x5 ||
                (kz x3 x5 ||
                  (k18 x3 x5 || (k1p x3 x5 || (!k2e x3 x5 || k4f x3 x4 x5 x6))))))))),
    ka x3 x5 ||
      (kb x3 x5 ||
        (kf x3 x5 ||
          (ki x3 x5 ||
            (kk x3 x5 ||
              (kn x3 x5 ||
                (kz x3 x5 ||
                  (k18 x3 x5 ||
                    (k1p x3 x5 || (k2e x3 x5 || (!k58 x3 x5 || k4e x3 x4 x5 x6)))))))))),
    ka x3 x5 ||
      (kb x3 x5 ||
        (kf x3 x5 ||
          (ki x3 x5 ||
            (kk x3 x5 ||
              (kn x3 x5 ||
                (kz x3 x5 ||
                  (k18 x3 x5 ||
                    (k1p x3 x5 || (k2e x3 x5 || (!k58 x3 x5 || k4f x3 x4 x5 x6)))))))))),
    ka x3 x5 ||
      (kb x3 x5 ||
        (kf x3 x5 ||
          (ki x3 x5 ||
            (kk x3 x5 ||
              (kn x3 x5 ||
                (kz x3 x5 ||
                  (k18 x3 x5 ||
                    (k1p x3 x5 || (k2e x3 x5 || (k58 x3 x5 || k4e x3 x4 x5 x6)))))))))),
    ka x3 x5 ||
      (kb x3 x5 ||
        (kf x3 x5 ||
          (ki x3 x5 ||
            (kk x3 x5 ||
              (kn x3 x5 ||
                (kz x3 x5 ||
                  (k18 x3 x5 ||
                    (k1p x3 x5 || (k2e x3 x5 || (k58 x3 x5 || k4f x3 x4 x5 x6))))))))))]

def kyq : List SV → List Entry → Option Out
  | [.one ⟨true, [.val (.int .i64 _x0), .val (.int .i64 _x1), .val (.int .i64 _x2), .ref 0, .ref 1]⟩, .one ⟨true, [.val (.int .i64 x3), .ref 2, .ref 3, .ref 4, .ref 5]⟩, .one ⟨false, [.ref 6]⟩], [.row false 178 (.pair (.int .i64) (.pair (.str) (.int .i64))) x4, .row false 150 (.pair (.int .i64) (.int .i64)) x5, .row false 2 (.int .i64) x6, .row false 2 (.int .i64) x7, .row false 2 (.int .i64) x8, .row false 172 (.pair (.int .i64) (.pair (.int .i64) (.int .i64))) x9, .row false 2 (.int .i64) x10] => some ⟨(.one ⟨true, [(.val (.int IntKind.i64 (kp1 x3 x5))), (.ref 7), (.ref 8), (.ref 9), (.ref 10)]⟩), [(.row false 178 (CTy.pair (CTy.int IntKind.i64) (CTy.pair CTy.str (CTy.int IntKind.i64))) x4), (.row false 150 (CTy.pair (CTy.int IntKind.i64) (CTy.int IntKind.i64)) x5), (.row false 2 (CTy.int IntKind.i64) x6), (.row false 2 (CTy.int IntKind.i64) x7), (.row false 2 (CTy.int IntKind.i64) x8), (.row false 172 (CTy.pair (CTy.int IntKind.i64) (CTy.pair (CTy.int IntKind.i64) (CTy.int IntKind.i64))) x9), (.row false 2 (CTy.int IntKind.i64) x10)], [(.row false 2 (CTy.int IntKind.i64) (kof x3 x4 x5 x6 x7 x9 x10)), (.row false 2 (CTy.int IntKind.i64) (kr1 x3 x4 x5 x6 x7)), (.row false 2 (CTy.int IntKind.i64) (kr7 x3 x4 x5 x6 x7 x8 x10)), (.row false 172 (CTy.pair (CTy.int IntKind.i64) (CTy.pair (CTy.int IntKind.i64) (CTy.int IntKind.i64))) (kr9 x3 x4 x5 x6 x9))], [(k8p x3 x4 x5 x6 x7 x8 x9 x10)]⟩
  | _, _ => none

def kmg : PF Tryz.prog := PF.ofG Tryz.prog [kcf, PF.lend kcf, PF.fz kcf, kd4, PF.lend kd4, PF.fz kd4, ku1, PF.lend ku1, PF.fz ku1, ku8, PF.lend ku8, PF.fz ku8] [] hmix 122 Tryz.f122 Tryz.func122 (fun c _ => LOk.nil c) kyq (by
  intro vs es r h; unfold kyq at h; split at h
  · cases h; kernel_rfl
  · cases h)

abbrev ka8 := Int × Int × Int × Int × List Int × List Int × List Int × List Int × List (Int × (Int × Int)) × List (Int × (ByteArray × Int)) × List (Int × Int)

def kp0 (y0 : Int) (y10 : List (Int × Int)) : Bool :=
  ltI y0 (↑(List.length y10) : Int)

def ksl (y0 : Int) (y4 : List Int) (y5 : List Int) (y6 : List Int) (y7 : List Int) (y8 : List (Int × (Int × Int))) (y9 : List (Int × (ByteArray × Int))) (y10 : List (Int × Int)) : Bool :=
  k8p y0 y9 y10 y5 y6 y7 y8 y4

def ksq (y0 : Int) (y10 : List (Int × Int)) : Int :=
  kp1 y0 y10

def ksr (y0 : Int) (y4 : List Int) (y5 : List Int) (y6 : List Int) (y8 : List (Int × (Int × Int))) (y9 : List (Int × (ByteArray × Int))) (y10 : List (Int × Int)) : List Int :=
  kof y0 y9 y10 y5 y6 y8 y4

def ksk (y0 : Int) (y5 : List Int) (y6 : List Int) (y9 : List (Int × (ByteArray × Int))) (y10 : List (Int × Int)) : List Int :=
  kr1 y0 y9 y10 y5 y6

def ksd (y0 : Int) (y4 : List Int) (y5 : List Int) (y6 : List Int) (y7 : List Int) (y9 : List (Int × (ByteArray × Int))) (y10 : List (Int × Int)) : List Int :=
  kr7 y0 y9 y10 y5 y6 y7 y4

def ksm (y0 : Int) (y5 : List Int) (y8 : List (Int × (Int × Int))) (y9 : List (Int × (ByteArray × Int))) (y10 : List (Int × Int)) : List (Int × (Int × Int)) :=
  kr9 y0 y9 y10 y5 y8

def ky3 : ka8 → List (Nat × SV)
  | (_, _, _, _, _, _, _, _, _, _, _) => [(4, (.one ⟨false, [(.ptr 0 0)]⟩)), (3, (.one ⟨false, [(.ptr 1 0)]⟩)), (2, (.one ⟨false, [(.ref 2)]⟩))]

def kye : ka8 → List (Nat × Entry)
  | (y0, y1, y2, y3, y4, y5, y6, y7, y8, y9, y10) => [(0, (.box 77 [(.val (.int IntKind.i64 y0)), (.ref 3), (.ref 4), (.ref 5), (.ref 6)])), (1, (.box 34 [(.val (.int IntKind.i64 y1)), (.val (.int IntKind.i64 y2)), (.val (.int IntKind.i64 y3)), (.ref 7), (.ref 8)])), (2, (.row false 2 (CTy.int IntKind.i64) y4)), (7, (.row false 178 (CTy.pair (CTy.int IntKind.i64) (CTy.pair CTy.str (CTy.int IntKind.i64))) y9)), (8, (.row false 150 (CTy.pair (CTy.int IntKind.i64) (CTy.int IntKind.i64)) y10)), (3, (.row false 2 (CTy.int IntKind.i64) y5)), (4, (.row false 2 (CTy.int IntKind.i64) y6)), (5, (.row false 2 (CTy.int IntKind.i64) y7)), (6, (.row false 172 (CTy.pair (CTy.int IntKind.i64) (CTy.pair (CTy.int IntKind.i64) (CTy.int IntKind.i64))) y8))]

def kyh : Nat → ka8 → List (Nat × SV)
  | _, (_, _, _, _, _, _, _, _, _, _, _) => []

def kxt : Nat → ka8 → List (Nat × Entry)
  | _, (y0, y1, y2, y3, y4, y5, y6, y7, y8, y9, y10) => [(0, (.box 77 [(.val (.int IntKind.i64 y0)), (.ref 3), (.ref 4), (.ref 5), (.ref 6)])), (1, (.box 34 [(.val (.int IntKind.i64 y1)), (.val (.int IntKind.i64 y2)), (.val (.int IntKind.i64 y3)), (.ref 7), (.ref 8)])), (2, (.row false 2 (CTy.int IntKind.i64) y4)), (3, (.row false 2 (CTy.int IntKind.i64) y5)), (4, (.row false 2 (CTy.int IntKind.i64) y6)), (5, (.row false 2 (CTy.int IntKind.i64) y7)), (6, (.row false 172 (CTy.pair (CTy.int IntKind.i64) (CTy.pair (CTy.int IntKind.i64) (CTy.int IntKind.i64))) y8)), (7, (.row false 178 (CTy.pair (CTy.int IntKind.i64) (CTy.pair CTy.str (CTy.int IntKind.i64))) y9)), (8, (.row false 150 (CTy.pair (CTy.int IntKind.i64) (CTy.int IntKind.i64)) y10))]

def knt : ka8 → LT ka8
  | (y0, y1, y2, y3, y4, y5, y6, y7, y8, y9, y10) => .ite (kp0 y0 y10) (.need [(ksl y0 y4 y5 y6 y7 y8 y9 y10)] (.nrm ((ksq y0 y10), y1, y2, y3, y4, (ksr y0 y4 y5 y6 y8 y9 y10), (ksk y0 y5 y6 y9 y10), (ksd y0 y4 y5 y6 y7 y9 y10), (ksm y0 y5 y8 y9 y10), y9, y10) [(0, 0), (1, 1), (2, 2), (3, 640), (4, 641), (5, 642), (6, 643), (7, 7), (8, 8)])) (.ext 0 [(0, 0), (1, 1), (2, 2), (3, 3), (4, 4), (5, 5), (6, 6), (7, 7), (8, 8)])

def knx (s : St) : Option ka8 :=
  (match s.look 4 with
  | some ⟨none, (.one ⟨false, [(.ptr 576 0)]⟩)⟩ =>
  (match s.look 3 with
  | some ⟨none, (.one ⟨false, [(.ptr 512 0)]⟩)⟩ =>
  (match s.look 2 with
  | some ⟨none, (.one ⟨false, [(.ref 6)]⟩)⟩ =>
  (match s.ent 576 with
  | some (.box 77 [(.val (.int IntKind.i64 y0)), (.ref 2368), (.ref 3008), (.ref 3648), (.ref 4288)]) =>
  (match s.ent 512 with
  | some (.box 34 [(.val (.int IntKind.i64 y1)), (.val (.int IntKind.i64 y2)), (.val (.int IntKind.i64 y3)), (.ref 0), (.ref 1)]) =>
  (match s.ent 6 with
  | some (.row false 2 (CTy.int IntKind.i64) y4) =>
  (match s.ent 0 with
  | some (.row false 178 (CTy.pair (CTy.int IntKind.i64) (CTy.pair CTy.str (CTy.int IntKind.i64))) y9) =>
  (match s.ent 1 with
  | some (.row false 150 (CTy.pair (CTy.int IntKind.i64) (CTy.int IntKind.i64)) y10) =>
  (match s.ent 2368 with
  | some (.row false 2 (CTy.int IntKind.i64) y5) =>
  (match s.ent 3008 with
  | some (.row false 2 (CTy.int IntKind.i64) y6) =>
  (match s.ent 3648 with
  | some (.row false 2 (CTy.int IntKind.i64) y7) =>
  (match s.ent 4288 with
  | some (.row false 172 (CTy.pair (CTy.int IntKind.i64) (CTy.pair (CTy.int IntKind.i64) (CTy.int IntKind.i64))) y8) =>
  some (y0, y1, y2, y3, y4, y5, y6, y7, y8, y9, y10)
  | _ => none)
  | _ => none)
  | _ => none)
  | _ => none)
  | _ => none)
  | _ => none)
  | _ => none)
  | _ => none)
  | _ => none)
  | _ => none)
  | _ => none)
  | _ => none)

def k67 : Lp ka8 where
  h := ⟨[23, 24, 25, 26, 27, 28, 29, 30, 31, 32], [0, 1, 2, 7, 8], [3, 4, 5, 6], []⟩
  JL := ky3
  JE := kye
  XL := kyh
  XE := kxt
  q := fun j => match j with | _ => .exit 0
  tags := [0]
  lt := knt
  fuel := fun (y0, y1, y2, y3, y4, y5, y6, y7, y8, y9, y10) => y0.natAbs + y1.natAbs + y2.natAbs + y3.natAbs + y4.length + y5.length + y6.length + y7.length + y8.length + y9.length + y10.length
  fix := fun (_, y1, y2, y3, y4, _, _, _, _, y9, y10) (y0, _, _, _, _, y5, y6, y7, y8, _, _) => (y0, y1, y2, y3, y4, y5, y6, y7, y8, y9, y10)
  σ := [(0, 576), (1, 512), (2, 6), (7, 0), (8, 1), (3, 2368), (4, 3008), (5, 3648), (6, 4288)]
  rd := knx
  fz := [0]

theorem kw1 : LoopOk Tryz.prog (fun k => Nat.blt k Tryz.f127.ntmps) k67.F (loopAt Tryz.f127 0) := by
  refine Lp.ok (tbl := [kmg, PF.lend kmg, PF.fz kmg, kcf, PF.lend kcf, PF.fz kcf]) (lf := []) hmix k67 (by kernel_rfl) (LOk.nil _) (fun _ => rfl) (fun _ _ => rfl) ?_ ?_ ?_ ?_ (fun _ => rfl) ?_
  · intro x; obtain ⟨y0, y1, y2, y3, y4, y5, y6, y7, y8, y9, y10⟩ := x; kernel_rfl
  · intro x; obtain ⟨y0, y1, y2, y3, y4, y5, y6, y7, y8, y9, y10⟩ := x; kernel_rfl
  · intro s x h
    have h : knx s = some x := h
    unfold knx at h
    repeat' split at h
    all_goals cases h
    exact ⟨absS_cons (by assumption) rfl (absS_cons (by assumption) rfl (absS_cons (by assumption) rfl (rfl))), absE_cons rfl (by assumption) rfl (absE_cons rfl (by assumption) rfl (absE_cons rfl (by assumption) rfl (absE_cons rfl (by assumption) rfl (absE_cons rfl (by assumption) rfl (absE_cons rfl (by assumption) rfl (absE_cons rfl (by assumption) rfl (absE_cons rfl (by assumption) rfl (absE_cons rfl (by assumption) rfl (rfl)))))))))⟩
  · intro x; obtain ⟨y0, y1, y2, y3, y4, y5, y6, y7, y8, y9, y10⟩ := x; kernel_rfl
  · intro x z; obtain ⟨y0, y1, y2, y3, y4, y5, y6, y7, y8, y9, y10⟩ := x; exact (And.intro rfl trivial)

def kng (x0 : Int) (x1 : Int) (x2 : Int) (x3 : Int) (x4 : List (Int × ByteArray × Int)) (x5 : List (Int × Int)) (x6 : List Int) (x7 : List Int) (x8 : List Int) (x9 : List (Int × Int × Int)) (x10 : List Int) : Int × Int × Int × Int × List Int × List Int × List Int × List Int × List (Int × Int × Int) × List (Int × ByteArray × Int) × List (Int × Int) :=
  (x3, x0, x1, x2, x10, x6, x7, x8, x9, x4, x5)

def kqg (x0 : Int) (x1 : Int) (x2 : Int) (x3 : Int) (x4 : List (Int × ByteArray × Int)) (x5 : List (Int × Int)) (x6 : List Int) (x7 : List Int) (x8 : List Int) (x9 : List (Int × Int × Int)) (x10 : List Int) : List Int × List Int × List Int × List (Int × Int × Int) × List (Int × ByteArray × Int) × List (Int × Int) :=
  Prod.snd (Prod.snd (Prod.snd (Prod.snd (Prod.snd (Prod.snd (Lp.res k67 (kng x0 x1 x2 x3 x4 x5 x6 x7 x8 x9 x10)))))))

def kqh (x0 : Int) (x1 : Int) (x2 : Int) (x3 : Int) (x4 : List (Int × ByteArray × Int)) (x5 : List (Int × Int)) (x6 : List Int) (x7 : List Int) (x8 : List Int) (x9 : List (Int × Int × Int)) (x10 : List Int) : List Int × List Int × List (Int × Int × Int) × List (Int × ByteArray × Int) × List (Int × Int) :=
  Prod.snd (kqg x0 x1 x2 x3 x4 x5 x6 x7 x8 x9 x10)

def kqo (x0 : Int) (x1 : Int) (x2 : Int) (x3 : Int) (x4 : List (Int × ByteArray × Int)) (x5 : List (Int × Int)) (x6 : List Int) (x7 : List Int) (x8 : List Int) (x9 : List (Int × Int × Int)) (x10 : List Int) : List Int × List (Int × Int × Int) × List (Int × ByteArray × Int) × List (Int × Int) :=
  Prod.snd (kqh x0 x1 x2 x3 x4 x5 x6 x7 x8 x9 x10)

def ks0 (x0 : Int) (x1 : Int) (x2 : Int) (x3 : Int) (x4 : List (Int × ByteArray × Int)) (x5 : List (Int × Int)) (x6 : List Int) (x7 : List Int) (x8 : List Int) (x9 : List (Int × Int × Int)) (x10 : List Int) : Int :=
  Prod.fst (Prod.snd (Lp.res k67 (kng x0 x1 x2 x3 x4 x5 x6 x7 x8 x9 x10)))

def krt (x0 : Int) (x1 : Int) (x2 : Int) (x3 : Int) (x4 : List (Int × ByteArray × Int)) (x5 : List (Int × Int)) (x6 : List Int) (x7 : List Int) (x8 : List Int) (x9 : List (Int × Int × Int)) (x10 : List Int) : List Int :=
  Prod.fst (kqg x0 x1 x2 x3 x4 x5 x6 x7 x8 x9 x10)

def kp2 (x0 : Int) (x1 : Int) (x2 : Int) (x3 : Int) (x4 : List (Int × ByteArray × Int)) (x5 : List (Int × Int)) (x6 : List Int) (x7 : List Int) (x8 : List Int) (x9 : List (Int × Int × Int)) (x10 : List Int) : List Int :=
  Prod.fst (kqh x0 x1 x2 x3 x4 x5 x6 x7 x8 x9 x10)

def ko9 (x0 : Int) (x1 : Int) (x2 : Int) (x3 : Int) (x4 : List (Int × ByteArray × Int)) (x5 : List (Int × Int)) (x6 : List Int) (x7 : List Int) (x8 : List Int) (x9 : List (Int × Int × Int)) (x10 : List Int) : List Int :=
  Prod.fst (kqo x0 x1 x2 x3 x4 x5 x6 x7 x8 x9 x10)

def koi (x0 : Int) (x1 : Int) (x2 : Int) (x3 : Int) (x4 : List (Int × ByteArray × Int)) (x5 : List (Int × Int)) (x6 : List Int) (x7 : List Int) (x8 : List Int) (x9 : List (Int × Int × Int)) (x10 : List Int) : List (Int × (Int × Int)) :=
  Prod.fst (Prod.snd (kqo x0 x1 x2 x3 x4 x5 x6 x7 x8 x9 x10))

def kol (x0 : Int) (x1 : Int) (x2 : Int) (x3 : Int) (x4 : List (Int × ByteArray × Int)) (x5 : List (Int × Int)) (x6 : List Int) (x7 : List Int) (x8 : List Int) (x9 : List (Int × Int × Int)) (x10 : List Int) : Bool :=
  allT
  [leN (List.length x6) (1048576 : Nat), leN (List.length x7) (1048576 : Nat), leN (List.length x8) (1048576 : Nat),
    leN ((0 : Nat) + List.length x9) (9223372036854775807 : Nat), leN (((0 : Nat) + List.length x9) * (24 : Nat)) (140737488355328 : Nat),
    Lp.fin k67 (kng x0 x1 x2 x3 x4 x5 x6 x7 x8 x9 x10)]

def kvj : List SV → List Entry → Option Out
  | [.one ⟨true, [.val (.int .i64 x0), .val (.int .i64 x1), .val (.int .i64 x2), .ref 0, .ref 1]⟩, .one ⟨true, [.val (.int .i64 x3), .ref 2, .ref 3, .ref 4, .ref 5]⟩, .one ⟨false, [.ref 6]⟩], [.row false 178 (.pair (.int .i64) (.pair (.str) (.int .i64))) x4, .row false 150 (.pair (.int .i64) (.int .i64)) x5, .row false 2 (.int .i64) x6, .row false 2 (.int .i64) x7, .row false 2 (.int .i64) x8, .row false 172 (.pair (.int .i64) (.pair (.int .i64) (.int .i64))) x9, .row false 2 (.int .i64) x10] => some ⟨(.one ⟨true, [(.val (.int IntKind.i64 (ks0 x0 x1 x2 x3 x4 x5 x6 x7 x8 x9 x10))), (.ref 7), (.ref 8), (.ref 9), (.ref 10)]⟩), [(.row false 178 (CTy.pair (CTy.int IntKind.i64) (CTy.pair CTy.str (CTy.int IntKind.i64))) x4), (.row false 150 (CTy.pair (CTy.int IntKind.i64) (CTy.int IntKind.i64)) x5), (.row false 2 (CTy.int IntKind.i64) x6), (.row false 2 (CTy.int IntKind.i64) x7), (.row false 2 (CTy.int IntKind.i64) x8), (.row false 172 (CTy.pair (CTy.int IntKind.i64) (CTy.pair (CTy.int IntKind.i64) (CTy.int IntKind.i64))) x9), (.row false 2 (CTy.int IntKind.i64) x10)], [(.row false 2 (CTy.int IntKind.i64) (krt x0 x1 x2 x3 x4 x5 x6 x7 x8 x9 x10)), (.row false 2 (CTy.int IntKind.i64) (kp2 x0 x1 x2 x3 x4 x5 x6 x7 x8 x9 x10)), (.row false 2 (CTy.int IntKind.i64) (ko9 x0 x1 x2 x3 x4 x5 x6 x7 x8 x9 x10)), (.row false 172 (CTy.pair (CTy.int IntKind.i64) (CTy.pair (CTy.int IntKind.i64) (CTy.int IntKind.i64))) (koi x0 x1 x2 x3 x4 x5 x6 x7 x8 x9 x10))], [(kol x0 x1 x2 x3 x4 x5 x6 x7 x8 x9 x10)]⟩
  | _, _ => none

def kru : PF Tryz.prog := PF.ofG Tryz.prog [kmg, PF.lend kmg, PF.fz kmg, kcf, PF.lend kcf, PF.fz kcf] [(fun s => k67.F (aliasS [(576, 1), (576, 2), (576, 3), (576, 4)] s))] hmix 127 Tryz.f127 Tryz.func127 (LOk.fnT (l := [loopAt Tryz.f127 0]) (by kernel_rfl) (.cons (kw1.alias [(576, 1), (576, 2), (576, 3), (576, 4)]) (.nil _))) kvj (by
  intro vs es r h; unfold kvj at h; split at h
  · cases h; kernel_rfl
  · cases h)

def kkh  : List Int :=
  []

def kkp (x2 : Int) : List Int :=
  List.replicate (Int.toNat x2) (0 : Int)

def kt3 (x2 : Int) (x5 : List Int) (x6 : List (Int × Int × Int)) : Bool :=
  allT
  [leN (List.length x5) (1048576 : Nat), leI (0 : Int) x2, leI x2 x2, leI ((↑(8 : Nat) : Int) * x2) (281474976710656 : Int),
    leI x2 (9223372036854775807 : Int), leN ((0 : Nat) + List.length x6) (9223372036854775807 : Nat),
    leN (((0 : Nat) + List.length x6) * (24 : Nat)) (140737488355328 : Nat)]

def kxj : List SV → List Entry → Option Out
  | [.one ⟨true, [.val (.int .i64 _x0), .val (.int .i64 _x1), .val (.int .i64 x2), .ref 0, .ref 1]⟩, .one ⟨true, [.ref 2, .ref 3]⟩], [.row false 178 (.pair (.int .i64) (.pair (.str) (.int .i64))) x3, .row false 150 (.pair (.int .i64) (.int .i64)) x4, .row false 2 (.int .i64) x5, .row false 172 (.pair (.int .i64) (.pair (.int .i64) (.int .i64))) x6] => some ⟨(.one ⟨true, [(.val (.int IntKind.i64 (0 : Int))), (.ref 4), (.ref 5), (.ref 6), (.ref 7)]⟩), [(.row false 178 (CTy.pair (CTy.int IntKind.i64) (CTy.pair CTy.str (CTy.int IntKind.i64))) x3), (.row false 150 (CTy.pair (CTy.int IntKind.i64) (CTy.int IntKind.i64)) x4), (.row false 2 (CTy.int IntKind.i64) x5), (.row false 172 (CTy.pair (CTy.int IntKind.i64) (CTy.pair (CTy.int IntKind.i64) (CTy.int IntKind.i64))) x6)], [(.row true 2 (CTy.int IntKind.i64) (kkh)), (.row true 2 (CTy.int IntKind.i64) x5), (.row true 2 (CTy.int IntKind.i64) (kkp x2)), (.row true 172 (CTy.pair (CTy.int IntKind.i64) (CTy.pair (CTy.int IntKind.i64) (CTy.int IntKind.i64))) x6)], [(kt3 x2 x5 x6)]⟩
  | _, _ => none

def ksx : PF Tryz.prog := PF.ofG Tryz.prog [kcf, PF.lend kcf, PF.fz kcf] [] hmix 147 Tryz.f147 Tryz.func147 (fun c _ => LOk.nil c) kxj (by
  intro vs es r h; unfold kxj at h; split at h
  · cases h; kernel_rfl
  · cases h)

def kwa (x0 : Int) (x1 : Int) (x2 : Int) (x3 : List (Int × ByteArray × Int)) (x4 : List (Int × Int)) (x5 : List Int) (x6 : List (Int × Int × Int)) (x7 : List Int) : List Int :=
  ko9 x0 x1 x2 (0 : Int) x3 x4 kkh x5 (kkp x2) x6 x7

def kvp (x0 : Int) (x1 : Int) (x2 : Int) (x3 : List (Int × ByteArray × Int)) (x4 : List (Int × Int)) (x5 : List Int) (x6 : List (Int × Int × Int)) (x7 : List Int) : List Int :=
  kp2 x0 x1 x2 (0 : Int) x3 x4 kkh x5 (kkp x2) x6 x7

def kwb (x0 : Int) (x1 : Int) (x2 : Int) (x3 : List (Int × ByteArray × Int)) (x4 : List (Int × Int)) (x5 : List Int) (x6 : List (Int × Int × Int)) (x7 : List Int) : List (Int × (Int × Int)) :=
  koi x0 x1 x2 (0 : Int) x3 x4 kkh x5 (kkp x2) x6 x7

def kw8 (x0 : Int) (x1 : Int) (x2 : Int) (x3 : List (Int × ByteArray × Int)) (x4 : List (Int × Int)) (x5 : List Int) (x6 : List (Int × Int × Int)) (x7 : List Int) : Bool :=
  allT [kt3 x2 x5 x6, kol x0 x1 x2 (0 : Int) x3 x4 kkh x5 (kkp x2) x6 x7]

def k11o : List SV → List Entry → Option Out
  | [.one ⟨true, [.val (.int .i64 x0), .val (.int .i64 x1), .val (.int .i64 x2), .ref 0, .ref 1]⟩, .one ⟨true, [.ref 2, .ref 3]⟩, .one ⟨false, [.ref 4]⟩], [.row false 178 (.pair (.int .i64) (.pair (.str) (.int .i64))) x3, .row false 150 (.pair (.int .i64) (.int .i64)) x4, .row false 2 (.int .i64) x5, .row false 172 (.pair (.int .i64) (.pair (.int .i64) (.int .i64))) x6, .row false 2 (.int .i64) x7] => some ⟨(.tup [⟨false, [(.ref 5)]⟩, ⟨true, [(.ref 6), (.ref 7)]⟩]), [(.row false 178 (CTy.pair (CTy.int IntKind.i64) (CTy.pair CTy.str (CTy.int IntKind.i64))) x3), (.row false 150 (CTy.pair (CTy.int IntKind.i64) (CTy.int IntKind.i64)) x4), (.row false 2 (CTy.int IntKind.i64) x5), (.row false 172 (CTy.pair (CTy.int IntKind.i64) (CTy.pair (CTy.int IntKind.i64) (CTy.int IntKind.i64))) x6), (.row false 2 (CTy.int IntKind.i64) x7)], [(.row false 2 (CTy.int IntKind.i64) (kwa x0 x1 x2 x3 x4 x5 x6 x7)), (.row false 2 (CTy.int IntKind.i64) (kvp x0 x1 x2 x3 x4 x5 x6 x7)), (.row false 172 (CTy.pair (CTy.int IntKind.i64) (CTy.pair (CTy.int IntKind.i64) (CTy.int IntKind.i64))) (kwb x0 x1 x2 x3 x4 x5 x6 x7))], [(kw8 x0 x1 x2 x3 x4 x5 x6 x7)]⟩
  | _, _ => none

def k149 : PF Tryz.prog := PF.ofG Tryz.prog [kru, PF.lend kru, PF.fz kru, ksx, PF.lend ksx, PF.fz ksx] [] hmix 89 Tryz.f89 Tryz.func89 (fun c _ => LOk.nil c) k11o (by
  intro vs es r h; unfold k11o at h; split at h
  · cases h; kernel_rfl
  · cases h)

end Go.SX

namespace Go.SX
open Go.Proofs
set_option maxRecDepth 100000

def k4l (x8 : List Int) : Int :=
  Option.getD x8[Int.toNat (0 : Int)]? (0 : Int)

def k1q (x4 : Int) (x6 : List (Int × ByteArray × Int)) : Int × ByteArray × Int :=
  Option.getD x6[Int.toNat x4]? ((0 : Int), ByteArray.empty, (0 : Int))

def kx (x4 : Int) (x13 : List (Int × Int × Int)) : Int × Int × Int :=
  Option.getD x13[Int.toNat x4]? ((0 : Int), (0 : Int), (0 : Int))

def k1a (x3 : Int) (x4 : Int) : Bool :=
  x3 == (1 : Int) || (x3 == (2 : Int) || (x3 == (3 : Int) || (x3 == (4 : Int) || (x3 == (5 : Int) || (x3 == (6 : Int) || leI (0 : Int) x4)))))

def k1g (x3 : Int) (x4 : Int) (x13 : List (Int × Int × Int)) : Bool :=
  x3 == (1 : Int) ||
  (x3 == (2 : Int) || (x3 == (3 : Int) || (x3 == (4 : Int) || (x3 == (5 : Int) || (x3 == (6 : Int) || ltI x4 (↑(List.length x13) : Int))))))

def k1h (x3 : Int) (x4 : Int) (x13 : List (Int × Int × Int)) : Bool :=
  x3 == (1 : Int) ||
  (x3 == (2 : Int) || (x3 == (3 : Int) || (x3 == (4 : Int) || (x3 == (5 : Int) || (x3 == (6 : Int) || ltN (Int.toNat x4) (List.length x13))))))

def k1d (x3 : Int) (x4 : Int) (x6 : List (Int × ByteArray × Int)) (x8 : List Int) (x9 : List Int) (x11 : List Int) (x13 : List (Int × Int × Int)) : Int :=
  bif x3 == (1 : Int) then x4
  else
  bif x3 == (2 : Int) then Option.getD x9[Int.toNat x4]? (0 : Int)
  else
    bif x3 == (3 : Int) then Option.getD x11[Int.toNat x4]? (0 : Int)
    else
      bif x3 == (4 : Int) then IntKind.wrap IntKind.i64 ((1 : Int) - k4l x8)
      else
        bif x3 == (5 : Int) then
          IntKind.wrap IntKind.i64
            (↑(BitVec.toNat
                  (BitVec.ofInt (IntKind.bits IntKind.i64) (k4l x8) &&&
                    BitVec.ofInt (IntKind.bits IntKind.i64) (Option.getD x8[Int.toNat (1 : Int)]? (0 : Int)))) :
              Int)
        else
          bif x3 == (6 : Int) then
            IntKind.wrap IntKind.i64
              (↑(BitVec.toNat
                    (BitVec.ofInt (IntKind.bits IntKind.i64) (k4l x8) |||
                      BitVec.ofInt (IntKind.bits IntKind.i64) (Option.getD x8[Int.toNat (1 : Int)]? (0 : Int)))) :
                Int)
          else
            km9 (Prod.fst (k1q x4 x6))
              (Prod.snd (Prod.snd (k1q x4 x6)))
              (Prod.fst (kx x4 x13))
              (Prod.fst (Prod.snd (kx x4 x13)))
              (Prod.snd (Prod.snd (kx x4 x13))) x8

def k81 (x3 : Int) (x5 : Int) : Int :=
  bif x3 == (1 : Int) then x5
  else
  bif x3 == (2 : Int) then x5
  else bif x3 == (3 : Int) then x5 else bif x3 == (4 : Int) then x5 else bif x3 == (5 : Int) then x5 else bif x3 == (6 : Int) then x5 else x5

def k7z (x3 : Int) (x8 : List Int) : List Int :=
  bif x3 == (1 : Int) then x8
  else
  bif x3 == (2 : Int) then x8
  else bif x3 == (3 : Int) then x8 else bif x3 == (4 : Int) then x8 else bif x3 == (5 : Int) then x8 else bif x3 == (6 : Int) then x8 else x8

def k83 (x3 : Int) (x10 : List Int) : List Int :=
  bif x3 == (1 : Int) then x10
  else
  bif x3 == (2 : Int) then x10
  else bif x3 == (3 : Int) then x10 else bif x3 == (4 : Int) then x10 else bif x3 == (5 : Int) then x10 else bif x3 == (6 : Int) then x10 else x10

def k82 (x3 : Int) (x11 : List Int) : List Int :=
  bif x3 == (1 : Int) then x11
  else
  bif x3 == (2 : Int) then x11
  else bif x3 == (3 : Int) then x11 else bif x3 == (4 : Int) then x11 else bif x3 == (5 : Int) then x11 else bif x3 == (6 : Int) then x11 else x11

def k84 (x3 : Int) (x12 : List Int) : List Int :=
  bif x3 == (1 : Int) then x12
  else
  bif x3 == (2 : Int) then x12
  else bif x3 == (3 : Int) then x12 else bif x3 == (4 : Int) then x12 else bif x3 == (5 : Int) then x12 else bif x3 == (6 : Int) then x12 else x12

def k2t (x3 : Int) (x4 : Int) (x6 : List (Int × ByteArray × Int)) (x8 : List Int) (x13 : List (Int × Int × Int)) : List (Int × (Int × Int)) :=
  bif x3 == (1 : Int) then x13
  else
  bif x3 == (2 : Int) then x13
  else
    bif x3 == (3 : Int) then x13
    else
      bif x3 == (4 : Int) then x13
      else
        bif x3 == (5 : Int) then x13
        else
          bif x3 == (6 : Int) then x13
          else
            List.set x13 (Int.toNat x4)
              (kkj (Prod.fst (k1q x4 x6))
                  (Prod.snd (Prod.snd (k1q x4 x6)))
                  (Prod.fst (kx x4 x13))
                  (Prod.fst (Prod.snd (kx x4 x13)))
                  (Prod.snd (Prod.snd (kx x4 x13))) x8,
                kki (Prod.fst (k1q x4 x6))
                  (Prod.fst (Prod.snd (kx x4 x13)))
                  (Prod.snd (Prod.snd (kx x4 x13))) x8,
                kkl (Prod.fst (k1q x4 x6))
                  (Prod.snd (Prod.snd (k1q x4 x6)))
                  (Prod.fst (kx x4 x13))
                  (Prod.fst (Prod.snd (kx x4 x13)))
                  (Prod.snd (Prod.snd (kx x4 x13))) x8)

def kg (x3 : Int) (x4 : Int) (x6 : List (Int × ByteArray × Int)) (x8 : List Int) (x9 : List Int) (x11 : List Int) (x13 : List (Int × Int × Int)) : Bool :=
  allT
  [x3 == (1 : Int) || (!x3 == (2 : Int) || leI (0 : Int) x4), x3 == (1 : Int) || (!x3 == (2 : Int) || ltI x4 (↑(List.length x9) : Int)),
    x3 == (1 : Int) || (!x3 == (2 : Int) || ltN (Int.toNat x4) (List.length x9)),
    x3 == (1 : Int) || (x3 == (2 : Int) || (!x3 == (3 : Int) || leI (0 : Int) x4)),
    x3 == (1 : Int) || (x3 == (2 : Int) || (!x3 == (3 : Int) || ltI x4 (↑(List.length x11) : Int))),
    x3 == (1 : Int) || (x3 == (2 : Int) || (!x3 == (3 : Int) || ltN (Int.toNat x4) (List.length x11))),
    x3 == (1 : Int) || (x3 == (2 : Int) || (x3 == (3 : Int) || (!x3 == (4 : Int) || leI (0 : Int) (0 : Int)))),
    x3 == (1 : Int) || (x3 == (2 : Int) || (x3 == (3 : Int) || (!x3 == (4 : Int) || ltI (0 : Int) (↑(List.length x8) : Int)))),
    x3 == (1 : Int) || (x3 == (2 : Int) || (x3 == (3 : Int) || (!x3 == (4 : Int) || ltN (Int.toNat (0 : Int)) (List.length x8)))),
    x3 == (1 : Int) || (x3 == (2 : Int) || (x3 == (3 : Int) || (x3 == (4 : Int) || (!x3 == (5 : Int) || leI (0 : Int) (0 : Int))))),
    x3 == (1 : Int) || (x3 == (2 : Int) || (x3 == (3 : Int) || (x3 == (4 : Int) || (!x3 == (5 : Int) || ltI (0 : Int) (↑(List.length x8) : Int))))),
    x3 == (1 : Int) ||
      (x3 == (2 : Int) || (x3 == (3 : Int) || (x3 == (4 : Int) || (!x3 == (5 : Int) || ltN (Int.toNat (0 : Int)) (List.length x8))))),
    x3 == (1 : Int) || (x3 == (2 : Int) || (x3 == (3 : Int) || (x3 == (4 : Int) || (!x3 == (5 : Int) || leI (0 : Int) (1 : Int))))),
    x3 == (1 : Int) || (x3 == (2 : Int) || (x3 == (3 : Int) || (x3 == (4 : Int) || (!x3 == (5 : Int) || ltI (1 : Int) (↑(List.length x8) : Int))))),
    x3 == (1 : Int) ||
      (x3 == (2 : Int) || (x3 == (3 : Int) || (x3 == (4 : Int) || (!x3 == (5 : Int) || ltN (Int.toNat (1 : Int)) (List.length x8))))),
    x3 == (1 : Int) ||
      (x3 == (2 : Int) || (x3 == (3 : Int) || (x3 == (4 : Int) || (x3 == (5 : Int) || (!x3 == (6 : Int) || leI (0 : Int) (0 : Int)))))),
    x3 == (1 : Int) ||
      (x3 == (2 : Int) ||
        (x3 == (3 : Int) || (x3 == (4 : Int) || (x3 == (5 : Int) || (!x3 == (6 : Int) || ltI (0 : Int) (↑(List.length x8) : Int)))))),
    x3 == (1 : Int) ||
      (x3 == (2 : Int) ||
        (x3 == (3 : Int) || (x3 == (4 : Int) || (x3 == (5 : Int) || (!x3 == (6 : Int) || ltN (Int.toNat (0 : Int)) (List.length x8)))))),
    x3 == (1 : Int) ||
      (x3 == (2 : Int) || (x3 == (3 : Int) || (x3 == (4 : Int) || (x3 == (5 : Int) || (!x3 == (6 : Int) || leI (0 : Int) (1 : Int)))))),
    x3 == (1 : Int) ||
      (x3 == (2 : Int) ||
        (x3 == (3 : Int) || (x3 == (4 : Int) || (x3 == (5 : Int) || (!x3 == (6 : Int) || ltI (1 : Int) (↑(List.length x8) : Int)))))),
    x3 == (1 : Int) ||
      (x3 == (2 : Int) ||
        (x3 == (3 : Int) || (x3 == (4 : Int) || (x3 == (5 : Int) || (!x3 == (6 : Int) || ltN (Int.toNat (1 : Int)) (List.length x8)))))),
    k1a x3 x4,
    x3 == (1 : Int) ||
      (x3 == (2 : Int) || (x3 == (3 : Int) || (x3 == (4 : Int) || (x3 == (5 : Int) || (x3 == (6 : Int) || ltI x4 (↑(List.length x6) : Int)))))),
    x3 == (1 : Int) ||
      (x3 == (2 : Int) || (x3 == (3 : Int) || (x3 == (4 : Int) || (x3 == (5 : Int) || (x3 == (6 : Int) || ltN (Int.toNat x4) (List.length x6)))))),
    k1a x3 x4, k1g x3 x4 x13,
    k1h x3 x4 x13,
    x3 == (1 : Int) || (x3 == (2 : Int) || (x3 == (3 : Int) || (x3 == (4 : Int) || (x3 == (5 : Int) || (x3 == (6 : Int) || kmc x8))))),
    k1a x3 x4, k1g x3 x4 x13,
    k1h x3 x4 x13]

def kc9 : List SV → List Entry → Option Out
  | [.one ⟨false, [.ptr 0 0]⟩, .one ⟨true, [.val (.int .i64 _x0), .val (.int .i64 _x1), .val (.int .i64 _x2), .ref 1, .ref 2]⟩, .one ⟨true, [.val (.int .i64 x3), .val (.int .i64 x4)]⟩, .one ⟨false, [.ref 3]⟩, .one ⟨false, [.ref 4]⟩], [.box 77 [.val (.int .i64 x5), .ref 5, .ref 6, .ref 7, .ref 8], .row false 178 (.pair (.int .i64) (.pair .str (.int .i64))) x6, .row false 150 (.pair (.int .i64) (.int .i64)) x7, .row true 2 (.int .i64) x8, .row false 2 (.int .i64) x9, .row true 2 (.int .i64) x10, .row true 2 (.int .i64) x11, .row true 2 (.int .i64) x12, .row true 172 (.pair (.int .i64) (.pair (.int .i64) (.int .i64))) x13] => some ⟨(.one ⟨false, [(.val (.int IntKind.i64 (k1d x3 x4 x6 x8 x9 x11 x13)))]⟩), [(.box 77 [(.val (.int IntKind.i64 (k81 x3 x5))), (.ref 5), (.ref 6), (.ref 7), (.ref 8)]), (.row false 178 (CTy.pair (CTy.int IntKind.i64) (CTy.pair CTy.str (CTy.int IntKind.i64))) x6), (.row false 150 (CTy.pair (CTy.int IntKind.i64) (CTy.int IntKind.i64)) x7), (.row true 2 (CTy.int IntKind.i64) (k7z x3 x8)), (.row false 2 (CTy.int IntKind.i64) x9), (.row true 2 (CTy.int IntKind.i64) (k83 x3 x10)), (.row true 2 (CTy.int IntKind.i64) (k82 x3 x11)), (.row true 2 (CTy.int IntKind.i64) (k84 x3 x12)), (.row true 172 (CTy.pair (CTy.int IntKind.i64) (CTy.pair (CTy.int IntKind.i64) (CTy.int IntKind.i64))) (k2t x3 x4 x6 x8 x13))], [], [(kg x3 x4 x6 x8 x9 x11 x13)]⟩
  | _, _ => none

def kjo : PF Tryz.prog := PF.ofG Tryz.prog [k10y, PF.lend k10y, PF.fz k10y] [] hmix 198 Tryz.f198 Tryz.func198 (fun c _ => LOk.nil c) kc9 (by
  intro vs es r h; unfold kc9 at h; split at h
  · cases h; kernel_rfl
  · cases h)

def k7c (x3 : List Int) : Int :=
  Option.getD x3[Int.toNat (0 : Int)]? (0 : Int)

def k7n (x0 : Int) (x1 : Int) (x3 : List Int) (x6 : List Int) : List Int :=
  bif x0 == (8 : Int) then List.set x6 (Int.toNat x1) (k7c x3) else x6

def k4k (x0 : Int) (x1 : Int) (x3 : List Int) (x4 : List Int) (x6 : List Int) (x7 : List Int) : List Int :=
  bif x0 == (8 : Int) then x7
  else
  bif x0 == (9 : Int) then List.set x7 (Int.toNat x1) (k7c x3)
  else
    bif x0 == (10 : Int) then bif Option.getD x4[Int.toNat x1]? (0 : Int) == (0 : Int) then zeros (List.length x7) else x7
    else bif x0 == (11 : Int) then bif Option.getD x6[Int.toNat x1]? (0 : Int) == (0 : Int) then zeros (List.length x7) else x7 else x7

def k1b (x0 : Int) (x1 : Int) (x3 : List Int) (x4 : List Int) (x6 : List Int) (x7 : List Int) : Bool :=
  allT
  [!x0 == (8 : Int) || leI (0 : Int) (0 : Int), !x0 == (8 : Int) || ltI (0 : Int) (↑(List.length x3) : Int),
    !x0 == (8 : Int) || ltN (Int.toNat (0 : Int)) (List.length x3), !x0 == (8 : Int) || leI (0 : Int) x1,
    !x0 == (8 : Int) || ltI x1 (↑(List.length x6) : Int), !x0 == (8 : Int) || ltN (Int.toNat x1) (List.length x6),
    x0 == (8 : Int) || (!x0 == (9 : Int) || leI (0 : Int) (0 : Int)),
    x0 == (8 : Int) || (!x0 == (9 : Int) || ltI (0 : Int) (↑(List.length x3) : Int)),
    x0 == (8 : Int) || (!x0 == (9 : Int) || ltN (Int.toNat (0 : Int)) (List.length x3)), x0 == (8 : Int) || (!x0 == (9 : Int) || leI (0 : Int) x1),
    x0 == (8 : Int) || (!x0 == (9 : Int) || ltI x1 (↑(List.length x7) : Int)),
    x0 == (8 : Int) || (!x0 == (9 : Int) || ltN (Int.toNat x1) (List.length x7)),
    x0 == (8 : Int) || (x0 == (9 : Int) || (!x0 == (10 : Int) || leI (0 : Int) x1)),
    x0 == (8 : Int) || (x0 == (9 : Int) || (!x0 == (10 : Int) || ltI x1 (↑(List.length x4) : Int))),
    x0 == (8 : Int) || (x0 == (9 : Int) || (!x0 == (10 : Int) || ltN (Int.toNat x1) (List.length x4))),
    x0 == (8 : Int) || (x0 == (9 : Int) || (x0 == (10 : Int) || (!x0 == (11 : Int) || leI (0 : Int) x1))),
    x0 == (8 : Int) || (x0 == (9 : Int) || (x0 == (10 : Int) || (!x0 == (11 : Int) || ltI x1 (↑(List.length x6) : Int)))),
    x0 == (8 : Int) || (x0 == (9 : Int) || (x0 == (10 : Int) || (!x0 == (11 : Int) || ltN (Int.toNat x1) (List.length x6))))]

def kbt : List SV → List Entry → Option Out
  | [.one ⟨false, [.ptr 0 0]⟩, .one ⟨true, [.val (.int .i64 x0), .val (.int .i64 x1)]⟩, .one ⟨false, [.ref 1]⟩, .one ⟨false, [.ref 2]⟩], [.box 77 [.val (.int .i64 x2), .ref 3, .ref 4, .ref 5, .ref 6], .row true 2 (.int .i64) x3, .row false 2 (.int .i64) x4, .row true 2 (.int .i64) x5, .row true 2 (.int .i64) x6, .row true 2 (.int .i64) x7, .row true 172 (.pair (.int .i64) (.pair (.int .i64) (.int .i64))) x8] => some ⟨(.tup []), [(.box 77 [(.val (.int IntKind.i64 x2)), (.ref 3), (.ref 4), (.ref 5), (.ref 6)]), (.row true 2 (CTy.int IntKind.i64) x3), (.row false 2 (CTy.int IntKind.i64) x4), (.row true 2 (CTy.int IntKind.i64) x5), (.row true 2 (CTy.int IntKind.i64) (k7n x0 x1 x3 x6)), (.row true 2 (CTy.int IntKind.i64) (k4k x0 x1 x3 x4 x6 x7)), (.row true 172 (CTy.pair (CTy.int IntKind.i64) (CTy.pair (CTy.int IntKind.i64) (CTy.int IntKind.i64))) x8)], [], [(k1b x0 x1 x3 x4 x6 x7)]⟩
  | _, _ => none

def kjb : PF Tryz.prog := PF.ofG Tryz.prog [] [] hmix 199 Tryz.f199 Tryz.func199 (fun c _ => LOk.nil c) kbt (by
  intro vs es r h; unfold kbt at h; split at h
  · cases h; kernel_rfl
  · cases h)

def kb0 (x0 : List (Int × Int)) : Int :=
  (↑(List.length x0) : Int)

def kjc : List SV → List Entry → Option Out
  | [.one ⟨false, [.ref 0]⟩], [.row false 150 (.pair (.int .i64) (.int .i64)) x0] => some ⟨(.one ⟨false, [(.val (.int IntKind.i64 (kb0 x0)))]⟩), [(.row false 150 (CTy.pair (CTy.int IntKind.i64) (CTy.int IntKind.i64)) x0)], [], []⟩
  | _, _ => none

def kaz : PF Tryz.prog := PF.ofG Tryz.prog [] [] hmix 124 Tryz.f124 Tryz.func124 (fun c _ => LOk.nil c) kjc (by
  intro vs es r h; unfold kjc at h; split at h
  · cases h; kernel_rfl
  · cases h)

def ko8 (x0 : List Int) : Int :=
  (↑(List.length x0) : Int)

def ksg : List SV → List Entry → Option Out
  | [.one ⟨false, [.ref 0]⟩], [.row false 2 (.int .i64) x0] => some ⟨(.one ⟨false, [(.val (.int IntKind.i64 (ko8 x0)))]⟩), [(.row false 2 (CTy.int IntKind.i64) x0)], [], []⟩
  | _, _ => none

def kse : PF Tryz.prog := PF.ofG Tryz.prog [] [] hmix 197 Tryz.f197 Tryz.func197 (fun c _ => LOk.nil c) ksg (by
  intro vs es r h; unfold ksg at h; split at h
  · cases h; kernel_rfl
  · cases h)

end Go.SX

namespace Go.SX
open Go.Proofs
set_option maxRecDepth 100000

def atZ (l : List Int) (k : Int) : Int := Option.getD l[Int.toNat k]? (0 : Int)
def andI (a b : Int) : Int := bif a == 1 then b else 0
def orI (a b : Int) : Int := bif a == 1 then 1 else b
def argI (bs : List TM) (x : IN) (stk : List Int) : List Int := stk.drop (stk.length - (tkI bs x).toNat)
def rstI (bs : List TM) (x : IN) (stk : List Int) : List Int := stk.take (stk.length - (tkI bs x).toNat)
def valM (bs : List TM) (inp : List Int) (x : IN) (xs : List Int) (ss : List BS3) (ar : List Int) : Int :=
  bif x.1 == 1 then x.2 else bif x.1 == 2 then atZ inp x.2 else bif x.1 == 3 then atZ xs x.2 else bif x.1 == 4 then 1 - atZ ar 0
  else bif x.1 == 5 then andI (atZ ar 0) (atZ ar 1) else bif x.1 == 6 then orI (atZ ar 0) (atZ ar 1)
  else bif x.1 == 7 then valB (termAt bs x.2.toNat).1 (termAt bs x.2.toNat).2.2 ar (stAt ss x.2.toNat) else 0
def mskM (os : List Int) (z : Int) : List Int := bif z == 0 then List.replicate os.length 0 else os
def stkM (bs : List TM) (inp : List Int) (x : IN) (stk xs : List Int) (ss : List BS3) : List Int := bif gvI x == 1 then rstI bs x stk ++ [valM bs inp x xs ss (argI bs x stk)] else rstI bs x stk
def vlsM (bs : List TM) (x : IN) (stk xs : List Int) : List Int := bif x.1 == 8 then xs.set x.2.toNat (atZ (argI bs x stk) 0) else xs
def outM (bs : List TM) (inp : List Int) (x : IN) (stk xs os : List Int) : List Int := bif x.1 == 9 then os.set x.2.toNat (atZ (argI bs x stk) 0) else bif x.1 == 10 then mskM os (atZ inp x.2) else bif x.1 == 11 then mskM os (atZ xs x.2) else os
def blkM (bs : List TM) (x : IN) (stk : List Int) (ss : List BS3) : List BS3 := bif x.1 == 7 then ss.set x.2.toNat (nextB (termAt bs x.2.toNat).1 (termAt bs x.2.toNat).2.2 (argI bs x stk) (stAt ss x.2.toNat)) else ss

theorem k12a {i v o : Int} {bs : List TM} {x : IN} (hi : 0 ≤ i ∧ i ≤ 20) (hv : 0 ≤ v ∧ v ≤ 20) (ho : 0 ≤ o ∧ o ≤ 20) (hl : bs.length ≤ 2000) (h : fitI i v o bs x = true) :
    (x.1 = 1 ∧ (x.2 = 0 ∨ x.2 = 1)) ∨ (x.1 = 2 ∧ 0 ≤ x.2 ∧ x.2 < i) ∨ (x.1 = 3 ∧ 0 ≤ x.2 ∧ x.2 < v) ∨ x.1 = 4 ∨ x.1 = 5 ∨ x.1 = 6 ∨ (x.1 = 7 ∧ 0 ≤ x.2 ∧ x.2 < bs.length) ∨
    (x.1 = 8 ∧ 0 ≤ x.2 ∧ x.2 < v) ∨ (x.1 = 9 ∧ 0 ≤ x.2 ∧ x.2 < o) ∨ (x.1 = 10 ∧ 0 ≤ x.2 ∧ x.2 < i) ∨ (x.1 = 11 ∧ 0 ≤ x.2 ∧ x.2 < v) := by
  have w1 : IntKind.i64.wrap (i - 1) = i - 1 := wrap_i64 (by omega) (by omega)
  have w2 : IntKind.i64.wrap (v - 1) = v - 1 := wrap_i64 (by omega) (by omega)
  have w3 : IntKind.i64.wrap (o - 1) = o - 1 := wrap_i64 (by omega) (by omega)
  have w4 : IntKind.i64.wrap ((bs.length : Int) - 1) = bs.length - 1 := wrap_i64 (by omega) (by omega)
  simp only [fitI, kek, k1o, w1, w2, w3, w4] at h
  by_cases h1 : x.1 = 1
  · simp [h1, Bool.cond_eq_ite] at h; omega
  by_cases h2 : x.1 = 2
  · simp [h2, Bool.cond_eq_ite] at h; omega
  by_cases h3 : x.1 = 3
  · simp [h3, Bool.cond_eq_ite] at h; omega
  by_cases h4 : x.1 = 4
  · omega
  by_cases h5 : x.1 = 5
  · omega
  by_cases h6 : x.1 = 6
  · omega
  by_cases h7 : x.1 = 7
  · simp [h7, Bool.cond_eq_ite] at h; omega
  by_cases h8 : x.1 = 8
  · simp [h8, Bool.cond_eq_ite] at h; omega
  by_cases h9 : x.1 = 9
  · simp [h9, Bool.cond_eq_ite] at h; omega
  by_cases h10 : x.1 = 10
  · simp [h10, Bool.cond_eq_ite] at h; omega
  by_cases h11 : x.1 = 11
  · simp [h11, Bool.cond_eq_ite] at h; omega
  simp [h1, h2, h3, h4, h5, h6, h7, h8, h9, h10, h11] at h

theorem kzi {i v o : Int} {bs : List TM} : ∀ (l1 l2 : List IN) (n : Int) (acc : List Int), hgt i v o bs (l1 ++ l2) n acc = match hgt i v o bs l1 n acc with | some (m, a) => hgt i v o bs l2 m a | none => none
  | [], l2, n, acc => rfl
  | x :: r, l2, n, acc => by
    simp only [List.cons_append, hgt]
    cases (fitI i v o bs x && (leI (tkI bs x) n && leI (n - tkI bs x + gvI x) 40)) with
    | false => rfl
    | true => simp only [cond_true]; exact kzi r l2 _ _

/-- The instruction at a place fits its height. -/
theorem hgt_at {i v o : Int} {bs : List TM} {st : List IN} (hok : hgtOk i v o bs st = true) {k : Nat} (hk : k < st.length) {n : Int} {L : List Int} (h : hgt i v o bs (st.take k) 0 [] = some (n, L)) :
    fitI i v o bs st[k] = true ∧ tkI bs st[k] ≤ n ∧ n - tkI bs st[k] + gvI st[k] ≤ 40 ∧ hgt i v o bs (st.take (k + 1)) 0 [] = some (n - tkI bs st[k] + gvI st[k], L ++ [n - tkI bs st[k] + gvI st[k]]) := by
  have hs : st = st.take k ++ st[k] :: st.drop (k + 1) := by rw [List.getElem_cons_drop, List.take_append_drop]
  have h1 := kzi (i := i) (v := v) (o := o) (bs := bs) (st.take k) (st[k] :: st.drop (k + 1)) 0 []
  rw [← hs, h] at h1
  simp only [hgt] at h1
  cases hc : (fitI i v o bs st[k] && (leI (tkI bs st[k]) n && leI (n - tkI bs st[k] + gvI st[k]) 40)) with
  | false =>
    rw [hc] at h1
    simp only [hgtOk, h1, cond_false] at hok
    cases hok
  | true =>
    have h2 := kzi (i := i) (v := v) (o := o) (bs := bs) (st.take k) [st[k]] 0 []
    rw [h] at h2
    simp only [hgt, hc, cond_true] at h2
    simp only [Bool.and_eq_true, leI_iff] at hc
    refine ⟨hc.1, hc.2.1, hc.2.2, ?_⟩
    rw [← h2, List.take_succ_eq_append_getElem hk]

/-- Heights stay in bounds. -/
theorem k14q {i v o : Int} {bs : List TM} : ∀ (l : List IN) (n : Int) (acc : List Int) (m : Int) (L : List Int), 0 ≤ n ∧ n ≤ 40 → hgt i v o bs l n acc = some (m, L) → 0 ≤ m ∧ m ≤ 40
  | [], n, acc, m, L, hn, h => by simp only [hgt, Option.some.injEq, Prod.mk.injEq] at h; omega
  | x :: r, n, acc, m, L, hn, h => by
    simp only [hgt] at h
    have hg := gvI_in x
    cases hc : (fitI i v o bs x && (leI (tkI bs x) n && leI (n - tkI bs x + gvI x) 40)) with
    | false => rw [hc] at h; cases h
    | true =>
      rw [hc, cond_true] at h
      simp only [Bool.and_eq_true, leI_iff] at hc
      exact k14q r _ _ m L (by omega) h

/-- Heights that are there stay. -/
theorem k16d {i v o : Int} {bs : List TM} : ∀ (l : List IN) (n : Int) (acc : List Int) (m : Int) (L : List Int), hgt i v o bs l n acc = some (m, L) → ∃ r, L = acc ++ r
  | [], n, acc, m, L, h => by simp only [hgt, Option.some.injEq, Prod.mk.injEq] at h; exact ⟨[], by rw [List.append_nil]; exact h.2.symm⟩
  | x :: r, n, acc, m, L, h => by
    simp only [hgt] at h
    cases hc : (fitI i v o bs x && (leI (tkI bs x) n && leI (n - tkI bs x + gvI x) 40)) with
    | false => rw [hc] at h; cases h
    | true =>
      rw [hc, cond_true] at h
      obtain ⟨q, hq⟩ := k16d r _ _ m L h
      exact ⟨(n - tkI bs x + gvI x) :: q, by rw [hq, List.append_assoc]; rfl⟩

/-- The height at a place, as the list of heights has it. -/
theorem k169 {i v o : Int} {bs : List TM} {st : List IN} (hok : hgtOk i v o bs st = true) : ∀ (k : Nat), k ≤ st.length →
    ∃ n L, hgt i v o bs (st.take k) 0 [] = some (n, L) ∧ (0 ≤ n ∧ n ≤ 40) ∧ (k = 0 → n = 0) ∧ (0 < k → atZ (hgtL i v o bs st) ((k : Int) - 1) = n)
  | 0, _ => ⟨0, [], by simp [hgt], by omega, fun _ => rfl, fun h => by omega⟩
  | k + 1, hk => by
    obtain ⟨n, L, h1, h2, _, _⟩ := k169 hok k (by omega)
    obtain ⟨g1, g2, g3, g4⟩ := hgt_at hok (k := k) (by omega) h1
    refine ⟨_, _, g4, k14q _ _ _ _ _ (by omega) g4, fun h => by omega, fun _ => ?_⟩
    have hs : st = st.take (k + 1) ++ st.drop (k + 1) := (List.take_append_drop ..).symm
    have hw := kzi (i := i) (v := v) (o := o) (bs := bs) (st.take (k + 1)) (st.drop (k + 1)) 0 []
    rw [← hs, g4] at hw
    simp only at hw
    unfold hgtL
    cases hh : hgt i v o bs st 0 [] with
    | none =>
      simp only [hgtOk, hh] at hok
      cases hok
    | some r =>
      obtain ⟨m, out⟩ := r
      rw [hh] at hw
      obtain ⟨q, hq⟩ := k16d _ _ _ _ _ hw.symm
      have hl := k16a _ _ _ _ _ h1
      rw [List.length_take, List.length_nil] at hl
      simp only [atZ]
      have hi : (((k + 1 : Nat) : Int) - 1).toNat = L.length := by omega
      rw [hi, hq, List.append_assoc, List.getElem?_append_right (Nat.le_refl _), Nat.sub_self]
      rfl

/-- A possible machine. -/
structure OkM (i v o : Int) (bs : List TM) (st : List IN) (k : Int) (stk xs os : List Int) (ss : List BS3) : Prop where
  lo : 0 ≤ k
  hi : k ≤ st.length
  hg : ∃ L, hgt i v o bs (st.take k.toNat) 0 [] = some ((stk.length : Int), L)
  bt : ∀ z ∈ stk, z = 0 ∨ z = 1
  vl : bitsB v xs = true
  ou : bitsB o os = true
  sl : ss.length = bs.length
  sp : ∀ k, k < bs.length → possAt bs ss k = true

theorem k11d {l : List Int} (h : ∀ z ∈ l, z = 0 ∨ z = 1) (k : Int) : atZ l k = 0 ∨ atZ l k = 1 := by
  unfold atZ
  cases hk : l[k.toNat]? with
  | none => exact .inl rfl
  | some z => exact h z (List.mem_of_getElem? hk)

theorem k15d {n : Int} {l : List Int} (h : bitsB n l = true) (k : Nat) {z : Int} (hz : z = 0 ∨ z = 1) : bitsB n (l.set k z) = true := by
  obtain ⟨h1, h2⟩ := k9w.1 h
  refine k9w.2 ⟨fun y hy => ?_, by rw [List.length_set]; exact h2⟩
  rcases List.mem_or_eq_of_mem_set hy with hy | rfl
  · exact h1 y hy
  · exact hz

theorem k15b {n : Int} {l : List Int} (h : bitsB n l = true) (z : Int) : bitsB n (mskM l z) = true := by
  unfold mskM
  cases z == 0 with
  | false => exact h
  | true =>
    refine k9w.2 ⟨fun y hy => .inl (List.eq_of_mem_replicate hy), ?_⟩
    simp only [cond_true, List.length_replicate]
    exact (k9w.1 h).2

/-- What a block gives is a bit. -/
theorem k16w {k n a b c : Int} {s : ByteArray} {l : List Int} (hB : blockB k s n = true) (hP : possB k n a b c = true) (hA : bitsB (takesK k) l = true) : k40 k n a b c l = 0 ∨ k40 k n a b c l = 1 := by
  obtain ⟨hk, hn, _⟩ := kzl hB
  have hb := (k12s hP hn).2.1
  have hc := (k12s hP hn).2.2
  have hp := hP
  rcases kinds hk with rfl | rfl | rfl | rfl | rfl | rfl
  · obtain ⟨x, rfl, hx⟩ := k10d hA
    rcases hx with rfl | rfl <;> simp only [k23, k5j, k6x, k42, k72, k6z, k6v, k6w, k65, k40, k5n, k5u, k5w, k7q, k4p, k5k, k64, k74, k75, k8o, k8l, k8m, k8n, k5x] <;> simp [Bool.cond_eq_ite] <;> (repeat' split) <;> omega
  · obtain ⟨x, rfl, hx⟩ := k10d hA
    rcases hx with rfl | rfl <;> simp only [k23, k5j, k6x, k42, k72, k6z, k6v, k6w, k65, k40, k5n, k5u, k5w, k7q, k4p, k5k, k64, k74, k75, k8o, k8l, k8m, k8n, k5x] <;> simp [Bool.cond_eq_ite] <;> (repeat' split) <;> omega
  · obtain ⟨x, rfl, hx⟩ := k10d hA
    simp [possB, k2i, k1o] at hp
    rcases hx with rfl | rfl <;> simp only [k23, k5j, k6x, k42, k72, k6z, k6v, k6w, k65, k40, k5n, k5u, k5w, k7q, k4p, k5k, k64, k74, k75, k8o, k8l, k8m, k8n, k5x] <;> simp [Bool.cond_eq_ite] <;> (repeat' split) <;> omega
  · obtain ⟨x, y, rfl, hx, hy⟩ := k10o hA
    simp [possB, k2i, k1o] at hp
    rcases hx with rfl | rfl <;> rcases hy with rfl | rfl <;> simp only [k23, k5j, k6x, k42, k72, k6z, k6v, k6w, k65, k40, k5n, k5u, k5w, k7q, k4p, k5k, k64, k74, k75, k8o, k8l, k8m, k8n, k5x] <;> simp [Bool.cond_eq_ite] <;> (repeat' split) <;> omega
  · obtain ⟨x, y, rfl, hx, hy⟩ := k10o hA
    rcases hb with rfl | rfl <;> rcases hc with rfl | rfl <;> rcases hx with rfl | rfl <;> rcases hy with rfl | rfl <;> simp only [k23, k5j, k6x, k42, k72, k6z, k6v, k6w, k65, k40, k5n, k5u, k5w, k7q, k4p, k5k, k64, k74, k75, k8o, k8l, k8m, k8n, k5x] <;> simp [Bool.cond_eq_ite] <;> (repeat' split) <;> omega
  · obtain ⟨x, y, rfl, hx, hy⟩ := k10o hA
    rcases hb with rfl | rfl <;> rcases hc with rfl | rfl <;> rcases hx with rfl | rfl <;> rcases hy with rfl | rfl <;> simp only [k23, k5j, k6x, k42, k72, k6z, k6v, k6w, k65, k40, k5n, k5u, k5w, k7q, k4p, k5k, k64, k74, k75, k8o, k8l, k8m, k8n, k5x] <;> simp [Bool.cond_eq_ite] <;> (repeat' split) <;> omega

theorem k16m {bs : List TM} {x : IN} {stk : List Int} (hb : ∀ z ∈ stk, z = 0 ∨ z = 1) (ht : tkI bs x ≤ stk.length) : bitsB (tkI bs x) (argI bs x stk) = true := by
  have h0 := (tkI_in bs x).1
  refine k9w.2 ⟨fun z hz => hb z (List.mem_of_mem_drop hz), ?_⟩
  simp only [argI, List.length_drop]
  omega

theorem k13h {bs : List TM} {x : IN} {stk : List Int} (ht : tkI bs x ≤ stk.length) : ((rstI bs x stk).length : Int) = stk.length - tkI bs x := by
  have h0 := (tkI_in bs x).1
  simp only [rstI, List.length_take]
  omega

/-- A step of a possible machine. -/
theorem k15c {i v o : Int} {bs : List TM} {st : List IN} {inp : List Int} {k : Int} {stk xs os : List Int} {ss : List BS3} (hC : codeB i v o bs st = true) (hin : bitsB i inp = true)
    (h : OkM i v o bs st k stk xs os ss) (hlt : k < st.length) {x : IN} (hx : st[k.toNat]? = some x) :
    fitI i v o bs x = true ∧ tkI bs x ≤ stk.length ∧ bitsB (tkI bs x) (argI bs x stk) = true ∧ (valM bs inp x xs ss (argI bs x stk) = 0 ∨ valM bs inp x xs ss (argI bs x stk) = 1) ∧ stk.length ≤ 40 ∧
    OkM i v o bs st (k + 1) (stkM bs inp x stk xs ss) (vlsM bs x stk xs) (outM bs inp x stk xs os) (blkM bs x stk ss) := by
  simp only [codeB, Bool.and_eq_true] at hC
  obtain ⟨hr, hB, hok⟩ := hC
  obtain ⟨ri, rv, ro, rb, rs⟩ := kw7.1 hr
  have h0 := h.lo
  have hk : k.toNat < st.length := by omega
  have hxe : st[k.toNat] = x := by rw [List.getElem?_eq_getElem hk] at hx; exact Option.some.inj hx
  obtain ⟨L, hL⟩ := h.hg
  obtain ⟨g1, g2, g3, g4⟩ := hgt_at hok hk hL
  rw [hxe] at g1 g2 g3 g4
  have hab := k16m h.bt g2
  have hrl := k13h g2
  have t2 := tkI_in bs x
  have v2 := gvI_in x
  have hvb := (k9w.1 h.vl).1
  have hob := (k9w.1 h.ou).1
  have hib := (k9w.1 hin).1
  have hargb := (k9w.1 hab).1
  have ha0 := k11d hargb 0
  have ha1 := k11d hargb 1
  have hblk : x.1 = 7 → 0 ≤ x.2 ∧ x.2 < bs.length → k40 (termAt bs x.2.toNat).1 (termAt bs x.2.toNat).2.2 (stAt ss x.2.toNat).1 (stAt ss x.2.toNat).2.1 (stAt ss x.2.toNat).2.2 (argI bs x stk) = 0 ∨ k40 (termAt bs x.2.toNat).1 (termAt bs x.2.toNat).2.2 (stAt ss x.2.toNat).1 (stAt ss x.2.toNat).2.1 (stAt ss x.2.toNat).2.2 (argI bs x stk) = 1 := fun h7 hr7 => by
    have hlt7 : x.2.toNat < bs.length := by omega
    have hg7 : termAt bs x.2.toNat = bs[x.2.toNat] := by simp only [termAt, List.getElem?_eq_getElem hlt7]; rfl
    have hB7 : blockB (termAt bs x.2.toNat).1 (termAt bs x.2.toNat).2.1 (termAt bs x.2.toNat).2.2 = true := by rw [hg7]; exact List.all_eq_true.1 hB _ (List.getElem_mem hlt7)
    have htk : tkI bs x = takesK (termAt bs x.2.toNat).1 := by simp [tkI, k3g, k7x, k7t, kbv, h7, takesK, termAt]
    exact k16w hB7 (h.sp _ hlt7) (by rw [← htk]; exact hab)
  have hnx : x.1 = 7 → 0 ≤ x.2 ∧ x.2 < bs.length → possB (termAt bs x.2.toNat).1 (termAt bs x.2.toNat).2.2 (nextB (termAt bs x.2.toNat).1 (termAt bs x.2.toNat).2.2 (argI bs x stk) (stAt ss x.2.toNat)).1 (nextB (termAt bs x.2.toNat).1 (termAt bs x.2.toNat).2.2 (argI bs x stk) (stAt ss x.2.toNat)).2.1 (nextB (termAt bs x.2.toNat).1 (termAt bs x.2.toNat).2.2 (argI bs x stk) (stAt ss x.2.toNat)).2.2 = true := fun h7 hr7 => by
    have hlt7 : x.2.toNat < bs.length := by omega
    have hg7 : termAt bs x.2.toNat = bs[x.2.toNat] := by simp only [termAt, List.getElem?_eq_getElem hlt7]; rfl
    have hB7 : blockB (termAt bs x.2.toNat).1 (termAt bs x.2.toNat).2.1 (termAt bs x.2.toNat).2.2 = true := by rw [hg7]; exact List.all_eq_true.1 hB _ (List.getElem_mem hlt7)
    have htk : tkI bs x = takesK (termAt bs x.2.toNat).1 := by simp [tkI, k3g, k7x, k7t, kbv, h7, takesK, termAt]
    exact (k16p hB7 (h.sp _ hlt7) (by rw [← htk]; exact hab)).2
  have hval : valM bs inp x xs ss (argI bs x stk) = 0 ∨ valM bs inp x xs ss (argI bs x stk) = 1 := by
    rcases k12a ri rv ro rb g1 with ⟨e, q⟩ | ⟨e, q⟩ | ⟨e, q⟩ | e | e | e | ⟨e, q⟩ | ⟨e, q⟩ | ⟨e, q⟩ | ⟨e, q⟩ | ⟨e, q⟩
    · simp only [valM, e]; exact q
    · simp only [valM, e]; exact k11d hib _
    · simp only [valM, e]; exact k11d hvb _
    · simp only [valM, e]
      show 1 - atZ (argI bs x stk) 0 = 0 ∨ 1 - atZ (argI bs x stk) 0 = 1
      omega
    · simp only [valM, e]
      show andI (atZ (argI bs x stk) 0) (atZ (argI bs x stk) 1) = 0 ∨ andI (atZ (argI bs x stk) 0) (atZ (argI bs x stk) 1) = 1
      rcases ha0 with q | q <;> rw [q]
      · exact .inl rfl
      · exact ha1
    · simp only [valM, e]
      show orI (atZ (argI bs x stk) 0) (atZ (argI bs x stk) 1) = 0 ∨ orI (atZ (argI bs x stk) 0) (atZ (argI bs x stk) 1) = 1
      rcases ha0 with q | q <;> rw [q]
      · exact ha1
      · exact .inr rfl
    · have := hblk e q
      simp only [valM, e]
      exact this
    all_goals (simp only [valM, e]; exact .inl rfl)
  refine ⟨g1, g2, hab, hval, ?_, ⟨by omega, by omega, ?_, ?_, ?_, ?_, ?_, ?_⟩⟩
  · have := k14q _ _ _ _ _ (by omega) hL
    omega
  · refine ⟨L ++ [stk.length - tkI bs x + gvI x], ?_⟩
    have hs : (k + 1).toNat = k.toNat + 1 := by omega
    rw [hs, g4]
    have : ((stkM bs inp x stk xs ss).length : Int) = stk.length - tkI bs x + gvI x := by
      unfold stkM
      by_cases hgv : gvI x = 1
      · simp only [hgv, beq_self_eq_true, cond_true, List.length_append, List.length_singleton]; omega
      · have h1 : (gvI x == 1) = false := by simpa using hgv
        rw [h1, cond_false]; omega
    rw [this]
  · intro z hz
    unfold stkM at hz
    have hr : ∀ z ∈ rstI bs x stk, z = 0 ∨ z = 1 := fun z hz => h.bt z (List.mem_of_mem_take hz)
    cases hgv : (gvI x == 1) with
    | false => rw [hgv] at hz; exact hr z hz
    | true =>
      rw [hgv, cond_true] at hz
      rcases List.mem_append.1 hz with hz | hz
      · exact hr z hz
      · rw [List.mem_singleton.1 hz]; exact hval
  · unfold vlsM
    cases x.1 == 8 with
    | false => exact h.vl
    | true => exact k15d h.vl _ ha0
  · unfold outM
    cases x.1 == 9 with
    | true => exact k15d h.ou _ ha0
    | false =>
      cases x.1 == 10 with
      | true => exact k15b h.ou _
      | false =>
        cases x.1 == 11 with
        | true => exact k15b h.ou _
        | false => exact h.ou
  · unfold blkM
    cases x.1 == 7 with
    | false => exact h.sl
    | true => simp only [cond_true, List.length_set]; exact h.sl
  · intro k2 hk2
    unfold blkM
    cases h7 : x.1 == 7 with
    | false => exact h.sp k2 hk2
    | true =>
      simp only [cond_true]
      have h7 : x.1 = 7 := by simpa using h7
      have hq : 0 ≤ x.2 ∧ x.2 < bs.length := by
        rcases k12a ri rv ro rb g1 with ⟨e, q⟩ | ⟨e, q⟩ | ⟨e, q⟩ | e | e | e | ⟨e, q⟩ | ⟨e, q⟩ | ⟨e, q⟩ | ⟨e, q⟩ | ⟨e, q⟩ <;> first | exact q | omega
      by_cases he : k2 = x.2.toNat
      · subst he
        have := hnx h7 hq
        have hl : x.2.toNat < ss.length := by rw [h.sl]; omega
        unfold possAt
        have hs : stAt (ss.set x.2.toNat (nextB (termAt bs x.2.toNat).1 (termAt bs x.2.toNat).2.2 (argI bs x stk) (stAt ss x.2.toNat))) x.2.toNat = nextB (termAt bs x.2.toNat).1 (termAt bs x.2.toNat).2.2 (argI bs x stk) (stAt ss x.2.toNat) := by
          simp only [stAt, List.getElem?_set_self hl, Option.getD_some]
        rw [hs]; exact this
      · have hs : ∀ y, stAt (ss.set x.2.toNat y) k2 = stAt ss k2 := fun y => by
          simp only [stAt, List.getElem?_set_ne (Ne.symm he)]
        unfold possAt
        rw [hs]; exact h.sp k2 hk2

end Go.SX

namespace Go.SX
open Go.Proofs
set_option maxRecDepth 100000

theorem k16z (x3 x4 x5 : Int) (x6 : List TM) (x8 x9 x10 x11 x12 : List Int) (x13 : List BS3) (h : kg x3 x4 x6 x8 x9 x11 x13 = true) :
    k81 x3 x5 = x5 ∧ k7z x3 x8 = x8 ∧ k83 x3 x10 = x10 ∧ k82 x3 x11 = x11 ∧ k84 x3 x12 = x12 ∧ kg x3 x4 x6 x8 x9 x11 x13 = true :=
  ⟨by simp only [k81, Bool.cond_self], by simp only [k7z, Bool.cond_self], by simp only [k83, Bool.cond_self], by simp only [k82, Bool.cond_self], by simp only [k84, Bool.cond_self], h⟩

def k4x : List SV → List Entry → Option Out
  | [.one ⟨false, [.ptr 0 0]⟩, .one ⟨true, [.val (.int .i64 _x0), .val (.int .i64 _x1), .val (.int .i64 _x2), .ref 1, .ref 2]⟩, .one ⟨true, [.val (.int .i64 x3), .val (.int .i64 x4)]⟩, .one ⟨false, [.ref 3]⟩, .one ⟨false, [.ref 4]⟩], [.box 77 [.val (.int .i64 x5), .ref 5, .ref 6, .ref 7, .ref 8], .row false 178 (.pair (.int .i64) (.pair .str (.int .i64))) x6, .row false 150 (.pair (.int .i64) (.int .i64)) x7, .row true 2 (.int .i64) x8, .row false 2 (.int .i64) x9, .row true 2 (.int .i64) x10, .row true 2 (.int .i64) x11, .row true 2 (.int .i64) x12, .row true 172 (.pair (.int .i64) (.pair (.int .i64) (.int .i64))) x13] => some ⟨(.one ⟨false, [(.val (.int IntKind.i64 (k1d x3 x4 x6 x8 x9 x11 x13)))]⟩), [(.box 77 [(.val (.int IntKind.i64 (x5))), (.ref 5), (.ref 6), (.ref 7), (.ref 8)]), (.row false 178 (CTy.pair (CTy.int IntKind.i64) (CTy.pair CTy.str (CTy.int IntKind.i64))) x6), (.row false 150 (CTy.pair (CTy.int IntKind.i64) (CTy.int IntKind.i64)) x7), (.row true 2 (CTy.int IntKind.i64) (x8)), (.row false 2 (CTy.int IntKind.i64) x9), (.row true 2 (CTy.int IntKind.i64) (x10)), (.row true 2 (CTy.int IntKind.i64) (x11)), (.row true 2 (CTy.int IntKind.i64) (x12)), (.row true 172 (CTy.pair (CTy.int IntKind.i64) (CTy.pair (CTy.int IntKind.i64) (CTy.int IntKind.i64))) (k2t x3 x4 x6 x8 x13))], [], [kg x3 x4 x6 x8 x9 x11 x13]⟩
  | _, _ => none

def kk9 : PF Tryz.prog := PF.alt kjo k4x (by
  intro args es o h hnd; unfold k4x at h; split at h
  · rename_i _x0 _x1 _x2 x3 x4 x5 x6 x7 x8 x9 x10 x11 x12 x13
    cases h
    have hnd := nd_fst hnd
    have hh := k16z x3 x4 x5 x6 x8 x9 x10 x11 x12 x13 hnd
    obtain ⟨e1, e2, e3, e4, e5, en⟩ := hh
    exact altok rfl (nd_one en) rfl (by simp only [e1, e2, e3, e4, e5] <;> rfl) rfl
  · cases h)

def k_give : PF Tryz.prog := PF.kept kk9 [0] (by
  intro args es o h
  have h : k4x args es = some o := h
  unfold k4x at h; split at h
  · cases h; exact List.forall_mem_cons.2 ⟨rfl, fun _ h => (by cases h)⟩
  · cases h)

end Go.SX

namespace Go.SX
open Go.Proofs
set_option maxRecDepth 100000

def ke (x3 : Int) (x5 : List (Int × Int)) : Int × Int :=
  Option.getD x5[Int.toNat x3]? ((0 : Int), (0 : Int))

def k15 (x3 : Int) (x5 : List (Int × Int)) : Bool :=
  k1m (Prod.fst (ke x3 x5)) == (1 : Int)

def k7o (x3 : Int) : Int :=
  IntKind.wrap IntKind.i64 (x3 + (1 : Int))

def kh (x3 : Int) (x4 : List (Int × ByteArray × Int)) (x5 : List (Int × Int)) (x7 : List Int) : Int :=
  IntKind.wrap IntKind.i64
  (ko8 x7 -
    k16 (Prod.fst (ke x3 x5))
      (Prod.snd (ke x3 x5)) x4)

def km (x3 : Int) (x4 : List (Int × ByteArray × Int)) (x5 : List (Int × Int)) (x6 : List Int) (x7 : List Int) (x8 : List Int) (x10 : List (Int × Int × Int)) : List Int :=
  [k1d (Prod.fst (ke x3 x5))
    (Prod.snd (ke x3 x5)) x4
    (List.drop (Int.toNat (kh x3 x4 x5 x7)) x7) x6 x8 x10]

def k52 (x3 : Int) (x5 : List (Int × Int)) : Int :=
  bif k15 x3 x5 then k7o x3
  else k7o x3

def k50 (x3 : Int) (x4 : List (Int × ByteArray × Int)) (x5 : List (Int × Int)) (x7 : List Int) (x8 : List Int) : List Int :=
  bif k15 x3 x5 then x8
  else
  k7n (Prod.fst (ke x3 x5))
    (Prod.snd (ke x3 x5))
    (List.drop (Int.toNat (kh x3 x4 x5 x7)) x7) x8

def k4y (x3 : Int) (x4 : List (Int × ByteArray × Int)) (x5 : List (Int × Int)) (x6 : List Int) (x7 : List Int) (x8 : List Int) (x9 : List Int) : List Int :=
  bif k15 x3 x5 then x9
  else
  k4k (Prod.fst (ke x3 x5))
    (Prod.snd (ke x3 x5))
    (List.drop (Int.toNat (kh x3 x4 x5 x7)) x7) x6 x8 x9

def k56 (x3 : Int) (x4 : List (Int × ByteArray × Int)) (x5 : List (Int × Int)) (x7 : List Int) (x10 : List (Int × Int × Int)) : List (Int × (Int × Int)) :=
  bif k15 x3 x5 then
  k2t (Prod.fst (ke x3 x5))
    (Prod.snd (ke x3 x5)) x4
    (List.drop (Int.toNat (kh x3 x4 x5 x7)) x7) x10
  else x10

def k55 (x3 : Int) (x4 : List (Int × ByteArray × Int)) (x5 : List (Int × Int)) (x6 : List Int) (x7 : List Int) (x8 : List Int) (x10 : List (Int × Int × Int)) : List Int :=
  bif k15 x3 x5 then
  List.take (Int.toNat (kh x3 x4 x5 x7)) x7 ++
    km x3 x4 x5 x6 x7 x8 x10
  else List.take (Int.toNat (kh x3 x4 x5 x7)) x7

def kt (x3 : Int) (x4 : List (Int × ByteArray × Int)) (x5 : List (Int × Int)) (x6 : List Int) (x7 : List Int) (x8 : List Int) (x9 : List Int) (x10 : List (Int × Int × Int)) : Bool :=
  allT
  [leI (0 : Int) x3, ltI x3 (↑(List.length x5) : Int), ltN (Int.toNat x3) (List.length x5),
    k4h (Prod.fst (ke x3 x5))
      (Prod.snd (ke x3 x5)) x4,
    leI (0 : Int) (kh x3 x4 x5 x7),
    leI (kh x3 x4 x5 x7) (↑(List.length x7) : Int),
    leN (Int.toNat (kh x3 x4 x5 x7)) (List.length x7),
    leN (List.length (List.drop (Int.toNat (kh x3 x4 x5 x7)) x7)) (1048576 : Nat),
    leI (0 : Int) (kh x3 x4 x5 x7),
    leI (kh x3 x4 x5 x7) (↑(List.length x7) : Int),
    !k15 x3 x5 ||
      kg (Prod.fst (ke x3 x5))
        (Prod.snd (ke x3 x5)) x4
        (List.drop (Int.toNat (kh x3 x4 x5 x7)) x7) x6 x8 x10,
    !k15 x3 x5 ||
      leN
        (List.length (List.take (Int.toNat (kh x3 x4 x5 x7)) x7) +
          List.length (km x3 x4 x5 x6 x7 x8 x10))
        (9223372036854775807 : Nat),
    !k15 x3 x5 ||
      leN
        ((List.length (List.take (Int.toNat (kh x3 x4 x5 x7)) x7) +
            List.length (km x3 x4 x5 x6 x7 x8 x10)) *
          (8 : Nat))
        (140737488355328 : Nat),
    k15 x3 x5 ||
      k1b (Prod.fst (ke x3 x5))
        (Prod.snd (ke x3 x5))
        (List.drop (Int.toNat (kh x3 x4 x5 x7)) x7) x6 x8 x9]

def kcd : List SV → List Entry → Option Out
  | [.one ⟨false, [.ptr 0 0]⟩, .one ⟨true, [.val (.int .i64 _x0), .val (.int .i64 _x1), .val (.int .i64 _x2), .ref 1, .ref 2]⟩, .one ⟨false, [.ref 3]⟩], [.box 77 [.val (.int .i64 x3), .ref 4, .ref 5, .ref 6, .ref 7], .row false 178 (.pair (.int .i64) (.pair .str (.int .i64))) x4, .row false 150 (.pair (.int .i64) (.int .i64)) x5, .row false 2 (.int .i64) x6, .row true 2 (.int .i64) x7, .row true 2 (.int .i64) x8, .row true 2 (.int .i64) x9, .row true 172 (.pair (.int .i64) (.pair (.int .i64) (.int .i64))) x10] => some ⟨(.tup []), [(.box 77 [(.val (.int IntKind.i64 (k52 x3 x5))), (.ref 8), (.ref 5), (.ref 6), (.ref 7)]), (.row false 178 (CTy.pair (CTy.int IntKind.i64) (CTy.pair CTy.str (CTy.int IntKind.i64))) x4), (.row false 150 (CTy.pair (CTy.int IntKind.i64) (CTy.int IntKind.i64)) x5), (.row false 2 (CTy.int IntKind.i64) x6), .gone, (.row true 2 (CTy.int IntKind.i64) (k50 x3 x4 x5 x7 x8)), (.row true 2 (CTy.int IntKind.i64) (k4y x3 x4 x5 x6 x7 x8 x9)), (.row true 172 (CTy.pair (CTy.int IntKind.i64) (CTy.pair (CTy.int IntKind.i64) (CTy.int IntKind.i64))) (k56 x3 x4 x5 x7 x10))], [(.row true 2 (CTy.int IntKind.i64) (k55 x3 x4 x5 x6 x7 x8 x10))], [(kt x3 x4 x5 x6 x7 x8 x9 x10)]⟩
  | _, _ => none

def kcb : PF Tryz.prog := PF.ofG Tryz.prog [PF.views Tryz.prog, k8c, PF.lend k8c, PF.lend (PF.view k8c), k22, PF.lend k22, kse, PF.lend kse, k_give, kjb] [] hmix 126 Tryz.f126 Tryz.func126 (fun c _ => LOk.nil c) kcd (by
  intro vs es r h; unfold kcd at h; split at h
  · cases h; kernel_rfl
  · cases h)

end Go.SX

namespace Go.SX
open Go.Proofs
set_option maxRecDepth 100000

theorem k159 {a b : Int} (ha : a = 0 ∨ a = 1) (hb : b = 0 ∨ b = 1) : IntKind.i64.wrap ((BitVec.toNat (BitVec.ofInt (IntKind.bits IntKind.i64) a &&& BitVec.ofInt (IntKind.bits IntKind.i64) b) : Nat) : Int) = andI a b := by
  rcases ha with rfl | rfl <;> rcases hb with rfl | rfl <;> rfl
theorem k16g {a b : Int} (ha : a = 0 ∨ a = 1) (hb : b = 0 ∨ b = 1) : IntKind.i64.wrap ((BitVec.toNat (BitVec.ofInt (IntKind.bits IntKind.i64) a ||| BitVec.ofInt (IntKind.bits IntKind.i64) b) : Nat) : Int) = orI a b := by
  rcases ha with rfl | rfl <;> rcases hb with rfl | rfl <;> rfl
theorem k16e {a : Int} (ha : a = 0 ∨ a = 1) : IntKind.i64.wrap (1 - a) = 1 - a := by rcases ha with rfl | rfl <;> rfl

theorem k168 {bs : List TM} {x : IN} {stk : List Int} (h : bitsB (tkI bs x) (argI bs x stk) = true) : ((argI bs x stk).length : Int) = tkI bs x := (k9w.1 h).2

/-- What an instruction takes and gives. -/
theorem tk_of {bs : List TM} {x : IN} : (x.1 = 4 → tkI bs x = 1) ∧ (x.1 = 5 → tkI bs x = 2) ∧ (x.1 = 6 → tkI bs x = 2) ∧ (x.1 = 8 → tkI bs x = 1) ∧ (x.1 = 9 → tkI bs x = 1) ∧ (x.1 = 7 → tkI bs x = takesK (termAt bs x.2.toNat).1) := by
  refine ⟨fun h => ?_, fun h => ?_, fun h => ?_, fun h => ?_, fun h => ?_, fun h => ?_⟩ <;> simp [tkI, k3g, k7x, k7t, kbv, h, takesK, termAt]

theorem gv_of {x : IN} : ((x.1 = 1 ∨ x.1 = 2 ∨ x.1 = 3 ∨ x.1 = 4 ∨ x.1 = 5 ∨ x.1 = 6 ∨ x.1 = 7) → gvI x = 1) ∧ ((x.1 = 8 ∨ x.1 = 9 ∨ x.1 = 10 ∨ x.1 = 11) → gvI x = 0) := by
  refine ⟨fun h => ?_, fun h => ?_⟩
  · rcases h with h | h | h | h | h | h | h <;> simp [gvI, k60, k7x, k7t, kbv, h]
  · rcases h with h | h | h | h <;> simp [gvI, k60, k7x, k7t, kbv, h]

/-- The reference's step. -/
theorem specStep {i v o : Int} {bs : List TM} {st : List IN} {inp : List Int} {k : Int} {stk xs os : List Int} {ss : List BS3} (hC : codeB i v o bs st = true) (hin : bitsB i inp = true)
    (h : OkM i v o bs st k stk xs os ss) (hlt : k < st.length) {x : IN} (hx : st[k.toNat]? = some x) :
    kp1 k st = k + 1 ∧ kof k bs st stk xs ss inp = stkM bs inp x stk xs ss ∧ kr1 k bs st stk xs = vlsM bs x stk xs ∧
    kr7 k bs st stk xs os inp = outM bs inp x stk xs os ∧ kr9 k bs st stk ss = blkM bs x stk ss ∧ k8p k bs st stk xs os ss inp = true := by
  obtain ⟨g1, g2, g3, g4, g5, _⟩ := k15c hC hin h hlt hx
  simp only [codeB, Bool.and_eq_true] at hC
  obtain ⟨hr, hB, hok⟩ := hC
  obtain ⟨ri, rv, ro, rb, rs⟩ := kw7.1 hr
  have h0 := h.lo
  have t2 := tkI_in bs x
  have hxl := (k9w.1 h.vl).2
  have hol := (k9w.1 h.ou).2
  have hil := (k9w.1 hin).2
  have hsl := h.sl
  have hargb := (k9w.1 g3).1
  have hal := k168 g3
  have ha0 := k11d hargb 0
  have ha1 := k11d hargb 1
  have e0 : kw k st = x := by simp only [kw, hx, Option.getD_some]
  have w3 : IntKind.i64.wrap (k + 1) = k + 1 := wrap_i64 (by omega) (by omega)
  have e14 : kdi k bs st stk = stk.length - tkI bs x := by
    simp only [kdi, e0]
    exact wrap_i64 (by have : k3g x.1 x.2 bs = tkI bs x := rfl; omega) (by have : k3g x.1 x.2 bs = tkI bs x := rfl; omega)
  have en : (((stk.length : Int) - tkI bs x)).toNat = stk.length - (tkI bs x).toNat := by omega
  have e15 : k1c k bs st stk = rstI bs x stk := by simp only [k1c, e14, en, rstI]; rfl
  have e18 : k57 k bs st stk = argI bs x stk := by simp only [k57, e14, en, argI, Int.toNat_natCast, List.take_length]
  have e19 : kfg k bs st stk = atZ (argI bs x stk) 0 := by simp only [kfg, e18, atZ]
  have e20 : ∀ d : Int, Option.getD (argI bs x stk)[Int.toNat (1 : Int)]? d = Option.getD (argI bs x stk)[Int.toNat (1 : Int)]? d := fun _ => rfl
  have hl1 : leN (rstI bs x stk).length 1048576 = true := leN_t (by have := k13h g2; omega)
  have hl2 : leN (argI bs x stk).length 1048576 = true := leN_t (by omega)
  have hl3 : leN xs.length 1048576 = true := leN_t (by omega)
  have hl4 : leN os.length 1048576 = true := leN_t (by omega)
  have hl5 : leN (0 + ss.length) 9223372036854775807 = true := leN_t (by omega)
  have hl6 : leN ((0 + ss.length) * 24) 140737488355328 = true := leN_t (by omega)
  have hl7 : leN ((rstI bs x stk).length + 1) 9223372036854775807 = true := leN_t (by have := k13h g2; omega)
  have hl8 : leN (((rstI bs x stk).length + 1) * 8) 140737488355328 = true := leN_t (by have := k13h g2; omega)
  have n1 : leI 0 k = true := leI_t h0
  have n2 : ltI k (st.length : Int) = true := ltI_t hlt
  have n3 : ltN k.toNat st.length = true := ltN_t (by omega)
  have n4 : kes x.1 x.2 bs = true := fit_nd rb g1
  have n5 : leI 0 ((stk.length : Int) - tkI bs x) = true := leI_t (by omega)
  have n6 : leI ((stk.length : Int) - tkI bs x) (stk.length : Int) = true := leI_t (by omega)
  have n7 : ∀ n : Nat, leI (n : Int) (n : Int) = true := fun n => leI_t (by omega)
  have key : ∀ c : Int, x.1 = c → ka k st = (c == 1) ∧ kb k st = (c == 2) ∧ kf k st = (c == 3) ∧ ki k st = (c == 4) ∧ kk k st = (c == 5) ∧ kn k st = (c == 6) ∧
      kz k st = (c == 7) ∧ k18 k st = (c == 8) ∧ k1p k st = (c == 9) ∧ k2e k st = (c == 10) ∧ k58 k st = (c == 11) ∧ kd k st = (gvI x == 1) := by
    intro c hc
    have h2 : k60 c = gvI x := by rw [← hc]; rfl
    refine ⟨?_, ?_, ?_, ?_, ?_, ?_, ?_, ?_, ?_, ?_, ?_, ?_⟩ <;> simp only [ka, kd, kb, kf, ki, kk, kn, kz, k18, k1p, k2e, k58, e0, hc, h2]
  obtain ⟨tk4, tk5, tk6, tk8, tk9, tk7⟩ := tk_of (bs := bs) (x := x)
  obtain ⟨gv1, gv0⟩ := gv_of (x := x)
  have hB7 : x.1 = 7 → 0 ≤ x.2 ∧ x.2 < bs.length → blockB (termAt bs x.2.toNat).1 (termAt bs x.2.toNat).2.1 (termAt bs x.2.toNat).2.2 = true := fun _ hq => by
    have hlt7 : x.2.toNat < bs.length := by omega
    have hg7 : termAt bs x.2.toNat = bs[x.2.toNat] := by simp only [termAt, List.getElem?_eq_getElem hlt7]; rfl
    rw [hg7]; exact List.all_eq_true.1 hB _ (List.getElem_mem hlt7)
  have hs0 : kp1 k st = k + 1 := by simp only [kp1, k28, w3, Bool.cond_self]
  have hmask : ∀ (l : List Int) (z : Int), kj6 z l = mskM l z := fun l z => by simp only [kj6, mskM, Int.toNat_natCast]
  have hcs := k12a ri rv ro rb g1
  have a16 : kdd k st inp = atZ inp x.2 := by simp only [kdd, e0, atZ]
  have a17 : kdg k st xs = atZ xs x.2 := by simp only [kdg, e0, atZ]
  have a23 : kbu k bs st = termAt bs x.2.toNat := by simp only [kbu, e0, termAt]
  have a24 : k7w k st ss = stAt ss x.2.toNat := by simp only [k7w, e0, stAt]
  have a27 : kok k bs st stk xs = xs.set x.2.toNat (atZ (argI bs x stk) 0) := by simp only [kok, e0, e19]
  have a28 : koq k bs st stk os = os.set x.2.toNat (atZ (argI bs x stk) 0) := by simp only [koq, e0, e19]
  have a20 : k4j k bs st stk = [1 - atZ (argI bs x stk) 0] := by simp only [k4j, e19, k16e ha0]
  have a21 : k4g k bs st stk = [andI (atZ (argI bs x stk) 0) (atZ (argI bs x stk) 1)] := by
    simp only [k4g, e19, e18]
    exact congrArg (fun z => [z]) (k159 ha0 ha1)
  have a22 : k4a k bs st stk = [orI (atZ (argI bs x stk) 0) (atZ (argI bs x stk) 1)] := by
    simp only [k4a, e19, e18]
    exact congrArg (fun z => [z]) (k16g ha0 ha1)
  have a25 : k4c k bs st stk ss = [valB (termAt bs x.2.toNat).1 (termAt bs x.2.toNat).2.2 (argI bs x stk) (stAt ss x.2.toNat)] := by simp only [k4c, a23, a24, e18, valB]
  have a29 : koa k bs st stk ss = ss.set x.2.toNat (nextB (termAt bs x.2.toNat).1 (termAt bs x.2.toNat).2.2 (argI bs x stk) (stAt ss x.2.toNat)) := by simp only [koa, a23, a24, e18, e0, nextB]
  refine ⟨hs0, ?_, ?_, ?_, ?_, ?_⟩
  · rcases hcs with ⟨e, q⟩ | ⟨e, q⟩ | ⟨e, q⟩ | e | e | e | ⟨e, q⟩ | ⟨e, q⟩ | ⟨e, q⟩ | ⟨e, q⟩ | ⟨e, q⟩ <;> (
      obtain ⟨k1, k4, k5, k6, k7, k8, k9, k10, k11, k12, k13, k2⟩ := key _ e
      first
      | (have gv : gvI x = 1 := gv1 (by omega)
         simp [kof, kf2, stkM, valM, k1, k2, k4, k5, k6, k7, k8, k9, k10, k11, k12, k13, e0, e15, a16, a17, a20, a21, a22, a25, e, gv])
      | (have gv : gvI x = 0 := gv0 (by omega)
         simp [kof, kf2, stkM, valM, k1, k2, k4, k5, k6, k7, k8, k9, k10, k11, k12, k13, e0, e15, a16, a17, a20, a21, a22, a25, e, gv]))
  · rcases hcs with ⟨e, q⟩ | ⟨e, q⟩ | ⟨e, q⟩ | e | e | e | ⟨e, q⟩ | ⟨e, q⟩ | ⟨e, q⟩ | ⟨e, q⟩ | ⟨e, q⟩ <;> (
      obtain ⟨k1, k4, k5, k6, k7, k8, k9, k10, k11, k12, k13, k2⟩ := key _ e
      simp [kr1, vlsM, Bool.cond_self, k1, k4, k5, k6, k7, k8, k9, k10, k11, k12, k13, a27, e])
  · rcases hcs with ⟨e, q⟩ | ⟨e, q⟩ | ⟨e, q⟩ | e | e | e | ⟨e, q⟩ | ⟨e, q⟩ | ⟨e, q⟩ | ⟨e, q⟩ | ⟨e, q⟩ <;> (
      obtain ⟨k1, k4, k5, k6, k7, k8, k9, k10, k11, k12, k13, k2⟩ := key _ e
      simp [kr7, outM, Bool.cond_self, k1, k4, k5, k6, k7, k8, k9, k10, k11, k12, k13, a28, a16, a17, hmask, e])
  · rcases hcs with ⟨e, q⟩ | ⟨e, q⟩ | ⟨e, q⟩ | e | e | e | ⟨e, q⟩ | ⟨e, q⟩ | ⟨e, q⟩ | ⟨e, q⟩ | ⟨e, q⟩ <;> (
      obtain ⟨k1, k4, k5, k6, k7, k8, k9, k10, k11, k12, k13, k2⟩ := key _ e
      simp [kr9, blkM, Bool.cond_self, k1, k4, k5, k6, k7, k8, k9, k10, k11, k12, k13, a29, e])
  · rcases hcs with ⟨e, q⟩ | ⟨e, q⟩ | ⟨e, q⟩ | e | e | e | ⟨e, q⟩ | ⟨e, q⟩ | ⟨e, q⟩ | ⟨e, q⟩ | ⟨e, q⟩
    · obtain ⟨k1, k4, k5, k6, k7, k8, k9, k10, k11, k12, k13, k2⟩ := key _ e
      have z0 : leI (0 : Int) 0 = true := rfl
      have z1 : leI (0 : Int) 1 = true := rfl
      simp [k8p, allT, k1, k2, k4, k5, k6, k7, k8, k9, k10, k11, k12, k13, e0, e14, e15, e18, n1, n2, n3, n4, n5, n6, n7, hl1, hl2, hl3, hl4, hl5, hl6, hl7, hl8, k4j, k4g, k4a, k4c, k6q, k5s, k4b, k4d, k6s, k6k, k5t, k6m, k6p, k4e, k4f, List.length_singleton, z0, z1] <;> omega
    · obtain ⟨k1, k4, k5, k6, k7, k8, k9, k10, k11, k12, k13, k2⟩ := key _ e
      have z0 : leI (0 : Int) 0 = true := rfl
      have z1 : leI (0 : Int) 1 = true := rfl
      have r1 : leI 0 x.2 = true := leI_t (by omega)
      have r2 : ltI x.2 (inp.length : Int) = true := ltI_t (by omega)
      have r3 : ltN x.2.toNat inp.length = true := ltN_t (by omega)
      simp [k8p, allT, k1, k2, k4, k5, k6, k7, k8, k9, k10, k11, k12, k13, e0, e14, e15, e18, n1, n2, n3, n4, n5, n6, n7, hl1, hl2, hl3, hl4, hl5, hl6, hl7, hl8, k4j, k4g, k4a, k4c, k6q, k5s, k4b, k4d, k6s, k6k, k5t, k6m, k6p, k4e, k4f, List.length_singleton, z0, z1, r1, r2, r3] <;> omega
    · obtain ⟨k1, k4, k5, k6, k7, k8, k9, k10, k11, k12, k13, k2⟩ := key _ e
      have z0 : leI (0 : Int) 0 = true := rfl
      have z1 : leI (0 : Int) 1 = true := rfl
      have r1 : leI 0 x.2 = true := leI_t (by omega)
      have r2 : ltI x.2 (xs.length : Int) = true := ltI_t (by omega)
      have r3 : ltN x.2.toNat xs.length = true := ltN_t (by omega)
      simp [k8p, allT, k1, k2, k4, k5, k6, k7, k8, k9, k10, k11, k12, k13, e0, e14, e15, e18, n1, n2, n3, n4, n5, n6, n7, hl1, hl2, hl3, hl4, hl5, hl6, hl7, hl8, k4j, k4g, k4a, k4c, k6q, k5s, k4b, k4d, k6s, k6k, k5t, k6m, k6p, k4e, k4f, List.length_singleton, z0, z1, r1, r2, r3] <;> omega
    · obtain ⟨k1, k4, k5, k6, k7, k8, k9, k10, k11, k12, k13, k2⟩ := key _ e
      have z0 : leI (0 : Int) 0 = true := rfl
      have z1 : leI (0 : Int) 1 = true := rfl
      have tk := tk4 e
      have s1 : ltI 0 ((argI bs x stk).length : Int) = true := ltI_t (by omega)
      have s2 : ltN (Int.toNat 0) (argI bs x stk).length = true := ltN_t (by simp only [Int.toNat_zero]; omega)
      simp [k8p, allT, k1, k2, k4, k5, k6, k7, k8, k9, k10, k11, k12, k13, e0, e14, e15, e18, n1, n2, n3, n4, n5, n6, n7, hl1, hl2, hl3, hl4, hl5, hl6, hl7, hl8, k4j, k4g, k4a, k4c, k6q, k5s, k4b, k4d, k6s, k6k, k5t, k6m, k6p, k4e, k4f, List.length_singleton, z0, z1, s1, s2] <;> omega
    · obtain ⟨k1, k4, k5, k6, k7, k8, k9, k10, k11, k12, k13, k2⟩ := key _ e
      have z0 : leI (0 : Int) 0 = true := rfl
      have z1 : leI (0 : Int) 1 = true := rfl
      have tk := tk5 e
      have s1 : ltI 0 ((argI bs x stk).length : Int) = true := ltI_t (by omega)
      have s2 : ltN (Int.toNat 0) (argI bs x stk).length = true := ltN_t (by simp only [Int.toNat_zero]; omega)
      have s3 : ltI 1 ((argI bs x stk).length : Int) = true := ltI_t (by omega)
      have s4 : ltN (Int.toNat 1) (argI bs x stk).length = true := ltN_t (by rw [show Int.toNat 1 = 1 from rfl]; omega)
      simp [k8p, allT, k1, k2, k4, k5, k6, k7, k8, k9, k10, k11, k12, k13, e0, e14, e15, e18, n1, n2, n3, n4, n5, n6, n7, hl1, hl2, hl3, hl4, hl5, hl6, hl7, hl8, k4j, k4g, k4a, k4c, k6q, k5s, k4b, k4d, k6s, k6k, k5t, k6m, k6p, k4e, k4f, List.length_singleton, z0, z1, s1, s2, s3, s4] <;> omega
    · obtain ⟨k1, k4, k5, k6, k7, k8, k9, k10, k11, k12, k13, k2⟩ := key _ e
      have z0 : leI (0 : Int) 0 = true := rfl
      have z1 : leI (0 : Int) 1 = true := rfl
      have tk := tk6 e
      have s1 : ltI 0 ((argI bs x stk).length : Int) = true := ltI_t (by omega)
      have s2 : ltN (Int.toNat 0) (argI bs x stk).length = true := ltN_t (by simp only [Int.toNat_zero]; omega)
      have s3 : ltI 1 ((argI bs x stk).length : Int) = true := ltI_t (by omega)
      have s4 : ltN (Int.toNat 1) (argI bs x stk).length = true := ltN_t (by rw [show Int.toNat 1 = 1 from rfl]; omega)
      simp [k8p, allT, k1, k2, k4, k5, k6, k7, k8, k9, k10, k11, k12, k13, e0, e14, e15, e18, n1, n2, n3, n4, n5, n6, n7, hl1, hl2, hl3, hl4, hl5, hl6, hl7, hl8, k4j, k4g, k4a, k4c, k6q, k5s, k4b, k4d, k6s, k6k, k5t, k6m, k6p, k4e, k4f, List.length_singleton, z0, z1, s1, s2, s3, s4] <;> omega
    · obtain ⟨k1, k4, k5, k6, k7, k8, k9, k10, k11, k12, k13, k2⟩ := key _ e
      have z0 : leI (0 : Int) 0 = true := rfl
      have z1 : leI (0 : Int) 1 = true := rfl
      have r1 : leI 0 x.2 = true := leI_t (by omega)
      have r2 : ltI x.2 (bs.length : Int) = true := ltI_t (by omega)
      have r3 : ltN x.2.toNat bs.length = true := ltN_t (by omega)
      have r4 : ltI x.2 (ss.length : Int) = true := ltI_t (by omega)
      have r5 : ltN x.2.toNat ss.length = true := ltN_t (by omega)
      have r6 := (k15k (hB7 e q) (h.sp x.2.toNat (by omega)) (by rw [← tk7 e]; exact g3)).2.2.2.2.2.1
      simp [k8p, allT, k1, k2, k4, k5, k6, k7, k8, k9, k10, k11, k12, k13, e0, e14, e15, e18, n1, n2, n3, n4, n5, n6, n7, hl1, hl2, hl3, hl4, hl5, hl6, hl7, hl8, k4j, k4g, k4a, k4c, k6q, k5s, k4b, k4d, k6s, k6k, k5t, k6m, k6p, k4e, k4f, List.length_singleton, z0, z1, r1, r2, r3, r4, r5, r6] <;> omega
    · obtain ⟨k1, k4, k5, k6, k7, k8, k9, k10, k11, k12, k13, k2⟩ := key _ e
      have z0 : leI (0 : Int) 0 = true := rfl
      have z1 : leI (0 : Int) 1 = true := rfl
      have tk := tk8 e
      have s1 : ltI 0 ((argI bs x stk).length : Int) = true := ltI_t (by omega)
      have s2 : ltN (Int.toNat 0) (argI bs x stk).length = true := ltN_t (by simp only [Int.toNat_zero]; omega)
      have r1 : leI 0 x.2 = true := leI_t (by omega)
      have r2 : ltI x.2 (xs.length : Int) = true := ltI_t (by omega)
      have r3 : ltN x.2.toNat xs.length = true := ltN_t (by omega)
      simp [k8p, allT, k1, k2, k4, k5, k6, k7, k8, k9, k10, k11, k12, k13, e0, e14, e15, e18, n1, n2, n3, n4, n5, n6, n7, hl1, hl2, hl3, hl4, hl5, hl6, hl7, hl8, k4j, k4g, k4a, k4c, k6q, k5s, k4b, k4d, k6s, k6k, k5t, k6m, k6p, k4e, k4f, List.length_singleton, z0, z1, s1, s2, r1, r2, r3] <;> omega
    · obtain ⟨k1, k4, k5, k6, k7, k8, k9, k10, k11, k12, k13, k2⟩ := key _ e
      have z0 : leI (0 : Int) 0 = true := rfl
      have z1 : leI (0 : Int) 1 = true := rfl
      have tk := tk9 e
      have s1 : ltI 0 ((argI bs x stk).length : Int) = true := ltI_t (by omega)
      have s2 : ltN (Int.toNat 0) (argI bs x stk).length = true := ltN_t (by simp only [Int.toNat_zero]; omega)
      have r1 : leI 0 x.2 = true := leI_t (by omega)
      have r2 : ltI x.2 (os.length : Int) = true := ltI_t (by omega)
      have r3 : ltN x.2.toNat os.length = true := ltN_t (by omega)
      simp [k8p, allT, k1, k2, k4, k5, k6, k7, k8, k9, k10, k11, k12, k13, e0, e14, e15, e18, n1, n2, n3, n4, n5, n6, n7, hl1, hl2, hl3, hl4, hl5, hl6, hl7, hl8, k4j, k4g, k4a, k4c, k6q, k5s, k4b, k4d, k6s, k6k, k5t, k6m, k6p, k4e, k4f, List.length_singleton, z0, z1, s1, s2, r1, r2, r3] <;> omega
    · obtain ⟨k1, k4, k5, k6, k7, k8, k9, k10, k11, k12, k13, k2⟩ := key _ e
      have z0 : leI (0 : Int) 0 = true := rfl
      have z1 : leI (0 : Int) 1 = true := rfl
      have m1 : ∀ z : Int, kj8 z os = true := fun z => by
        have q1 : leI (0 : Int) (os.length : Int) = true := leI_t (by omega)
        have q2 : leI (((8 : Nat) : Int) * (os.length : Int)) 281474976710656 = true := leI_t (by omega)
        have q3 : leI (os.length : Int) 9223372036854775807 = true := leI_t (by omega)
        simp only [kj8, q1, q2, q3, n7, allT, Bool.or_true, cond_true]
      have r1 : leI 0 x.2 = true := leI_t (by omega)
      have r2 : ltI x.2 (inp.length : Int) = true := ltI_t (by omega)
      have r3 : ltN x.2.toNat inp.length = true := ltN_t (by omega)
      simp [k8p, allT, k1, k2, k4, k5, k6, k7, k8, k9, k10, k11, k12, k13, e0, e14, e15, e18, n1, n2, n3, n4, n5, n6, n7, hl1, hl2, hl3, hl4, hl5, hl6, hl7, hl8, k4j, k4g, k4a, k4c, k6q, k5s, k4b, k4d, k6s, k6k, k5t, k6m, k6p, k4e, k4f, List.length_singleton, z0, z1, m1, r1, r2, r3] <;> omega
    · obtain ⟨k1, k4, k5, k6, k7, k8, k9, k10, k11, k12, k13, k2⟩ := key _ e
      have z0 : leI (0 : Int) 0 = true := rfl
      have z1 : leI (0 : Int) 1 = true := rfl
      have m1 : ∀ z : Int, kj8 z os = true := fun z => by
        have q1 : leI (0 : Int) (os.length : Int) = true := leI_t (by omega)
        have q2 : leI (((8 : Nat) : Int) * (os.length : Int)) 281474976710656 = true := leI_t (by omega)
        have q3 : leI (os.length : Int) 9223372036854775807 = true := leI_t (by omega)
        simp only [kj8, q1, q2, q3, n7, allT, Bool.or_true, cond_true]
      have r1 : leI 0 x.2 = true := leI_t (by omega)
      have r2 : ltI x.2 (xs.length : Int) = true := ltI_t (by omega)
      have r3 : ltN x.2.toNat xs.length = true := ltN_t (by omega)
      simp [k8p, allT, k1, k2, k4, k5, k6, k7, k8, k9, k10, k11, k12, k13, e0, e14, e15, e18, n1, n2, n3, n4, n5, n6, n7, hl1, hl2, hl3, hl4, hl5, hl6, hl7, hl8, k4j, k4g, k4a, k4c, k6q, k5s, k4b, k4d, k6s, k6k, k5t, k6m, k6p, k4e, k4f, List.length_singleton, z0, z1, m1, r1, r2, r3] <;> omega

/-- The program's step. -/
theorem implStep {i v o : Int} {bs : List TM} {st : List IN} {inp : List Int} {k : Int} {stk xs os : List Int} {ss : List BS3} (hC : codeB i v o bs st = true) (hin : bitsB i inp = true)
    (h : OkM i v o bs st k stk xs os ss) (hlt : k < st.length) {x : IN} (hx : st[k.toNat]? = some x) :
    k52 k st = k + 1 ∧ k55 k bs st inp stk xs ss = stkM bs inp x stk xs ss ∧ k50 k bs st stk xs = vlsM bs x stk xs ∧
    k4y k bs st inp stk xs os = outM bs inp x stk xs os ∧ k56 k bs st stk ss = blkM bs x stk ss ∧ kt k bs st inp stk xs os ss = true := by
  obtain ⟨g1, g2, g3, g4, g5, _⟩ := k15c hC hin h hlt hx
  simp only [codeB, Bool.and_eq_true] at hC
  obtain ⟨hr, hB, hok⟩ := hC
  obtain ⟨ri, rv, ro, rb, rs⟩ := kw7.1 hr
  have h0 := h.lo
  have t2 := tkI_in bs x
  have hxl := (k9w.1 h.vl).2
  have hol := (k9w.1 h.ou).2
  have hil := (k9w.1 hin).2
  have hsl := h.sl
  have hargb := (k9w.1 g3).1
  have hal := k168 g3
  have ha0 := k11d hargb 0
  have ha1 := k11d hargb 1
  have e0 : ke k st = x := by simp only [ke, hx, Option.getD_some]
  have w3 : k7o k = k + 1 := wrap_i64 (by omega) (by omega)
  have e14 : kh k bs st stk = stk.length - tkI bs x := by
    simp only [kh, e0]
    have q : k16 x.1 x.2 bs = tkI bs x := rfl
    have q2 : ko8 stk = (stk.length : Int) := rfl
    rw [q, q2]
    exact wrap_i64 (by omega) (by omega)
  have en : (((stk.length : Int) - tkI bs x)).toNat = stk.length - (tkI bs x).toNat := by omega
  have e1 : k15 k st = (gvI x == 1) := by
    simp only [k15, e0]
    rfl
  have ear : stk.drop (stk.length - (tkI bs x).toNat) = argI bs x stk := rfl
  have ers : stk.take (stk.length - (tkI bs x).toNat) = rstI bs x stk := rfl
  have hz : ∀ (l : List Int) (z : Int), (bif z == 0 then zeros l.length else l) = mskM l z := fun l z => rfl
  have hcs := k12a ri rv ro rb g1
  have hB7 : x.1 = 7 → 0 ≤ x.2 ∧ x.2 < bs.length → blockB (termAt bs x.2.toNat).1 (termAt bs x.2.toNat).2.1 (termAt bs x.2.toNat).2.2 = true := fun _ hq => by
    have hlt7 : x.2.toNat < bs.length := by omega
    have hg7 : termAt bs x.2.toNat = bs[x.2.toNat] := by simp only [termAt, List.getElem?_eq_getElem hlt7]; rfl
    rw [hg7]; exact List.all_eq_true.1 hB _ (List.getElem_mem hlt7)
  obtain ⟨tk4, tk5, tk6, tk8, tk9, tk7⟩ := tk_of (bs := bs) (x := x)
  obtain ⟨gv1, gv0⟩ := gv_of (x := x)
  have h7 : x.1 = 7 → 0 ≤ x.2 ∧ x.2 < bs.length → _ := fun e q => k15k (hB7 e q) (h.sp x.2.toNat (by omega)) (by rw [← tk7 e]; exact g3)
  have hga0 : k4l (argI bs x stk) = atZ (argI bs x stk) 0 := rfl
  have hga1 : k1q x.2 bs = termAt bs x.2.toNat := rfl
  have hga2 : kx x.2 ss = stAt ss x.2.toNat := rfl
  have hsa0 : k7c (argI bs x stk) = atZ (argI bs x stk) 0 := rfl
  have hat : ∀ (l : List Int) (z : Int), Option.getD l[Int.toNat z]? (0 : Int) = atZ l z := fun _ _ => rfl
  have hat1 : ∀ (l : List Int), Option.getD l[1]? (0 : Int) = atZ l 1 := fun _ => rfl
  have hand := k159 ha0 ha1
  have hor := k16g ha0 ha1
  have hnot := k16e ha0
  refine ⟨?_, ?_, ?_, ?_, ?_, ?_⟩
  · simp only [k52, w3, Bool.cond_self]
  · simp only [k55, km, e0, e1, e14, en, ear, ers, stkM]
    rcases hcs with ⟨e, q⟩ | ⟨e, q⟩ | ⟨e, q⟩ | e | e | e | ⟨e, q⟩ | ⟨e, q⟩ | ⟨e, q⟩ | ⟨e, q⟩ | ⟨e, q⟩
    · simp [k1d, valM, e, gv1 (by omega)]
    · simp [k1d, valM, e, gv1 (by omega), hat]
    · simp [k1d, valM, e, gv1 (by omega), hat]
    · simp only [k1d, valM, e, hga0, hnot]; rfl
    · simp only [k1d, valM, e, hga0, hat, hand]; rfl
    · simp only [k1d, valM, e, hga0, hat, hor]; rfl
    · have := (h7 e q).1
      simp only [k1d, valM, e, hga1, hga2]
      simp [this, valB]
    all_goals simp [gv0 (by omega)]
  · simp only [k50, e0, e1, e14, en, ear, vlsM]
    rcases hcs with ⟨e, q⟩ | ⟨e, q⟩ | ⟨e, q⟩ | e | e | e | ⟨e, q⟩ | ⟨e, q⟩ | ⟨e, q⟩ | ⟨e, q⟩ | ⟨e, q⟩
    all_goals first
      | simp [gv1 (by omega), e]
      | simp [gv0 (by omega), e, k7n, hsa0]
  · simp only [k4y, e0, e1, e14, en, ear, outM]
    rcases hcs with ⟨e, q⟩ | ⟨e, q⟩ | ⟨e, q⟩ | e | e | e | ⟨e, q⟩ | ⟨e, q⟩ | ⟨e, q⟩ | ⟨e, q⟩ | ⟨e, q⟩
    all_goals first
      | (simp [gv1 (by omega), e]; done)
      | (simp [gv0 (by omega), e, k4k, hsa0, hat]; done)
      | (simp [gv0 (by omega), e, k4k, hsa0, hat]; exact hz _ _)
  · simp only [k56, e0, e1, e14, en, ear, blkM]
    rcases hcs with ⟨e, q⟩ | ⟨e, q⟩ | ⟨e, q⟩ | e | e | e | ⟨e, q⟩ | ⟨e, q⟩ | ⟨e, q⟩ | ⟨e, q⟩ | ⟨e, q⟩
    all_goals first
      | (have z := h7 e q
         simp only [k2t, e, hga1, hga2, z.2.1, z.2.2.1, z.2.2.2.1, gv1 (by omega)]
         simp [nextB]
         done)
      | simp [gv1 (by omega), e, k2t]
      | simp [gv0 (by omega), e]
  · have n1 : leI 0 k = true := leI_t h0
    have n2 : ltI k (st.length : Int) = true := ltI_t hlt
    have n3 : ltN k.toNat st.length = true := ltN_t (by omega)
    have n4 : k4h x.1 x.2 bs = true := fit_nd rb g1
    have n5 : leI 0 ((stk.length : Int) - tkI bs x) = true := leI_t (by omega)
    have n6 : leI ((stk.length : Int) - tkI bs x) (stk.length : Int) = true := leI_t (by omega)
    have n7 : leN (stk.length - (tkI bs x).toNat) stk.length = true := leN_t (Nat.sub_le _ _)
    have n8 : leN (argI bs x stk).length 1048576 = true := leN_t (by omega)
    have n9 : leN ((rstI bs x stk).length + 1) 9223372036854775807 = true := leN_t (by have := k13h g2; omega)
    have n10 : leN (((rstI bs x stk).length + 1) * 8) 140737488355328 = true := leN_t (by have := k13h g2; omega)
    have z0 : leI (0 : Int) 0 = true := rfl
    have z1 : leI (0 : Int) 1 = true := rfl
    rcases hcs with ⟨e, q⟩ | ⟨e, q⟩ | ⟨e, q⟩ | e | e | e | ⟨e, q⟩ | ⟨e, q⟩ | ⟨e, q⟩ | ⟨e, q⟩ | ⟨e, q⟩
    · have gv := gv1 (by omega)
      have hd : kg x.1 x.2 bs (argI bs x stk) inp xs ss = true := by simp [kg, k1a, k1g, k1h, allT, e, z0, z1] <;> omega
      simp only [kt, km, e0, e1, e14, en, ear, ers, gv, hd, n1, n2, n3, n4, n5, n6, n7, n8, n9, n10, List.length_singleton, allT, beq_self_eq_true, Bool.not_true, Bool.false_or, Bool.true_or, Bool.or_true, cond_true, show ((0 : Int) == 1) = false from rfl, Bool.not_false]
    · have gv := gv1 (by omega)
      have r1 : leI 0 x.2 = true := leI_t (by omega)
      have r2 : ltI x.2 (inp.length : Int) = true := ltI_t (by omega)
      have r3 : ltN x.2.toNat inp.length = true := ltN_t (by omega)
      have hd : kg x.1 x.2 bs (argI bs x stk) inp xs ss = true := by simp [kg, k1a, k1g, k1h, allT, e, z0, z1, r1, r2, r3] <;> omega
      simp only [kt, km, e0, e1, e14, en, ear, ers, gv, hd, n1, n2, n3, n4, n5, n6, n7, n8, n9, n10, List.length_singleton, allT, beq_self_eq_true, Bool.not_true, Bool.false_or, Bool.true_or, Bool.or_true, cond_true, show ((0 : Int) == 1) = false from rfl, Bool.not_false]
    · have gv := gv1 (by omega)
      have r1 : leI 0 x.2 = true := leI_t (by omega)
      have r2 : ltI x.2 (xs.length : Int) = true := ltI_t (by omega)
      have r3 : ltN x.2.toNat xs.length = true := ltN_t (by omega)
      have hd : kg x.1 x.2 bs (argI bs x stk) inp xs ss = true := by simp [kg, k1a, k1g, k1h, allT, e, z0, z1, r1, r2, r3] <;> omega
      simp only [kt, km, e0, e1, e14, en, ear, ers, gv, hd, n1, n2, n3, n4, n5, n6, n7, n8, n9, n10, List.length_singleton, allT, beq_self_eq_true, Bool.not_true, Bool.false_or, Bool.true_or, Bool.or_true, cond_true, show ((0 : Int) == 1) = false from rfl, Bool.not_false]
    · have gv := gv1 (by omega)
      have tk := tk4 e
      have s1 : ltI 0 ((argI bs x stk).length : Int) = true := ltI_t (by omega)
      have s2 : ltN (Int.toNat 0) (argI bs x stk).length = true := ltN_t (by simp only [Int.toNat_zero]; omega)
      have hd : kg x.1 x.2 bs (argI bs x stk) inp xs ss = true := by simp [kg, k1a, k1g, k1h, allT, e, z0, z1, s1, s2] <;> omega
      simp only [kt, km, e0, e1, e14, en, ear, ers, gv, hd, n1, n2, n3, n4, n5, n6, n7, n8, n9, n10, List.length_singleton, allT, beq_self_eq_true, Bool.not_true, Bool.false_or, Bool.true_or, Bool.or_true, cond_true, show ((0 : Int) == 1) = false from rfl, Bool.not_false]
    · have gv := gv1 (by omega)
      have tk := tk5 e
      have s1 : ltI 0 ((argI bs x stk).length : Int) = true := ltI_t (by omega)
      have s2 : ltN (Int.toNat 0) (argI bs x stk).length = true := ltN_t (by simp only [Int.toNat_zero]; omega)
      have s3 : ltI 1 ((argI bs x stk).length : Int) = true := ltI_t (by omega)
      have s4 : ltN (Int.toNat 1) (argI bs x stk).length = true := ltN_t (by rw [show Int.toNat 1 = 1 from rfl]; omega)
      have hd : kg x.1 x.2 bs (argI bs x stk) inp xs ss = true := by simp [kg, k1a, k1g, k1h, allT, e, z0, z1, s1, s2, s3, s4] <;> omega
      simp only [kt, km, e0, e1, e14, en, ear, ers, gv, hd, n1, n2, n3, n4, n5, n6, n7, n8, n9, n10, List.length_singleton, allT, beq_self_eq_true, Bool.not_true, Bool.false_or, Bool.true_or, Bool.or_true, cond_true, show ((0 : Int) == 1) = false from rfl, Bool.not_false]
    · have gv := gv1 (by omega)
      have tk := tk6 e
      have s1 : ltI 0 ((argI bs x stk).length : Int) = true := ltI_t (by omega)
      have s2 : ltN (Int.toNat 0) (argI bs x stk).length = true := ltN_t (by simp only [Int.toNat_zero]; omega)
      have s3 : ltI 1 ((argI bs x stk).length : Int) = true := ltI_t (by omega)
      have s4 : ltN (Int.toNat 1) (argI bs x stk).length = true := ltN_t (by rw [show Int.toNat 1 = 1 from rfl]; omega)
      have hd : kg x.1 x.2 bs (argI bs x stk) inp xs ss = true := by simp [kg, k1a, k1g, k1h, allT, e, z0, z1, s1, s2, s3, s4] <;> omega
      simp only [kt, km, e0, e1, e14, en, ear, ers, gv, hd, n1, n2, n3, n4, n5, n6, n7, n8, n9, n10, List.length_singleton, allT, beq_self_eq_true, Bool.not_true, Bool.false_or, Bool.true_or, Bool.or_true, cond_true, show ((0 : Int) == 1) = false from rfl, Bool.not_false]
    · have gv := gv1 (by omega)
      have r1 : leI 0 x.2 = true := leI_t (by omega)
      have r2 : ltI x.2 (bs.length : Int) = true := ltI_t (by omega)
      have r3 : ltN x.2.toNat bs.length = true := ltN_t (by omega)
      have r4 : ltI x.2 (ss.length : Int) = true := ltI_t (by omega)
      have r5 : ltN x.2.toNat ss.length = true := ltN_t (by omega)
      have r6 := (h7 e q).2.2.2.2.1
      have hd : kg x.1 x.2 bs (argI bs x stk) inp xs ss = true := by simp [kg, k1a, k1g, k1h, allT, e, z0, z1, r1, r2, r3, r4, r5, r6] <;> omega
      simp only [kt, km, e0, e1, e14, en, ear, ers, gv, hd, n1, n2, n3, n4, n5, n6, n7, n8, n9, n10, List.length_singleton, allT, beq_self_eq_true, Bool.not_true, Bool.false_or, Bool.true_or, Bool.or_true, cond_true, show ((0 : Int) == 1) = false from rfl, Bool.not_false]
    · have gv := gv0 (by omega)
      have tk := tk8 e
      have s1 : ltI 0 ((argI bs x stk).length : Int) = true := ltI_t (by omega)
      have s2 : ltN (Int.toNat 0) (argI bs x stk).length = true := ltN_t (by simp only [Int.toNat_zero]; omega)
      have r1 : leI 0 x.2 = true := leI_t (by omega)
      have r2 : ltI x.2 (xs.length : Int) = true := ltI_t (by omega)
      have r3 : ltN x.2.toNat xs.length = true := ltN_t (by omega)
      have hd : k1b x.1 x.2 (argI bs x stk) inp xs os = true := by simp [k1b, allT, e, z0, z1, s1, s2, r1, r2, r3] <;> omega
      simp only [kt, km, e0, e1, e14, en, ear, ers, gv, hd, n1, n2, n3, n4, n5, n6, n7, n8, n9, n10, List.length_singleton, allT, beq_self_eq_true, Bool.not_true, Bool.false_or, Bool.true_or, Bool.or_true, cond_true, show ((0 : Int) == 1) = false from rfl, Bool.not_false]
    · have gv := gv0 (by omega)
      have tk := tk9 e
      have s1 : ltI 0 ((argI bs x stk).length : Int) = true := ltI_t (by omega)
      have s2 : ltN (Int.toNat 0) (argI bs x stk).length = true := ltN_t (by simp only [Int.toNat_zero]; omega)
      have r1 : leI 0 x.2 = true := leI_t (by omega)
      have r2 : ltI x.2 (os.length : Int) = true := ltI_t (by omega)
      have r3 : ltN x.2.toNat os.length = true := ltN_t (by omega)
      have hd : k1b x.1 x.2 (argI bs x stk) inp xs os = true := by simp [k1b, allT, e, z0, z1, s1, s2, r1, r2, r3] <;> omega
      simp only [kt, km, e0, e1, e14, en, ear, ers, gv, hd, n1, n2, n3, n4, n5, n6, n7, n8, n9, n10, List.length_singleton, allT, beq_self_eq_true, Bool.not_true, Bool.false_or, Bool.true_or, Bool.or_true, cond_true, show ((0 : Int) == 1) = false from rfl, Bool.not_false]
    · have gv := gv0 (by omega)
      have r1 : leI 0 x.2 = true := leI_t (by omega)
      have r2 : ltI x.2 (inp.length : Int) = true := ltI_t (by omega)
      have r3 : ltN x.2.toNat inp.length = true := ltN_t (by omega)
      have hd : k1b x.1 x.2 (argI bs x stk) inp xs os = true := by simp [k1b, allT, e, z0, z1, r1, r2, r3] <;> omega
      simp only [kt, km, e0, e1, e14, en, ear, ers, gv, hd, n1, n2, n3, n4, n5, n6, n7, n8, n9, n10, List.length_singleton, allT, beq_self_eq_true, Bool.not_true, Bool.false_or, Bool.true_or, Bool.or_true, cond_true, show ((0 : Int) == 1) = false from rfl, Bool.not_false]
    · have gv := gv0 (by omega)
      have r1 : leI 0 x.2 = true := leI_t (by omega)
      have r2 : ltI x.2 (xs.length : Int) = true := ltI_t (by omega)
      have r3 : ltN x.2.toNat xs.length = true := ltN_t (by omega)
      have hd : k1b x.1 x.2 (argI bs x stk) inp xs os = true := by simp [k1b, allT, e, z0, z1, r1, r2, r3] <;> omega
      simp only [kt, km, e0, e1, e14, en, ear, ers, gv, hd, n1, n2, n3, n4, n5, n6, n7, n8, n9, n10, List.length_singleton, allT, beq_self_eq_true, Bool.not_true, Bool.false_or, Bool.true_or, Bool.or_true, cond_true, show ((0 : Int) == 1) = false from rfl, Bool.not_false]

end Go.SX

namespace Go.SX
open Go.Proofs
set_option maxRecDepth 100000

abbrev k1j := Int × Int × Int × Int × List Int × List Int × List Int × List Int × List (Int × (Int × Int)) × List (Int × (ByteArray × Int)) × List (Int × Int)

def k5z (y0 : Int) (y10 : List (Int × Int)) : Bool :=
  ltI y0 (kb0 y10)

def kaj (y0 : Int) (y4 : List Int) (y5 : List Int) (y6 : List Int) (y7 : List Int) (y8 : List (Int × (Int × Int))) (y9 : List (Int × (ByteArray × Int))) (y10 : List (Int × Int)) : Bool :=
  kt y0 y9 y10 y4 y5 y6 y7 y8

def kav (y0 : Int) (y10 : List (Int × Int)) : Int :=
  k52 y0 y10

def kak (y0 : Int) (y4 : List Int) (y5 : List Int) (y6 : List Int) (y8 : List (Int × (Int × Int))) (y9 : List (Int × (ByteArray × Int))) (y10 : List (Int × Int)) : List Int :=
  k55 y0 y9 y10 y4 y5 y6 y8

def kax (y0 : Int) (y5 : List Int) (y6 : List Int) (y9 : List (Int × (ByteArray × Int))) (y10 : List (Int × Int)) : List Int :=
  k50 y0 y9 y10 y5 y6

def kar (y0 : Int) (y4 : List Int) (y5 : List Int) (y6 : List Int) (y7 : List Int) (y9 : List (Int × (ByteArray × Int))) (y10 : List (Int × Int)) : List Int :=
  k4y y0 y9 y10 y4 y5 y6 y7

def kal (y0 : Int) (y5 : List Int) (y8 : List (Int × (Int × Int))) (y9 : List (Int × (ByteArray × Int))) (y10 : List (Int × Int)) : List (Int × (Int × Int)) :=
  k56 y0 y9 y10 y5 y8

def kh4 : k1j → List (Nat × SV)
  | (_, _, _, _, _, _, _, _, _, _, _) => [(0, (.one ⟨false, [(.ptr 0 0)]⟩)), (4, (.one ⟨false, [(.ptr 1 0)]⟩)), (2, (.one ⟨false, [(.ref 2)]⟩))]

def kgu : k1j → List (Nat × Entry)
  | (y0, y1, y2, y3, y4, y5, y6, y7, y8, y9, y10) => [(0, (.box 77 [(.val (.int IntKind.i64 y0)), (.ref 3), (.ref 4), (.ref 5), (.ref 6)])), (1, (.box 34 [(.val (.int IntKind.i64 y1)), (.val (.int IntKind.i64 y2)), (.val (.int IntKind.i64 y3)), (.ref 7), (.ref 8)])), (2, (.row false 2 (CTy.int IntKind.i64) y4)), (4, (.row true 2 (CTy.int IntKind.i64) y6)), (5, (.row true 2 (CTy.int IntKind.i64) y7)), (6, (.row true 172 (CTy.pair (CTy.int IntKind.i64) (CTy.pair (CTy.int IntKind.i64) (CTy.int IntKind.i64))) y8)), (7, (.row false 178 (CTy.pair (CTy.int IntKind.i64) (CTy.pair CTy.str (CTy.int IntKind.i64))) y9)), (8, (.row false 150 (CTy.pair (CTy.int IntKind.i64) (CTy.int IntKind.i64)) y10)), (3, (.row true 2 (CTy.int IntKind.i64) y5))]

def khe : Nat → k1j → List (Nat × SV)
  | _, (_, _, _, _, _, _, _, _, _, _, _) => []

def kgq : Nat → k1j → List (Nat × Entry)
  | _, (y0, y1, y2, y3, y4, y5, y6, y7, y8, y9, y10) => [(0, (.box 77 [(.val (.int IntKind.i64 y0)), (.ref 3), (.ref 4), (.ref 5), (.ref 6)])), (1, (.box 34 [(.val (.int IntKind.i64 y1)), (.val (.int IntKind.i64 y2)), (.val (.int IntKind.i64 y3)), (.ref 7), (.ref 8)])), (2, (.row false 2 (CTy.int IntKind.i64) y4)), (3, (.row true 2 (CTy.int IntKind.i64) y5)), (4, (.row true 2 (CTy.int IntKind.i64) y6)), (5, (.row true 2 (CTy.int IntKind.i64) y7)), (6, (.row true 172 (CTy.pair (CTy.int IntKind.i64) (CTy.pair (CTy.int IntKind.i64) (CTy.int IntKind.i64))) y8)), (7, (.row false 178 (CTy.pair (CTy.int IntKind.i64) (CTy.pair CTy.str (CTy.int IntKind.i64))) y9)), (8, (.row false 150 (CTy.pair (CTy.int IntKind.i64) (CTy.int IntKind.i64)) y10))]

def k5v : k1j → LT k1j
  | (y0, y1, y2, y3, y4, y5, y6, y7, y8, y9, y10) => .ite (k5z y0 y10) (.need [(kaj y0 y4 y5 y6 y7 y8 y9 y10)] (.nrm ((kav y0 y10), y1, y2, y3, y4, (kak y0 y4 y5 y6 y8 y9 y10), (kax y0 y5 y6 y9 y10), (kar y0 y4 y5 y6 y7 y9 y10), (kal y0 y5 y8 y9 y10), y9, y10) [(0, 0), (1, 1), (2, 2), (3, 768), (4, 4), (5, 5), (6, 6), (7, 7), (8, 8)])) (.ext 0 [(0, 0), (1, 1), (2, 2), (3, 3), (4, 4), (5, 5), (6, 6), (7, 7), (8, 8)])

def k5p (s : St) : Option k1j :=
  (match s.look 0 with
  | some ⟨none, (.one ⟨false, [(.ptr 0 0)]⟩)⟩ =>
  (match s.look 4 with
  | some ⟨none, (.one ⟨false, [(.ptr 576 0)]⟩)⟩ =>
  (match s.look 2 with
  | some ⟨none, (.one ⟨false, [(.ref 3)]⟩)⟩ =>
  (match s.ent 0 with
  | some (.box 77 [(.val (.int IntKind.i64 y0)), (.ref 4), (.ref 5), (.ref 6), (.ref 7)]) =>
  (match s.ent 576 with
  | some (.box 34 [(.val (.int IntKind.i64 y1)), (.val (.int IntKind.i64 y2)), (.val (.int IntKind.i64 y3)), (.ref 1), (.ref 2)]) =>
  (match s.ent 3 with
  | some (.row false 2 (CTy.int IntKind.i64) y4) =>
  (match s.ent 5 with
  | some (.row true 2 (CTy.int IntKind.i64) y6) =>
  (match s.ent 6 with
  | some (.row true 2 (CTy.int IntKind.i64) y7) =>
  (match s.ent 7 with
  | some (.row true 172 (CTy.pair (CTy.int IntKind.i64) (CTy.pair (CTy.int IntKind.i64) (CTy.int IntKind.i64))) y8) =>
  (match s.ent 1 with
  | some (.row false 178 (CTy.pair (CTy.int IntKind.i64) (CTy.pair CTy.str (CTy.int IntKind.i64))) y9) =>
  (match s.ent 2 with
  | some (.row false 150 (CTy.pair (CTy.int IntKind.i64) (CTy.int IntKind.i64)) y10) =>
  (match s.ent 4 with
  | some (.row true 2 (CTy.int IntKind.i64) y5) =>
  some (y0, y1, y2, y3, y4, y5, y6, y7, y8, y9, y10)
  | _ => none)
  | _ => none)
  | _ => none)
  | _ => none)
  | _ => none)
  | _ => none)
  | _ => none)
  | _ => none)
  | _ => none)
  | _ => none)
  | _ => none)
  | _ => none)

def k14 : Lp k1j where
  h := ⟨[6, 7, 8, 9, 10, 11, 12, 13, 14, 15, 16, 17], [0, 1, 2, 4, 5, 6, 7, 8], [3], []⟩
  JL := kh4
  JE := kgu
  XL := khe
  XE := kgq
  q := fun j => match j with | _ => .exit 0
  tags := [0]
  lt := k5v
  fuel := fun (y0, y1, y2, y3, y4, y5, y6, y7, y8, y9, y10) => y0.natAbs + y1.natAbs + y2.natAbs + y3.natAbs + y4.length + y5.length + y6.length + y7.length + y8.length + y9.length + y10.length
  fix := fun (_, y1, y2, y3, y4, _, _, _, _, y9, y10) (y0, _, _, _, _, y5, y6, y7, y8, _, _) => (y0, y1, y2, y3, y4, y5, y6, y7, y8, y9, y10)
  σ := [(0, 0), (1, 576), (2, 3), (4, 5), (5, 6), (6, 7), (7, 1), (8, 2), (3, 4)]
  rd := k5p

theorem kfz : LoopOk Tryz.prog (fun k => Nat.blt k Tryz.f128.ntmps) k14.F (loopAt Tryz.f128 0) := by
  refine Lp.ok (tbl := [kaz, PF.lend kaz, kcb]) (lf := []) hmix k14 (by kernel_rfl) (LOk.nil _) (fun _ => rfl) (fun _ _ => rfl) ?_ ?_ ?_ ?_ (fun _ => rfl) ?_
  · intro x; obtain ⟨y0, y1, y2, y3, y4, y5, y6, y7, y8, y9, y10⟩ := x; kernel_rfl
  · intro x; obtain ⟨y0, y1, y2, y3, y4, y5, y6, y7, y8, y9, y10⟩ := x; kernel_rfl
  · intro s x h
    have h : k5p s = some x := h
    unfold k5p at h
    repeat' split at h
    all_goals cases h
    exact ⟨absS_cons (by assumption) rfl (absS_cons (by assumption) rfl (absS_cons (by assumption) rfl (rfl))), absE_cons rfl (by assumption) rfl (absE_cons rfl (by assumption) rfl (absE_cons rfl (by assumption) rfl (absE_cons rfl (by assumption) rfl (absE_cons rfl (by assumption) rfl (absE_cons rfl (by assumption) rfl (absE_cons rfl (by assumption) rfl (absE_cons rfl (by assumption) rfl (absE_cons rfl (by assumption) rfl (rfl)))))))))⟩
  · intro x; obtain ⟨y0, y1, y2, y3, y4, y5, y6, y7, y8, y9, y10⟩ := x; kernel_rfl
  · intro x z; obtain ⟨y0, y1, y2, y3, y4, y5, y6, y7, y8, y9, y10⟩ := x; exact (And.intro rfl trivial)

def k41 (x0 : Int) (x1 : Int) (x2 : Int) (x3 : Int) (x4 : List (Int × ByteArray × Int)) (x5 : List (Int × Int)) (x6 : List Int) (x7 : List Int) (x8 : List Int) (x9 : List Int) (x10 : List (Int × Int × Int)) : Int × Int × Int × Int × List Int × List Int × List Int × List Int × List (Int × Int × Int) × List (Int × ByteArray × Int) × List (Int × Int) :=
  (x3, x0, x1, x2, x6, x7, x8, x9, x10, x4, x5)

def k6r (x0 : Int) (x1 : Int) (x2 : Int) (x3 : Int) (x4 : List (Int × ByteArray × Int)) (x5 : List (Int × Int)) (x6 : List Int) (x7 : List Int) (x8 : List Int) (x9 : List Int) (x10 : List (Int × Int × Int)) : List Int × List Int × List Int × List (Int × Int × Int) × List (Int × ByteArray × Int) × List (Int × Int) :=
  Prod.snd
  (Prod.snd
    (Prod.snd
      (Prod.snd
        (Prod.snd
          (Prod.snd
            (Lp.res k14
              (k41 x0 x1 x2 x3 x4 x5 x6 x7 x8 x9 x10)))))))

def k6t (x0 : Int) (x1 : Int) (x2 : Int) (x3 : Int) (x4 : List (Int × ByteArray × Int)) (x5 : List (Int × Int)) (x6 : List Int) (x7 : List Int) (x8 : List Int) (x9 : List Int) (x10 : List (Int × Int × Int)) : List Int × List Int × List (Int × Int × Int) × List (Int × ByteArray × Int) × List (Int × Int) :=
  Prod.snd (k6r x0 x1 x2 x3 x4 x5 x6 x7 x8 x9 x10)

def k6o (x0 : Int) (x1 : Int) (x2 : Int) (x3 : Int) (x4 : List (Int × ByteArray × Int)) (x5 : List (Int × Int)) (x6 : List Int) (x7 : List Int) (x8 : List Int) (x9 : List Int) (x10 : List (Int × Int × Int)) : List Int × List (Int × Int × Int) × List (Int × ByteArray × Int) × List (Int × Int) :=
  Prod.snd (k6t x0 x1 x2 x3 x4 x5 x6 x7 x8 x9 x10)

def k7a (x0 : Int) (x1 : Int) (x2 : Int) (x3 : Int) (x4 : List (Int × ByteArray × Int)) (x5 : List (Int × Int)) (x6 : List Int) (x7 : List Int) (x8 : List Int) (x9 : List Int) (x10 : List (Int × Int × Int)) : Int :=
  Prod.fst
  (Prod.snd
    (Lp.res k14 (k41 x0 x1 x2 x3 x4 x5 x6 x7 x8 x9 x10)))

def k48 (x0 : Int) (x1 : Int) (x2 : Int) (x3 : Int) (x4 : List (Int × ByteArray × Int)) (x5 : List (Int × Int)) (x6 : List Int) (x7 : List Int) (x8 : List Int) (x9 : List Int) (x10 : List (Int × Int × Int)) : List Int :=
  Prod.fst (k6t x0 x1 x2 x3 x4 x5 x6 x7 x8 x9 x10)

def k49 (x0 : Int) (x1 : Int) (x2 : Int) (x3 : Int) (x4 : List (Int × ByteArray × Int)) (x5 : List (Int × Int)) (x6 : List Int) (x7 : List Int) (x8 : List Int) (x9 : List Int) (x10 : List (Int × Int × Int)) : List Int :=
  Prod.fst (k6o x0 x1 x2 x3 x4 x5 x6 x7 x8 x9 x10)

def k47 (x0 : Int) (x1 : Int) (x2 : Int) (x3 : Int) (x4 : List (Int × ByteArray × Int)) (x5 : List (Int × Int)) (x6 : List Int) (x7 : List Int) (x8 : List Int) (x9 : List Int) (x10 : List (Int × Int × Int)) : List (Int × (Int × Int)) :=
  Prod.fst (Prod.snd (k6o x0 x1 x2 x3 x4 x5 x6 x7 x8 x9 x10))

def k7b (x0 : Int) (x1 : Int) (x2 : Int) (x3 : Int) (x4 : List (Int × ByteArray × Int)) (x5 : List (Int × Int)) (x6 : List Int) (x7 : List Int) (x8 : List Int) (x9 : List Int) (x10 : List (Int × Int × Int)) : List Int :=
  Prod.fst (k6r x0 x1 x2 x3 x4 x5 x6 x7 x8 x9 x10)

def k46 (x0 : Int) (x1 : Int) (x2 : Int) (x3 : Int) (x4 : List (Int × ByteArray × Int)) (x5 : List (Int × Int)) (x6 : List Int) (x7 : List Int) (x8 : List Int) (x9 : List Int) (x10 : List (Int × Int × Int)) : Bool :=
  allT [Lp.fin k14 (k41 x0 x1 x2 x3 x4 x5 x6 x7 x8 x9 x10)]

def kbf : List SV → List Entry → Option Out
  | [.one ⟨false, [.ptr 0 0]⟩, .one ⟨true, [.val (.int .i64 x0), .val (.int .i64 x1), .val (.int .i64 x2), .ref 1, .ref 2]⟩, .one ⟨false, [.ref 3]⟩], [.box 77 [.val (.int .i64 x3), .ref 4, .ref 5, .ref 6, .ref 7], .row false 178 (.pair (.int .i64) (.pair .str (.int .i64))) x4, .row false 150 (.pair (.int .i64) (.int .i64)) x5, .row false 2 (.int .i64) x6, .row true 2 (.int .i64) x7, .row true 2 (.int .i64) x8, .row true 2 (.int .i64) x9, .row true 172 (.pair (.int .i64) (.pair (.int .i64) (.int .i64))) x10] => some ⟨(.tup []), [(.box 77 [(.val (.int IntKind.i64 (k7a x0 x1 x2 x3 x4 x5 x6 x7 x8 x9 x10))), (.ref 8), (.ref 5), (.ref 6), (.ref 7)]), (.row false 178 (CTy.pair (CTy.int IntKind.i64) (CTy.pair CTy.str (CTy.int IntKind.i64))) x4), (.row false 150 (CTy.pair (CTy.int IntKind.i64) (CTy.int IntKind.i64)) x5), (.row false 2 (CTy.int IntKind.i64) x6), .gone, (.row true 2 (CTy.int IntKind.i64) (k48 x0 x1 x2 x3 x4 x5 x6 x7 x8 x9 x10)), (.row true 2 (CTy.int IntKind.i64) (k49 x0 x1 x2 x3 x4 x5 x6 x7 x8 x9 x10)), (.row true 172 (CTy.pair (CTy.int IntKind.i64) (CTy.pair (CTy.int IntKind.i64) (CTy.int IntKind.i64))) (k47 x0 x1 x2 x3 x4 x5 x6 x7 x8 x9 x10))], [(.row true 2 (CTy.int IntKind.i64) (k7b x0 x1 x2 x3 x4 x5 x6 x7 x8 x9 x10))], [(k46 x0 x1 x2 x3 x4 x5 x6 x7 x8 x9 x10)]⟩
  | _, _ => none

def kix : PF Tryz.prog := PF.ofG Tryz.prog [kaz, PF.lend kaz, kcb] [k14.F] hmix 128 Tryz.f128 Tryz.func128 (LOk.fnT (l := [loopAt Tryz.f128 0]) (by kernel_rfl) (.cons kfz (.nil _))) kbf (by
  intro vs es r h; unfold kbf at h; split at h
  · cases h; kernel_rfl
  · cases h)

def k9n (x0 : List Int) (x1 : List (Int × Int × Int)) : Bool :=
  allT [leN (List.length x0) (1048576 : Nat), leN (List.length x1) (1048576 : Nat)]

def kds : List SV → List Entry → Option Out
  | [.one ⟨true, [.ref 0, .ref 1]⟩], [.row false 2 (.int .i64) x0, .row false 172 (.pair (.int .i64) (.pair (.int .i64) (.int .i64))) x1] => some ⟨(.one ⟨true, [(.ref 2), (.ref 3)]⟩), [(.row false 2 (CTy.int IntKind.i64) x0), (.row false 172 (CTy.pair (CTy.int IntKind.i64) (CTy.pair (CTy.int IntKind.i64) (CTy.int IntKind.i64))) x1)], [(.row true 2 (CTy.int IntKind.i64) x0), (.row true 172 (CTy.pair (CTy.int IntKind.i64) (CTy.pair (CTy.int IntKind.i64) (CTy.int IntKind.i64))) x1)], [(k9n x0 x1)]⟩
  | _, _ => none

def k9l : PF Tryz.prog := PF.ofG Tryz.prog [k8c, PF.lend k8c, PF.fz k8c, ke1, PF.lend ke1, PF.fz ke1] [] hmix 176 Tryz.f176 Tryz.func176 (fun c _ => LOk.nil c) kds (by
  intro vs es r h; unfold kds at h; split at h
  · cases h; kernel_rfl
  · cases h)

def kpm  : List Int :=
  []

def kpw (x2 : Int) : List Int :=
  List.replicate (Int.toNat x2) (0 : Int)

def kxy (x2 : Int) (x5 : List Int) (x6 : List (Int × Int × Int)) : Bool :=
  allT
  [k9n x5 x6, leI (0 : Int) x2, leI x2 x2, leI ((↑(8 : Nat) : Int) * x2) (281474976710656 : Int),
    leI x2 (9223372036854775807 : Int)]

def k12q : List SV → List Entry → Option Out
  | [.one ⟨true, [.val (.int .i64 _x0), .val (.int .i64 _x1), .val (.int .i64 x2), .ref 0, .ref 1]⟩, .one ⟨true, [.ref 2, .ref 3]⟩], [.row false 178 (.pair (.int .i64) (.pair (.str) (.int .i64))) x3, .row false 150 (.pair (.int .i64) (.int .i64)) x4, .row false 2 (.int .i64) x5, .row false 172 (.pair (.int .i64) (.pair (.int .i64) (.int .i64))) x6] => some ⟨(.one ⟨true, [(.val (.int IntKind.i64 (0 : Int))), (.ref 4), (.ref 5), (.ref 6), (.ref 7)]⟩), [(.row false 178 (CTy.pair (CTy.int IntKind.i64) (CTy.pair CTy.str (CTy.int IntKind.i64))) x3), (.row false 150 (CTy.pair (CTy.int IntKind.i64) (CTy.int IntKind.i64)) x4), (.row false 2 (CTy.int IntKind.i64) x5), (.row false 172 (CTy.pair (CTy.int IntKind.i64) (CTy.pair (CTy.int IntKind.i64) (CTy.int IntKind.i64))) x6)], [(.row true 2 (CTy.int IntKind.i64) (kpm)), (.row true 2 (CTy.int IntKind.i64) x5), (.row true 2 (CTy.int IntKind.i64) (kpw x2)), (.row true 172 (CTy.pair (CTy.int IntKind.i64) (CTy.pair (CTy.int IntKind.i64) (CTy.int IntKind.i64))) x6)], [(kxy x2 x5 x6)]⟩
  | _, _ => none

def kym : PF Tryz.prog := PF.ofG Tryz.prog [k9l, PF.lend k9l, PF.fz k9l] [] hmix 146 Tryz.f146 Tryz.func146 (fun c _ => LOk.nil c) k12q (by
  intro vs es r h; unfold k12q at h; split at h
  · cases h; kernel_rfl
  · cases h)

def ktb (x0 : Int) (x1 : Int) (x2 : Int) (x3 : List (Int × ByteArray × Int)) (x4 : List (Int × Int)) (x5 : List Int) (x6 : List (Int × Int × Int)) (x7 : List Int) : List Int :=
  k49 x0 x1 x2 (0 : Int) x3 x4 x7 kpm x5 (kpw x2) x6

def kt0 (x0 : Int) (x1 : Int) (x2 : Int) (x3 : List (Int × ByteArray × Int)) (x4 : List (Int × Int)) (x5 : List Int) (x6 : List (Int × Int × Int)) (x7 : List Int) : List Int :=
  k48 x0 x1 x2 (0 : Int) x3 x4 x7 kpm x5 (kpw x2) x6

def kt8 (x0 : Int) (x1 : Int) (x2 : Int) (x3 : List (Int × ByteArray × Int)) (x4 : List (Int × Int)) (x5 : List Int) (x6 : List (Int × Int × Int)) (x7 : List Int) : List (Int × (Int × Int)) :=
  k47 x0 x1 x2 (0 : Int) x3 x4 x7 kpm x5 (kpw x2) x6

def kss (x0 : Int) (x1 : Int) (x2 : Int) (x3 : List (Int × ByteArray × Int)) (x4 : List (Int × Int)) (x5 : List Int) (x6 : List (Int × Int × Int)) (x7 : List Int) : Bool :=
  allT [kxy x2 x5 x6, k46 x0 x1 x2 (0 : Int) x3 x4 x7 kpm x5 (kpw x2) x6]

def kxo : List SV → List Entry → Option Out
  | [.one ⟨true, [.val (.int .i64 x0), .val (.int .i64 x1), .val (.int .i64 x2), .ref 0, .ref 1]⟩, .one ⟨true, [.ref 2, .ref 3]⟩, .one ⟨false, [.ref 4]⟩], [.row false 178 (.pair (.int .i64) (.pair (.str) (.int .i64))) x3, .row false 150 (.pair (.int .i64) (.int .i64)) x4, .row false 2 (.int .i64) x5, .row false 172 (.pair (.int .i64) (.pair (.int .i64) (.int .i64))) x6, .row false 2 (.int .i64) x7] => some ⟨(.tup [⟨false, [(.ref 5)]⟩, ⟨true, [(.ref 6), (.ref 7)]⟩]), [(.row false 178 (CTy.pair (CTy.int IntKind.i64) (CTy.pair CTy.str (CTy.int IntKind.i64))) x3), (.row false 150 (CTy.pair (CTy.int IntKind.i64) (CTy.int IntKind.i64)) x4), (.row false 2 (CTy.int IntKind.i64) x5), (.row false 172 (CTy.pair (CTy.int IntKind.i64) (CTy.pair (CTy.int IntKind.i64) (CTy.int IntKind.i64))) x6), (.row false 2 (CTy.int IntKind.i64) x7)], [(.row true 2 (CTy.int IntKind.i64) (ktb x0 x1 x2 x3 x4 x5 x6 x7)), (.row true 2 (CTy.int IntKind.i64) (kt0 x0 x1 x2 x3 x4 x5 x6 x7)), (.row true 172 (CTy.pair (CTy.int IntKind.i64) (CTy.pair (CTy.int IntKind.i64) (CTy.int IntKind.i64))) (kt8 x0 x1 x2 x3 x4 x5 x6 x7))], [(kss x0 x1 x2 x3 x4 x5 x6 x7)]⟩
  | _, _ => none

def k135 : PF Tryz.prog := PF.ofG Tryz.prog [kix, kym, PF.lend kym, PF.fz kym] [] hmix 95 Tryz.f95 Tryz.func95 (fun c _ => LOk.nil c) kxo (by
  intro vs es r h; unfold kxo at h; split at h
  · cases h; kernel_rfl
  · cases h)

end Go.SX

namespace Go.SX
open Go.Proofs
set_option maxRecDepth 100000

abbrev MS := Int × List Int × List Int × List Int × List BS3
def insAt (st : List IN) (k : Int) : IN := Option.getD st[k.toNat]? ((0 : Int), (0 : Int))
def stpM (bs : List TM) (st : List IN) (inp : List Int) : MS → MS
  | (k, stk, xs, os, ss) => (k + 1, stkM bs inp (insAt st k) stk xs ss, vlsM bs (insAt st k) stk xs, outM bs inp (insAt st k) stk xs os, blkM bs (insAt st k) stk ss)
def finM (bs : List TM) (st : List IN) (inp : List Int) : Nat → MS → MS
  | 0, m => m
  | n + 1, m => finM bs st inp n (stpM bs st inp m)

def OkS (i v o : Int) (bs : List TM) (st : List IN) (m : MS) : Prop := OkM i v o bs st m.1 m.2.1 m.2.2.1 m.2.2.2.1 m.2.2.2.2

theorem stp_ok {i v o : Int} {bs : List TM} {st : List IN} {inp : List Int} {m : MS} (hC : codeB i v o bs st = true) (hin : bitsB i inp = true) (h : OkS i v o bs st m) (hlt : m.1 < st.length) :
    OkS i v o bs st (stpM bs st inp m) ∧ st[m.1.toNat]? = some (insAt st m.1) := by
  obtain ⟨k, stk, xs, os, ss⟩ := m
  have h0 := h.lo
  simp only at h0 hlt
  have hk : k.toNat < st.length := by omega
  have hx : st[k.toNat]? = some (insAt st k) := by simp only [insAt, List.getElem?_eq_getElem hk]; rfl
  exact ⟨(k15c hC hin h hlt hx).2.2.2.2.2, hx⟩

/-- A loop that steps a machine to its end. -/
theorem k165 {X : Type} (p : Lp X) (enc : MS → X) {i v o : Int} {bs : List TM} {st : List IN} {inp : List Int} (hC : codeB i v o bs st = true) (hin : bitsB i inp = true)
    (h1 : ∀ m : MS, OkS i v o bs st m → m.1 < st.length → (p.lt (enc m)).out = some (.inr (enc (stpM bs st inp m)))) (h2 : ∀ m : MS, m.1 = st.length → (p.lt (enc m)).out = some (.inl 0))
    (hf : ∀ m, st.length ≤ p.fuel (enc m)) (m : MS) (hm : OkS i v o bs st m) :
    p.fin (enc m) = true ∧ p.res (enc m) = (0, enc (finM bs st inp (st.length - m.1.toNat) m)) ∧ OkS i v o bs st (finM bs st inp (st.length - m.1.toNat) m) := by
  have key : ∀ (n : Nat) (m : MS), OkS i v o bs st m → st.length - m.1.toNat = n → runL p.lt (n + 1) (enc m) = some (0, enc (finM bs st inp n m)) ∧ OkS i v o bs st (finM bs st inp n m) := by
    intro n
    induction n with
    | zero =>
      intro m hm hn
      have := hm.lo
      have := hm.hi
      exact ⟨runL_end _ (h2 m (by omega)), hm⟩
    | succ n ih =>
      intro m hm hn
      have h0 := hm.lo
      have hlt : m.1 < st.length := by omega
      have hs := (stp_ok hC hin hm hlt).1
      have he : (stpM bs st inp m).1 = m.1 + 1 := rfl
      obtain ⟨r1, r2⟩ := ih _ hs (by rw [he]; omega)
      exact ⟨by rw [runL_next _ (h1 m hm hlt)]; exact r1, r2⟩
  obtain ⟨r1, r2⟩ := key _ m hm rfl
  obtain ⟨q1, q2⟩ := p.run r1 (le_big (by have := hf m; omega))
  exact ⟨q1, q2, r2⟩

/-- The height at a place. -/
def hAt (i v o : Int) (bs : List TM) (st : List IN) (k : Int) : Int := bif ltI 0 k then atZ (hgtL i v o bs st) (k - 1) else 0
/-- A machine that is possible for a code. -/
def mchB (i v o : Int) (bs : List TM) (st : List IN) (k : Int) (stk xs os : List Int) (ss : List BS3) : Bool :=
  inR k 0 st.length && (bitsB (hAt i v o bs st k) stk && (bitsB o os && suitB v bs xs ss))

theorem k13u {v : Int} {bs : List TM} {xs : List Int} {ss : List BS3} : suitB v bs xs ss = true ↔ ss.length = bs.length ∧ bitsB v xs = true ∧ ∀ k, k < bs.length → possAt bs ss k = true := by
  simp only [suitB, Bool.and_eq_true, beq_iff_eq, List.all_eq_true, List.mem_range]
  constructor
  · rintro ⟨h1, h2, h3⟩; exact ⟨by omega, h2, h3⟩
  · rintro ⟨h1, h2, h3⟩; exact ⟨by omega, h2, h3⟩

theorem mch_ok {i v o : Int} {bs : List TM} {st : List IN} {k : Int} {stk xs os : List Int} {ss : List BS3} (hC : codeB i v o bs st = true) (h : mchB i v o bs st k stk xs os ss = true) : OkM i v o bs st k stk xs os ss := by
  simp only [mchB, Bool.and_eq_true, krj] at h
  obtain ⟨⟨k0, k1⟩, h2, h3, h4⟩ := h
  obtain ⟨s1, s2, s3⟩ := k13u.1 h4
  simp only [codeB, Bool.and_eq_true] at hC
  obtain ⟨b1, b2⟩ := k9w.1 h2
  refine ⟨k0, k1, ?_, b1, s2, h3, s1, s3⟩
  obtain ⟨n, L, g1, g2, g3, g4⟩ := k169 hC.2.2 k.toNat (by omega)
  refine ⟨L, ?_⟩
  rw [g1, b2]
  by_cases hk : 0 < k
  · have := g4 (by omega)
    have ht : ltI 0 k = true := ltI_t hk
    simp only [hAt, ht, cond_true]
    rw [show ((k.toNat : Int) - 1) = k - 1 by omega] at this
    rw [this]
  · have ht : ltI 0 k = false := ltI_f (by omega)
    simp only [hAt, ht, cond_false]
    rw [g3 (by omega)]

/-- The lengths of a possible machine. -/
theorem ok_len {i v o : Int} {bs : List TM} {st : List IN} {m : MS} (hC : codeB i v o bs st = true) (h : OkS i v o bs st m) : m.2.1.length ≤ 40 ∧ m.2.2.1.length ≤ 20 ∧ m.2.2.2.1.length ≤ 20 ∧ m.2.2.2.2.length ≤ 2000 := by
  obtain ⟨k, stk, xs, os, ss⟩ := m
  simp only [codeB, Bool.and_eq_true] at hC
  obtain ⟨ri, rv, ro, rb, rs⟩ := kw7.1 hC.1
  obtain ⟨L, hL⟩ := h.hg
  have h2 := k14q _ _ _ _ _ (by omega) hL
  have hxl := (k9w.1 h.vl).2
  have hol := (k9w.1 h.ou).2
  have hsl := h.sl
  simp only at h2 hxl hol hsl ⊢
  omega

def fnM (bs : List TM) (st : List IN) (inp : List Int) (k : Int) (stk xs os : List Int) (ss : List BS3) : MS := finM bs st inp (st.length - k.toNat) (k, stk, xs, os, ss)
def runNd (i v o : Int) (bs : List TM) (st : List IN) (inp : List Int) (k : Int) (stk xs os : List Int) (ss : List BS3) : Bool := codeB i v o bs st && (bitsB i inp && mchB i v o bs st k stk xs os ss)

theorem implFin (i v o : Int) (bs : List TM) (st : List IN) (inp : List Int) (k : Int) (stk xs os : List Int) (ss : List BS3) (h : runNd i v o bs st inp k stk xs os ss = true) :
    k7a i v o k bs st inp stk xs os ss = (fnM bs st inp k stk xs os ss).1 ∧ k48 i v o k bs st inp stk xs os ss = (fnM bs st inp k stk xs os ss).2.2.1 ∧
    k49 i v o k bs st inp stk xs os ss = (fnM bs st inp k stk xs os ss).2.2.2.1 ∧ k47 i v o k bs st inp stk xs os ss = (fnM bs st inp k stk xs os ss).2.2.2.2 ∧
    k7b i v o k bs st inp stk xs os ss = (fnM bs st inp k stk xs os ss).2.1 ∧ k46 i v o k bs st inp stk xs os ss = true := by
  simp only [runNd, Bool.and_eq_true] at h
  obtain ⟨hC, hin, hm⟩ := h
  have hm := mch_ok hC hm
  obtain ⟨f1, f2, _⟩ := k165 k14 (fun m => (m.1, i, v, o, inp, m.2.1, m.2.2.1, m.2.2.2.1, m.2.2.2.2, bs, st)) hC hin
    (fun m hm hlt => by
      obtain ⟨k, stk, xs, os, ss⟩ := m
      obtain ⟨_, hx⟩ := stp_ok hC hin hm hlt
      obtain ⟨e0, e4, e1, e2, e3, e5⟩ := implStep hC hin hm hlt hx
      simp only at hlt e0 e1 e2 e3 e4 e5
      have t1 : ltI k (st.length : Int) = true := ltI_t hlt
      simp only [k14, k5v, LT.out, k5z, kaj, kav, kak, kax, kar, kal, kb0, t1, e0, e1, e2, e3, e4, e5, stpM, allT]
      rfl)
    (fun m hk => by
      obtain ⟨k, stk, xs, os, ss⟩ := m
      simp only at hk
      have t1 : ltI k (st.length : Int) = false := ltI_f (by omega)
      simp only [k14, k5v, LT.out, k5z, kb0, t1, cond_false])
    (fun m => by simp only [k14]; omega) (k, stk, xs, os, ss) hm
  simp only at f1 f2
  simp only [k7a, k48, k49, k47, k7b, k46, k41, k6r, k6t, k6o, f1, f2, allT, fnM, and_self, cond_true]

theorem specFin (i v o : Int) (bs : List TM) (st : List IN) (inp : List Int) (k : Int) (stk xs os : List Int) (ss : List BS3) (h : runNd i v o bs st inp k stk xs os ss = true) :
    ks0 i v o k bs st stk xs os ss inp = (fnM bs st inp k stk xs os ss).1 ∧ krt i v o k bs st stk xs os ss inp = (fnM bs st inp k stk xs os ss).2.1 ∧
    kp2 i v o k bs st stk xs os ss inp = (fnM bs st inp k stk xs os ss).2.2.1 ∧ ko9 i v o k bs st stk xs os ss inp = (fnM bs st inp k stk xs os ss).2.2.2.1 ∧
    koi i v o k bs st stk xs os ss inp = (fnM bs st inp k stk xs os ss).2.2.2.2 ∧ kol i v o k bs st stk xs os ss inp = true := by
  simp only [runNd, Bool.and_eq_true] at h
  obtain ⟨hC, hin, hm⟩ := h
  have hm := mch_ok hC hm
  obtain ⟨l1, l2, l3, l4⟩ := ok_len (m := (k, stk, xs, os, ss)) hC hm
  simp only at l1 l2 l3 l4
  obtain ⟨f1, f2, _⟩ := k165 k67 (fun m => (m.1, i, v, o, inp, m.2.1, m.2.2.1, m.2.2.2.1, m.2.2.2.2, bs, st)) hC hin
    (fun m hm hlt => by
      obtain ⟨k, stk, xs, os, ss⟩ := m
      obtain ⟨_, hx⟩ := stp_ok hC hin hm hlt
      obtain ⟨e0, e1, e2, e3, e4, e5⟩ := specStep hC hin hm hlt hx
      simp only at hlt e0 e1 e2 e3 e4 e5
      have t1 : ltI k (st.length : Int) = true := ltI_t hlt
      simp only [k67, knt, LT.out, kp0, ksl, ksq, ksr, ksk, ksd, ksm, t1, e0, e1, e2, e3, e4, e5, stpM, allT]
      rfl)
    (fun m hk => by
      obtain ⟨k, stk, xs, os, ss⟩ := m
      simp only at hk
      have t1 : ltI k (st.length : Int) = false := ltI_f (by omega)
      simp only [k67, knt, LT.out, kp0, t1, cond_false])
    (fun m => by simp only [k67]; omega) (k, stk, xs, os, ss) hm
  simp only at f1 f2
  have t1 : leN stk.length 1048576 = true := leN_t (by omega)
  have t2 : leN xs.length 1048576 = true := leN_t (by omega)
  have t3 : leN os.length 1048576 = true := leN_t (by omega)
  have t4 : leN (0 + ss.length) 9223372036854775807 = true := leN_t (by omega)
  have t5 : leN ((0 + ss.length) * 24) 140737488355328 = true := leN_t (by omega)
  simp only [ks0, krt, kp2, ko9, koi, kol, kng, kqg, kqh, kqo, f1, f2, t1, t2, t3, t4, t5, allT, fnM, and_self, cond_true]

/-- A run from the start. -/
def rnM (o : Int) (bs : List TM) (st : List IN) (inp : List Int) (xs : List Int) (ss : List BS3) : MS := fnM bs st inp 0 [] xs (List.replicate o.toNat 0) ss
def exNd (i v o : Int) (bs : List TM) (st : List IN) (inp : List Int) (xs : List Int) (ss : List BS3) : Bool := codeB i v o bs st && (bitsB i inp && suitB v bs xs ss)

theorem ex_run {i v o : Int} {bs : List TM} {st : List IN} {inp : List Int} {xs : List Int} {ss : List BS3} (h : exNd i v o bs st inp xs ss = true) :
    runNd i v o bs st inp 0 [] xs (List.replicate o.toNat 0) ss = true ∧ (0 ≤ o ∧ o ≤ 20) ∧ xs.length ≤ 20 ∧ ss.length ≤ 2000 := by
  simp only [exNd, Bool.and_eq_true] at h
  obtain ⟨hC, hin, hs⟩ := h
  obtain ⟨s1, s2, s3⟩ := k13u.1 hs
  have hC2 := hC
  simp only [codeB, Bool.and_eq_true] at hC2
  obtain ⟨ri, rv, ro, rb, rs⟩ := kw7.1 hC2.1
  have hxl := (k9w.1 s2).2
  refine ⟨?_, ro, by omega, by omega⟩
  simp only [runNd, Bool.and_eq_true, mchB, krj]
  refine ⟨hC, hin, by omega, ?_, ?_, hs⟩
  · rw [show hAt i v o bs st 0 = 0 from rfl]
    exact k9w.2 ⟨fun z hz => (List.not_mem_nil hz).elim, rfl⟩
  · exact k9w.2 ⟨fun z hz => .inl (List.eq_of_mem_replicate hz), by rw [List.length_replicate]; omega⟩

theorem implEx (i v o : Int) (bs : List TM) (st : List IN) (xs : List Int) (ss : List BS3) (inp : List Int) (h : exNd i v o bs st inp xs ss = true) :
    ktb i v o bs st xs ss inp = (rnM o bs st inp xs ss).2.2.2.1 ∧ kt0 i v o bs st xs ss inp = (rnM o bs st inp xs ss).2.2.1 ∧
    kt8 i v o bs st xs ss inp = (rnM o bs st inp xs ss).2.2.2.2 ∧ kss i v o bs st xs ss inp = true := by
  obtain ⟨h1, h2, h3, h4⟩ := ex_run h
  obtain ⟨f0, f1, f2, f3, f4, f5⟩ := implFin i v o bs st inp 0 [] xs (List.replicate o.toNat 0) ss h1
  have t1 : leN xs.length 1048576 = true := leN_t (by omega)
  have t2 : leN ss.length 1048576 = true := leN_t (by omega)
  have u1 : leI 0 o = true := leI_t h2.1
  have u2 : leI o o = true := leI_t (by omega)
  have u3 : leI (((8 : Nat) : Int) * o) 281474976710656 = true := leI_t (by omega)
  have u4 : leI o 9223372036854775807 = true := leI_t (by omega)
  simp only [ktb, kt0, kt8, kss, kpm, kpw, kxy, k9n, f0, f1, f2, f3, f4, f5, t1, t2, u1, u2, u3, u4, allT, rnM, and_self, cond_true]

theorem specEx (i v o : Int) (bs : List TM) (st : List IN) (xs : List Int) (ss : List BS3) (inp : List Int) (h : exNd i v o bs st inp xs ss = true) :
    kwa i v o bs st xs ss inp = (rnM o bs st inp xs ss).2.2.2.1 ∧ kvp i v o bs st xs ss inp = (rnM o bs st inp xs ss).2.2.1 ∧
    kwb i v o bs st xs ss inp = (rnM o bs st inp xs ss).2.2.2.2 ∧ kw8 i v o bs st xs ss inp = true := by
  obtain ⟨h1, h2, h3, h4⟩ := ex_run h
  obtain ⟨f0, f1, f2, f3, f4, f5⟩ := specFin i v o bs st inp 0 [] xs (List.replicate o.toNat 0) ss h1
  have t1 : leN xs.length 1048576 = true := leN_t (by omega)
  have t4 : leN (0 + ss.length) 9223372036854775807 = true := leN_t (by omega)
  have t5 : leN ((0 + ss.length) * 24) 140737488355328 = true := leN_t (by omega)
  have u1 : leI 0 o = true := leI_t h2.1
  have u2 : leI o o = true := leI_t (by omega)
  have u3 : leI (((8 : Nat) : Int) * o) 281474976710656 = true := leI_t (by omega)
  have u4 : leI o 9223372036854775807 = true := leI_t (by omega)
  simp only [kwa, kvp, kwb, kw8, kkh, kkp, kt3, f0, f1, f2, f3, f4, f5, t1, t4, t5, u1, u2, u3, u4, allT, rnM, and_self, cond_true]

def kxk : List SV → List Entry → Option Out
  | [.one ⟨true, [.val (.int .i64 x0), .val (.int .i64 x1), .val (.int .i64 x2), .ref 0, .ref 1]⟩, .one ⟨true, [.ref 2, .ref 3]⟩, .one ⟨false, [.ref 4]⟩], [.row false 178 (.pair (.int .i64) (.pair (.str) (.int .i64))) x3, .row false 150 (.pair (.int .i64) (.int .i64)) x4, .row false 2 (.int .i64) x5, .row false 172 (.pair (.int .i64) (.pair (.int .i64) (.int .i64))) x6, .row false 2 (.int .i64) x7] => some ⟨(.tup [⟨false, [(.ref 5)]⟩, ⟨true, [(.ref 6), (.ref 7)]⟩]), [(.row false 178 (CTy.pair (CTy.int IntKind.i64) (CTy.pair CTy.str (CTy.int IntKind.i64))) x3), (.row false 150 (CTy.pair (CTy.int IntKind.i64) (CTy.int IntKind.i64)) x4), (.row false 2 (CTy.int IntKind.i64) x5), (.row false 172 (CTy.pair (CTy.int IntKind.i64) (CTy.pair (CTy.int IntKind.i64) (CTy.int IntKind.i64))) x6), (.row false 2 (CTy.int IntKind.i64) x7)], [(.row true 2 (CTy.int IntKind.i64) ((rnM x2 x3 x4 x7 x5 x6).2.2.2.1)), (.row true 2 (CTy.int IntKind.i64) ((rnM x2 x3 x4 x7 x5 x6).2.2.1)), (.row true 172 (CTy.pair (CTy.int IntKind.i64) (CTy.pair (CTy.int IntKind.i64) (CTy.int IntKind.i64))) ((rnM x2 x3 x4 x7 x5 x6).2.2.2.2))], [exNd x0 x1 x2 x3 x4 x7 x5 x6]⟩
  | _, _ => none

def kkg : PF Tryz.prog := PF.alt k135 kxk (by
  intro args es o h hnd; unfold kxk at h; split at h
  · rename_i x0 x1 x2 x3 x4 x5 x6 x7
    cases h
    have hnd := nd_fst hnd
    have hh := implEx x0 x1 x2 x3 x4 x5 x6 x7 hnd
    obtain ⟨e0, e1, e2, en⟩ := hh
    exact altok rfl (nd_one en) rfl rfl (by simp only [e0, e1, e2] <;> rfl)
  · cases h)

def k119 : List SV → List Entry → Option Out
  | [.one ⟨true, [.val (.int .i64 x0), .val (.int .i64 x1), .val (.int .i64 x2), .ref 0, .ref 1]⟩, .one ⟨true, [.ref 2, .ref 3]⟩, .one ⟨false, [.ref 4]⟩], [.row false 178 (.pair (.int .i64) (.pair (.str) (.int .i64))) x3, .row false 150 (.pair (.int .i64) (.int .i64)) x4, .row false 2 (.int .i64) x5, .row false 172 (.pair (.int .i64) (.pair (.int .i64) (.int .i64))) x6, .row false 2 (.int .i64) x7] => some ⟨(.tup [⟨false, [(.ref 5)]⟩, ⟨true, [(.ref 6), (.ref 7)]⟩]), [(.row false 178 (CTy.pair (CTy.int IntKind.i64) (CTy.pair CTy.str (CTy.int IntKind.i64))) x3), (.row false 150 (CTy.pair (CTy.int IntKind.i64) (CTy.int IntKind.i64)) x4), (.row false 2 (CTy.int IntKind.i64) x5), (.row false 172 (CTy.pair (CTy.int IntKind.i64) (CTy.pair (CTy.int IntKind.i64) (CTy.int IntKind.i64))) x6), (.row false 2 (CTy.int IntKind.i64) x7)], [(.row false 2 (CTy.int IntKind.i64) ((rnM x2 x3 x4 x7 x5 x6).2.2.2.1)), (.row false 2 (CTy.int IntKind.i64) ((rnM x2 x3 x4 x7 x5 x6).2.2.1)), (.row false 172 (CTy.pair (CTy.int IntKind.i64) (CTy.pair (CTy.int IntKind.i64) (CTy.int IntKind.i64))) ((rnM x2 x3 x4 x7 x5 x6).2.2.2.2))], [exNd x0 x1 x2 x3 x4 x7 x5 x6]⟩
  | _, _ => none

def kh9 : PF Tryz.prog := PF.alt k149 k119 (by
  intro args es o h hnd; unfold k119 at h; split at h
  · rename_i x0 x1 x2 x3 x4 x5 x6 x7
    cases h
    have hnd := nd_fst hnd
    have hh := specEx x0 x1 x2 x3 x4 x5 x6 x7 hnd
    obtain ⟨e0, e1, e2, en⟩ := hh
    exact altok rfl (nd_one en) rfl rfl (by simp only [e0, e1, e2] <;> rfl)
  · cases h)

end Go.SX

/- Rides, in plain words: faults of locks, padlocks, tolerated faults. -/
import Derived.Test.YtjhgiognlkmehaaNs
namespace Go.SX
open Go.Proofs
set_option maxRecDepth 100000

/-- A loop over numbers that stops at the first of a kind. -/
theorem Lp.scan {X : Type} (p : Lp X) (st : Nat → X) (N : Nat) (P : Nat → Bool) (e : Nat) (hN : N ≤ p.fuel (st 0))
    (hs : ∀ b, b < N → (p.lt (st b)).nds = true ∧ (p.lt (st b)).each (fun y => y = st (b + 1)) ∧ (p.lt (st b)).fn (fun _ => ()) = (bif P b then .inl 0 else .inr ()))
    (he : (p.lt (st N)).out = some (.inl e)) : p.fin (st 0) = true ∧ (p.res (st 0)).1 = bif (List.range N).any P then 0 else e := by
  have key := p.along (fun i (_ : Unit) => st i) (fun _ => ()) (fun (b : Nat) (_ : Unit) => bif P b then .inl 0 else .inr ()) e (fun _ _ => True) (List.range N) () trivial (by rw [List.length_range]; exact hN)
    (fun i b a hb _ => by
      obtain ⟨rfl, hlt⟩ := range_get hb
      obtain ⟨h1, h2, h3⟩ := hs b hlt
      exact ⟨h1, h2, h3, fun _ _ => trivial⟩) (fun a _ => by rw [List.length_range]; exact he)
  rw [walk_stop (P := P) (j := 0) (fun b => rfl)] at key
  exact ⟨key.1, by rw [key.2]⟩

def f_spec_AreLockFaults_l0_l0 (y2 : List (Int × (Int × Int))) (y3 : Int) (y4 : Int) (b : Nat) : (Unit) → Nat ⊕ (Unit)
  | _ => (bif ((bif (Prod.fst ((Option.getD y2[b]? ((0 : Int), (0 : Int), (0 : Int)))) == y3) then Prod.fst (Prod.snd ((Option.getD y2[b]? ((0 : Int), (0 : Int), (0 : Int))))) == y4 else false)) then (.inl 0) else (.inr ()))

def st_spec_AreLockFaults_l0_l0 (y1 : Int) (y2 : List (Int × (Int × Int))) (y3 : Int) (y4 : Int) (y5 : Int) (i : Nat) : (Unit) → X_spec_AreLockFaults_l0_l0
  | _ => ((i : Int), y1, y2, y3, y4, y5)

def pr_spec_AreLockFaults_l0_l0 : X_spec_AreLockFaults_l0_l0 → Unit
  | (_, _, _, _, _, _) => ()

theorem w_spec_AreLockFaults_l0_l0 (y1 : Int) (y2 : List (Int × (Int × Int))) (y3 : Int) (y4 : Int) (y5 : Int)  (hn : y1 ≤ 9223372036854775807) (hb : y1 ≤ (y2.length : Int)) :
    lp_spec_AreLockFaults_l0_l0.fin ((0 : Int), y1, y2, y3, y4, y5) = true ∧ lp_spec_AreLockFaults_l0_l0.res ((0 : Int), y1, y2, y3, y4, y5) = ((walkL (f_spec_AreLockFaults_l0_l0 y2 y3 y4) 1 (List.range y1.toNat) 0 ()).1, (st_spec_AreLockFaults_l0_l0 y1 y2 y3 y4 y5) (walkL (f_spec_AreLockFaults_l0_l0 y2 y3 y4) 1 (List.range y1.toNat) 0 ()).2.1 (walkL (f_spec_AreLockFaults_l0_l0 y2 y3 y4) 1 (List.range y1.toNat) 0 ()).2.2) := by
  have key := lp_spec_AreLockFaults_l0_l0.along (st_spec_AreLockFaults_l0_l0 y1 y2 y3 y4 y5) pr_spec_AreLockFaults_l0_l0 (f_spec_AreLockFaults_l0_l0 y2 y3 y4) 1 (fun _ _ => True) (List.range y1.toNat) () (by trivial) (by simp only [lp_spec_AreLockFaults_l0_l0, st_spec_AreLockFaults_l0_l0, List.length_range]; omega) (fun i b a hb hI => ?_) (fun a hI => ?_)
  · exact key
  · obtain ⟨⟩ := a
    obtain ⟨rfl, hlt⟩ := range_get hb
    have hw : IntKind.i64.wrap ((b : Int) + 1) = ((b + 1 : Nat) : Int) := by rw [wrap_i64 (by omega) (by omega)]; omega
    have hdec : ltI (b : Int) y1 = true := ltI_t (by omega)
    have hnn : leI (0 : Int) (b : Int) = true := leI_t (by omega)
    refine ⟨?_, ?_, ?_, ?_⟩
    · have h1 : ltI (b : Int) (y2.length : Int) = true := ltI_t (by omega)
      have h2 : ltN b y2.length = true := ltN_t (by omega)
      simp [spec_AreLockFaults_l0_l0_a0, spec_AreLockFaults_l0_l0_a1, spec_AreLockFaults_l0_l0_0, spec_AreLockFaults_l0_l0_1, spec_AreLockFaults_l0_l0_2, spec_AreLockFaults_l0_l0_3, spec_AreLockFaults_l0_l0_4, spec_AreLockFaults_l0_l0_5, spec_AreLockFaults_l0_l0_6, spec_AreLockFaults_l0_l0_7, spec_AreLockFaults_l0_l0_8, lt_spec_AreLockFaults_l0_l0, lp_spec_AreLockFaults_l0_l0, LT.nds, allT, st_spec_AreLockFaults_l0_l0, hdec, hnn, h1, h2]
    · simp [spec_AreLockFaults_l0_l0_a0, spec_AreLockFaults_l0_l0_a1, spec_AreLockFaults_l0_l0_0, spec_AreLockFaults_l0_l0_1, spec_AreLockFaults_l0_l0_2, spec_AreLockFaults_l0_l0_3, spec_AreLockFaults_l0_l0_4, spec_AreLockFaults_l0_l0_5, spec_AreLockFaults_l0_l0_6, spec_AreLockFaults_l0_l0_7, spec_AreLockFaults_l0_l0_8, lt_spec_AreLockFaults_l0_l0, lp_spec_AreLockFaults_l0_l0, LT.each, st_spec_AreLockFaults_l0_l0, pr_spec_AreLockFaults_l0_l0, hw]
    · simp only [spec_AreLockFaults_l0_l0_a0, spec_AreLockFaults_l0_l0_a1, spec_AreLockFaults_l0_l0_0, spec_AreLockFaults_l0_l0_1, spec_AreLockFaults_l0_l0_2, spec_AreLockFaults_l0_l0_3, spec_AreLockFaults_l0_l0_4, spec_AreLockFaults_l0_l0_5, spec_AreLockFaults_l0_l0_6, spec_AreLockFaults_l0_l0_7, spec_AreLockFaults_l0_l0_8, lt_spec_AreLockFaults_l0_l0, lp_spec_AreLockFaults_l0_l0, LT.fn, st_spec_AreLockFaults_l0_l0, pr_spec_AreLockFaults_l0_l0, f_spec_AreLockFaults_l0_l0, Int.toNat_natCast, hdec, hnn, cond_true, Bool.cond_self]
    · exact fun _ _ => trivial
  · obtain ⟨⟩ := a
    simp only [spec_AreLockFaults_l0_l0_a0, spec_AreLockFaults_l0_l0_a1, spec_AreLockFaults_l0_l0_0, spec_AreLockFaults_l0_l0_1, spec_AreLockFaults_l0_l0_2, spec_AreLockFaults_l0_l0_3, spec_AreLockFaults_l0_l0_4, spec_AreLockFaults_l0_l0_5, spec_AreLockFaults_l0_l0_6, spec_AreLockFaults_l0_l0_7, spec_AreLockFaults_l0_l0_8, lt_spec_AreLockFaults_l0_l0, lp_spec_AreLockFaults_l0_l0, LT.out, st_spec_AreLockFaults_l0_l0, List.length_range, ltI_toNat, ltI_down, cond_false]

theorem inner_dupL (fs : List (Int × Int × Int)) (b : Nat) (hb : b < fs.length) (hn : fs.length ≤ 9223372036854775807) :
    spec_AreLockFaults_l0_4 (b : Int) fs = true ∧ spec_AreLockFaults_l0_5 (b : Int) fs = fDup fs b := by
  obtain ⟨w1, w2⟩ := w_spec_AreLockFaults_l0_l0 (b : Int) fs (fAt fs b).1 (fAt fs b).2.1 (fAt fs b).2.2 (by omega) (by omega)
  rw [walk_stop (P := fun j => fSame (fAt fs b) (fs[j]?.getD (0, 0, 0))) (j := 0) (fun j => by
    simp only [f_spec_AreLockFaults_l0_l0, fSame]; cases (fs[j]?.getD (0, 0, 0)).1 == (fAt fs b).1 <;> rfl), Int.toNat_natCast, any_take (by omega)] at w2
  refine ⟨w1, ?_⟩
  have e : spec_AreLockFaults_l0_a1 (b : Int) fs = (0, (b : Int), fs, (fAt fs b).1, (fAt fs b).2.1, (fAt fs b).2.2) := rfl
  simp only [spec_AreLockFaults_l0_5, e, w2, fDup]
  cases (fs.take b).any (fSame (fAt fs b)) <;> rfl

theorem specBadL (n : Int) (fs : List (Int × Int × Int)) (b : Nat) : spec_AreLockFaults_l0_3 (b : Int) n fs = fBad n fs b := by
  simp only [spec_AreLockFaults_l0_3, spec_l01In_0, fBad, fIn, fAt, spec_AreLockFaults_l0_a0, Int.toNat_natCast, inR_eq]
  cases inR (fs[b]?.getD (0, 0, 0)).1 0 (IntKind.i64.wrap (n - 1)) <;> cases inR (fs[b]?.getD (0, 0, 0)).2.1 0 1 <;> cases inR (fs[b]?.getD (0, 0, 0)).2.2 0 1 <;> rfl

theorem w_specLF (n : Int) (fs : List (Int × Int × Int)) (hn : fs.length ≤ 9223372036854775807) :
    lp_spec_AreLockFaults_l0.fin ((0 : Int), n, fs) = true ∧ lp_spec_AreLockFaults_l0.res ((0 : Int), n, fs) = ((walkL (fF n fs) 2 (List.range fs.length) 0 ()).1, (((walkL (fF n fs) 2 (List.range fs.length) 0 ()).2.1 : Int), n, fs)) := by
  have key := lp_spec_AreLockFaults_l0.along (fun i _ => ((i : Int), n, fs)) (fun _ => ()) (fF n fs) 2 (fun _ _ => True) (List.range fs.length) () trivial (by simp only [lp_spec_AreLockFaults_l0, List.length_range]; omega) (fun i b a hb hI => ?_) (fun a hI => ?_)
  · exact key
  · obtain ⟨rfl, hlt⟩ := range_get hb
    have hw : IntKind.i64.wrap ((b : Int) + 1) = ((b + 1 : Nat) : Int) := by rw [wrap_i64 (by omega) (by omega)]; omega
    have hdec : ltI (b : Int) (fs.length : Int) = true := ltI_t (by omega)
    have hnn : leI (0 : Int) (b : Int) = true := leI_t (by omega)
    have hltd : ltN b fs.length = true := ltN_t (by omega)
    obtain ⟨i1, i2⟩ := inner_dupL fs b hlt hn
    have i3 := specBadL n fs b
    refine ⟨?_, ?_, ?_, ?_⟩
    · simp [lp_spec_AreLockFaults_l0, lt_spec_AreLockFaults_l0, LT.nds, allT, spec_AreLockFaults_l0_0, spec_AreLockFaults_l0_1, spec_AreLockFaults_l0_2, hdec, hnn, hltd, i1]
    · simp [lp_spec_AreLockFaults_l0, lt_spec_AreLockFaults_l0, LT.each, spec_AreLockFaults_l0_6, hw]
    · simp only [lp_spec_AreLockFaults_l0, lt_spec_AreLockFaults_l0, LT.fn, spec_AreLockFaults_l0_0, hdec, i2, i3, fF, cond_true]
    · exact fun _ _ => trivial
  · simp [lp_spec_AreLockFaults_l0, lt_spec_AreLockFaults_l0, LT.out, spec_AreLockFaults_l0_0, List.length_range]

theorem specLF_ok (n : Int) (fs : List (Int × Int × Int)) (hn : leN fs.length 9223372036854775807 = true) : spec_AreLockFaults_0 n fs = lfOk n fs ∧ spec_AreLockFaults_1 n fs = true := by
  obtain ⟨w1, w2⟩ := w_specLF n fs (leN_iff.1 hn)
  obtain ⟨k, m, e, h⟩ := walk_fF n fs (List.range fs.length) 0
  rw [e] at w2
  refine ⟨?_, ?_⟩
  · have hl : leI (fs.length : Int) 8 = leN fs.length 8 := by rw [Bool.eq_iff_iff]; simp; omega
    simp only [spec_AreLockFaults_0, spec_AreLockFaults_a0, w2, spec_l01In_0, inR_eq, lfOk, okFs, hl]
    rcases h with ⟨rfl, h⟩ | ⟨rfl | rfl, h⟩ <;> rw [h]
    · cases inR n 1 12 <;> cases leN fs.length 8 <;> rfl
    · cases inR n 1 12 <;> cases leN fs.length 8 <;> rfl
    · cases inR n 1 12 <;> cases leN fs.length 8 <;> rfl
  · simp only [spec_AreLockFaults_1, spec_AreLockFaults_a0, w1, allT, cond_true]

def N_spec_AreLockFaults : List SV → List Entry → Option Out
  | [.one ⟨false, [.val (.int .i64 x0)]⟩, .one ⟨false, [.ref 0]⟩], [.row false 96 (.pair (.int .i64) (.pair (.int .i64) (.int .i64))) x1] => some ⟨(.one ⟨false, [(.val (.bool (lfOk x0 x1)))]⟩), [(.row false 96 (CTy.pair (CTy.int IntKind.i64) (CTy.pair (CTy.int IntKind.i64) (CTy.int IntKind.i64))) x1)], [], [leN x1.length 9223372036854775807]⟩
  | _, _ => none

def n_spec_AreLockFaults : PF Try.prog := PF.alt p_spec_AreLockFaults N_spec_AreLockFaults (by
  intro args es o h hnd; unfold N_spec_AreLockFaults at h; split at h
  · rename_i x0 x1
    cases h
    have hnd := nd_fst hnd
    have hh := specLF_ok x0 x1 hnd
    obtain ⟨e0, en⟩ := hh
    exact altok rfl (nd_one en) (by simp only [e0] <;> rfl) rfl rfl
  · cases h)

def f_slices_IndexFunc_impl_LockFault_q2004_l0 (y2 : Int) (y3 : Int) (b : Int × (Int × Int)) : (Unit) → Nat ⊕ (Unit)
  | _ => (bif ((impl_AreLockFaults_1_q2005_0 (Prod.fst ((b))) (Prod.fst (Prod.snd ((b)))) y2 y3)) then (.inl 0) else (.inr ()))

def st_slices_IndexFunc_impl_LockFault_q2004_l0 (y2 : Int) (y3 : Int) (y4 : Int) (y5 : List (Int × (Int × Int))) (i : Nat) : (Unit) → X_slices_IndexFunc_impl_LockFault_q2004_l0
  | _ => ((i : Int), (↑(List.length y5) : Int), y2, y3, y4, y5)

def pr_slices_IndexFunc_impl_LockFault_q2004_l0 : X_slices_IndexFunc_impl_LockFault_q2004_l0 → Unit
  | (_, _, _, _, _, _) => ()

theorem w_slices_IndexFunc_impl_LockFault_q2004_l0 (y2 : Int) (y3 : Int) (y4 : Int) (y5 : List (Int × (Int × Int)))  (hn : y5.length ≤ 9223372036854775807)  :
    lp_slices_IndexFunc_impl_LockFault_q2004_l0.fin ((0 : Int), (↑(List.length y5) : Int), y2, y3, y4, y5) = true ∧ lp_slices_IndexFunc_impl_LockFault_q2004_l0.res ((0 : Int), (↑(List.length y5) : Int), y2, y3, y4, y5) = ((walkL (f_slices_IndexFunc_impl_LockFault_q2004_l0 y2 y3) 1 y5 0 ()).1, (st_slices_IndexFunc_impl_LockFault_q2004_l0 y2 y3 y4 y5) (walkL (f_slices_IndexFunc_impl_LockFault_q2004_l0 y2 y3) 1 y5 0 ()).2.1 (walkL (f_slices_IndexFunc_impl_LockFault_q2004_l0 y2 y3) 1 y5 0 ()).2.2) := by
  have key := lp_slices_IndexFunc_impl_LockFault_q2004_l0.along (st_slices_IndexFunc_impl_LockFault_q2004_l0 y2 y3 y4 y5) pr_slices_IndexFunc_impl_LockFault_q2004_l0 (f_slices_IndexFunc_impl_LockFault_q2004_l0 y2 y3) 1 (fun _ _ => True) y5 () (by trivial) (by simp only [lp_slices_IndexFunc_impl_LockFault_q2004_l0, st_slices_IndexFunc_impl_LockFault_q2004_l0]; omega) (fun i b a hb hI => ?_) (fun a hI => ?_)
  · exact key
  · obtain ⟨⟩ := a
    have hlt := (List.getElem?_eq_some_iff.1 hb).1
    have hget : ∀ d, Option.getD y5[i]? d = b := fun d => by rw [hb]; rfl
    have hw := wrap64 hlt hn
    have hdec : ltI (i : Int) (y5.length : Int) = true := ltI_t (by omega)
    have hnn : leI (0 : Int) (i : Int) = true := leI_t (by omega)
    have hltd : ltN i y5.length = true := ltN_t hlt
    refine ⟨?_, ?_, ?_, ?_⟩
    · simp [slices_IndexFunc_impl_LockFault_q2004_l0_a0, slices_IndexFunc_impl_LockFault_q2004_l0_0, slices_IndexFunc_impl_LockFault_q2004_l0_1, slices_IndexFunc_impl_LockFault_q2004_l0_2, slices_IndexFunc_impl_LockFault_q2004_l0_3, slices_IndexFunc_impl_LockFault_q2004_l0_4, slices_IndexFunc_impl_LockFault_q2004_l0_5, lt_slices_IndexFunc_impl_LockFault_q2004_l0, lp_slices_IndexFunc_impl_LockFault_q2004_l0, LT.nds, allT, st_slices_IndexFunc_impl_LockFault_q2004_l0, hdec, hnn, hltd, hget]
    · simp [slices_IndexFunc_impl_LockFault_q2004_l0_a0, slices_IndexFunc_impl_LockFault_q2004_l0_0, slices_IndexFunc_impl_LockFault_q2004_l0_1, slices_IndexFunc_impl_LockFault_q2004_l0_2, slices_IndexFunc_impl_LockFault_q2004_l0_3, slices_IndexFunc_impl_LockFault_q2004_l0_4, slices_IndexFunc_impl_LockFault_q2004_l0_5, lt_slices_IndexFunc_impl_LockFault_q2004_l0, lp_slices_IndexFunc_impl_LockFault_q2004_l0, LT.each, st_slices_IndexFunc_impl_LockFault_q2004_l0, pr_slices_IndexFunc_impl_LockFault_q2004_l0, hw]
    · simp only [slices_IndexFunc_impl_LockFault_q2004_l0_a0, slices_IndexFunc_impl_LockFault_q2004_l0_0, slices_IndexFunc_impl_LockFault_q2004_l0_1, slices_IndexFunc_impl_LockFault_q2004_l0_2, slices_IndexFunc_impl_LockFault_q2004_l0_3, slices_IndexFunc_impl_LockFault_q2004_l0_4, slices_IndexFunc_impl_LockFault_q2004_l0_5, lt_slices_IndexFunc_impl_LockFault_q2004_l0, lp_slices_IndexFunc_impl_LockFault_q2004_l0, LT.fn, st_slices_IndexFunc_impl_LockFault_q2004_l0, pr_slices_IndexFunc_impl_LockFault_q2004_l0, f_slices_IndexFunc_impl_LockFault_q2004_l0, Int.toNat_natCast, hdec, hnn, hltd, hget, cond_true, Bool.cond_self]
    · exact fun _ _ => trivial
  · obtain ⟨⟩ := a
    simp [slices_IndexFunc_impl_LockFault_q2004_l0_a0, slices_IndexFunc_impl_LockFault_q2004_l0_0, slices_IndexFunc_impl_LockFault_q2004_l0_1, slices_IndexFunc_impl_LockFault_q2004_l0_2, slices_IndexFunc_impl_LockFault_q2004_l0_3, slices_IndexFunc_impl_LockFault_q2004_l0_4, slices_IndexFunc_impl_LockFault_q2004_l0_5, lt_slices_IndexFunc_impl_LockFault_q2004_l0, lp_slices_IndexFunc_impl_LockFault_q2004_l0, LT.out, st_slices_IndexFunc_impl_LockFault_q2004_l0]

theorem implHasL_ok (xs : List (Int × Int × Int)) (f : Int × Int × Int) (hn : xs.length ≤ 9223372036854775807) :
    slices_ContainsFunc_impl_LockFault_q2003_0 xs f.1 f.2.1 f.2.2 = xs.any (fSame f) ∧ slices_ContainsFunc_impl_LockFault_q2003_4 xs f.1 f.2.1 f.2.2 = true := by
  obtain ⟨w1, w2⟩ := w_slices_IndexFunc_impl_LockFault_q2004_l0 f.1 f.2.1 f.2.2 xs hn
  rw [walk_stop (P := fSame f) (j := 0) (fun t => by
    simp only [f_slices_IndexFunc_impl_LockFault_q2004_l0, impl_AreLockFaults_1_q2005_0, fSame]; cases t.1 == f.1 <;> rfl)] at w2
  refine ⟨?_, ?_⟩
  · simp only [slices_ContainsFunc_impl_LockFault_q2003_0, slices_ContainsFunc_impl_LockFault_q2003_1, slices_ContainsFunc_impl_LockFault_q2003_2, slices_ContainsFunc_impl_LockFault_q2003_3, slices_ContainsFunc_impl_LockFault_q2003_4, slices_IndexFunc_impl_LockFault_q2004_a0, slices_IndexFunc_impl_LockFault_q2004_a1, slices_IndexFunc_impl_LockFault_q2004_0, slices_IndexFunc_impl_LockFault_q2004_1, slices_IndexFunc_impl_LockFault_q2004_2, slices_IndexFunc_impl_LockFault_q2004_3, slices_IndexFunc_impl_LockFault_q2004_4, w2, st_slices_IndexFunc_impl_LockFault_q2004_l0]
    cases xs.any (fSame f) with
    | false => rfl
    | true => exact leI_t (Int.natCast_nonneg _)
  · simp only [slices_ContainsFunc_impl_LockFault_q2003_0, slices_ContainsFunc_impl_LockFault_q2003_1, slices_ContainsFunc_impl_LockFault_q2003_2, slices_ContainsFunc_impl_LockFault_q2003_3, slices_ContainsFunc_impl_LockFault_q2003_4, slices_IndexFunc_impl_LockFault_q2004_a0, slices_IndexFunc_impl_LockFault_q2004_a1, slices_IndexFunc_impl_LockFault_q2004_0, slices_IndexFunc_impl_LockFault_q2004_1, slices_IndexFunc_impl_LockFault_q2004_2, slices_IndexFunc_impl_LockFault_q2004_3, slices_IndexFunc_impl_LockFault_q2004_4, w1, allT, cond_true]

theorem implBadL (n : Int) (fs : List (Int × Int × Int)) (b : Nat) : impl_AreLockFaults_l0_4 (b : Int) n fs = fBad n fs b := by
  simp only [impl_AreLockFaults_l0_4, impl_within_0, fBad, fIn, fAt, impl_AreLockFaults_l0_a0, Int.toNat_natCast, inR_eq]
  cases inR (fs[b]?.getD (0, 0, 0)).1 0 (IntKind.i64.wrap (n - 1)) <;> cases inR (fs[b]?.getD (0, 0, 0)).2.1 0 1 <;> cases inR (fs[b]?.getD (0, 0, 0)).2.2 0 1 <;> rfl

theorem w_implLF (n : Int) (fs : List (Int × Int × Int)) (hn : fs.length ≤ 9223372036854775807) :
    lp_impl_AreLockFaults_l0.fin ((0 : Int), (fs.length : Int), n, fs) = true ∧ lp_impl_AreLockFaults_l0.res ((0 : Int), (fs.length : Int), n, fs) = ((walkL (fF n fs) 2 (List.range fs.length) 0 ()).1, (((walkL (fF n fs) 2 (List.range fs.length) 0 ()).2.1 : Int), (fs.length : Int), n, fs)) := by
  have key := lp_impl_AreLockFaults_l0.along (fun i _ => ((i : Int), (fs.length : Int), n, fs)) (fun _ => ()) (fF n fs) 2 (fun _ _ => True) (List.range fs.length) () trivial (by simp only [lp_impl_AreLockFaults_l0, List.length_range]; omega) (fun i b a hb hI => ?_) (fun a hI => ?_)
  · exact key
  · obtain ⟨rfl, hlt⟩ := range_get hb
    have hw : IntKind.i64.wrap ((b : Int) + 1) = ((b + 1 : Nat) : Int) := by rw [wrap_i64 (by omega) (by omega)]; omega
    have hdec : ltI (b : Int) (fs.length : Int) = true := ltI_t (by omega)
    have hle : leI (b : Int) (fs.length : Int) = true := leI_t (by omega)
    have hnn : leI (0 : Int) (b : Int) = true := leI_t (by omega)
    have hltd : ltN b fs.length = true := ltN_t (by omega)
    obtain ⟨i2, i1⟩ := implHasL_ok (fs.take b) (fAt fs b) (by rw [List.length_take]; omega)
    have i2 : impl_AreLockFaults_l0_8 (b : Int) fs = fDup fs b := i2
    have i1 : impl_AreLockFaults_l0_7 (b : Int) fs = true := i1
    have i3 := implBadL n fs b
    refine ⟨?_, ?_, ?_, ?_⟩
    · simp [lp_impl_AreLockFaults_l0, lt_impl_AreLockFaults_l0, LT.nds, allT, impl_AreLockFaults_l0_0, impl_AreLockFaults_l0_1, impl_AreLockFaults_l0_2, impl_AreLockFaults_l0_3, impl_AreLockFaults_l0_5, impl_AreLockFaults_l0_6, hdec, hnn, hltd, hle, i1]
    · simp [lp_impl_AreLockFaults_l0, lt_impl_AreLockFaults_l0, LT.each, impl_AreLockFaults_l0_9, hw]
    · simp only [lp_impl_AreLockFaults_l0, lt_impl_AreLockFaults_l0, LT.fn, impl_AreLockFaults_l0_0, hdec, i2, i3, fF, cond_true]
    · exact fun _ _ => trivial
  · simp [lp_impl_AreLockFaults_l0, lt_impl_AreLockFaults_l0, LT.out, impl_AreLockFaults_l0_0, List.length_range]

theorem implLF_ok (n : Int) (fs : List (Int × Int × Int)) (hn : leN fs.length 9223372036854775807 = true) : impl_AreLockFaults_0 n fs = lfOk n fs ∧ impl_AreLockFaults_1 n fs = true := by
  obtain ⟨w1, w2⟩ := w_implLF n fs (leN_iff.1 hn)
  obtain ⟨k, m, e, h⟩ := walk_fF n fs (List.range fs.length) 0
  rw [e] at w2
  refine ⟨?_, ?_⟩
  · have hl : leI (fs.length : Int) 8 = leN fs.length 8 := by rw [Bool.eq_iff_iff]; simp; omega
    simp only [impl_AreLockFaults_0, impl_AreLockFaults_a0, w2, impl_isRowCount_0, impl_within_0, inR_eq, lfOk, okFs, hl]
    rcases h with ⟨rfl, h⟩ | ⟨rfl | rfl, h⟩ <;> rw [h] <;> cases inR n 1 12 <;> cases leN fs.length 8 <;> rfl
  · simp only [impl_AreLockFaults_1, impl_AreLockFaults_a0, w1, allT, cond_true]

def N_impl_AreLockFaults : List SV → List Entry → Option Out
  | [.one ⟨false, [.val (.int .i64 x0)]⟩, .one ⟨false, [.ref 0]⟩], [.row false 96 (.pair (.int .i64) (.pair (.int .i64) (.int .i64))) x1] => some ⟨(.one ⟨false, [(.val (.bool (lfOk x0 x1)))]⟩), [(.row false 96 (CTy.pair (CTy.int IntKind.i64) (CTy.pair (CTy.int IntKind.i64) (CTy.int IntKind.i64))) x1)], [], [leN x1.length 9223372036854775807]⟩
  | _, _ => none

def n_impl_AreLockFaults : PF Try.prog := PF.alt p_impl_AreLockFaults N_impl_AreLockFaults (by
  intro args es o h hnd; unfold N_impl_AreLockFaults at h; split at h
  · rename_i x0 x1
    cases h
    have hnd := nd_fst hnd
    have hh := implLF_ok x0 x1 hnd
    obtain ⟨e0, en⟩ := hh
    exact altok rfl (nd_one en) (by simp only [e0] <;> rfl) rfl rfl
  · cases h)

/-! ### Tolerated -/

def dupQ (v : Int) (f g : Int × Int × Int) : Bool := g.1 == f.1 && (g.2.2 == v && f.2.2 == v)

def f_slices_Index_int64_int64_l0 (y2 : Int) (b : Int) : (Unit) → Nat ⊕ (Unit)
  | _ => (bif ((y2 == b)) then (.inl 0) else (.inr ()))

def st_slices_Index_int64_int64_l0 (y2 : Int) (y3 : List Int) (i : Nat) : (Unit) → X_slices_Index_int64_int64_l0
  | _ => ((i : Int), (↑(List.length y3) : Int), y2, y3)

def pr_slices_Index_int64_int64_l0 : X_slices_Index_int64_int64_l0 → Unit
  | (_, _, _, _) => ()

theorem w_slices_Index_int64_int64_l0 (y2 : Int) (y3 : List Int)  (hn : y3.length ≤ 9223372036854775807)  :
    lp_slices_Index_int64_int64_l0.fin ((0 : Int), (↑(List.length y3) : Int), y2, y3) = true ∧ lp_slices_Index_int64_int64_l0.res ((0 : Int), (↑(List.length y3) : Int), y2, y3) = ((walkL (f_slices_Index_int64_int64_l0 y2) 1 y3 0 ()).1, (st_slices_Index_int64_int64_l0 y2 y3) (walkL (f_slices_Index_int64_int64_l0 y2) 1 y3 0 ()).2.1 (walkL (f_slices_Index_int64_int64_l0 y2) 1 y3 0 ()).2.2) := by
  have key := lp_slices_Index_int64_int64_l0.along (st_slices_Index_int64_int64_l0 y2 y3) pr_slices_Index_int64_int64_l0 (f_slices_Index_int64_int64_l0 y2) 1 (fun _ _ => True) y3 () (by trivial) (by simp only [lp_slices_Index_int64_int64_l0, st_slices_Index_int64_int64_l0]; omega) (fun i b a hb hI => ?_) (fun a hI => ?_)
  · exact key
  · obtain ⟨⟩ := a
    have hlt := (List.getElem?_eq_some_iff.1 hb).1
    have hget : ∀ d, Option.getD y3[i]? d = b := fun d => by rw [hb]; rfl
    have hw := wrap64 hlt hn
    have hdec : ltI (i : Int) (y3.length : Int) = true := ltI_t (by omega)
    have hnn : leI (0 : Int) (i : Int) = true := leI_t (by omega)
    have hltd : ltN i y3.length = true := ltN_t hlt
    refine ⟨?_, ?_, ?_, ?_⟩
    · simp [slices_Index_int64_int64_l0_0, slices_Index_int64_int64_l0_1, slices_Index_int64_int64_l0_2, slices_Index_int64_int64_l0_3, slices_Index_int64_int64_l0_4, slices_Index_int64_int64_l0_5, lt_slices_Index_int64_int64_l0, lp_slices_Index_int64_int64_l0, LT.nds, allT, st_slices_Index_int64_int64_l0, hdec, hnn, hltd, hget]
    · simp [slices_Index_int64_int64_l0_0, slices_Index_int64_int64_l0_1, slices_Index_int64_int64_l0_2, slices_Index_int64_int64_l0_3, slices_Index_int64_int64_l0_4, slices_Index_int64_int64_l0_5, lt_slices_Index_int64_int64_l0, lp_slices_Index_int64_int64_l0, LT.each, st_slices_Index_int64_int64_l0, pr_slices_Index_int64_int64_l0, hw]
    · simp only [slices_Index_int64_int64_l0_0, slices_Index_int64_int64_l0_1, slices_Index_int64_int64_l0_2, slices_Index_int64_int64_l0_3, slices_Index_int64_int64_l0_4, slices_Index_int64_int64_l0_5, lt_slices_Index_int64_int64_l0, lp_slices_Index_int64_int64_l0, LT.fn, st_slices_Index_int64_int64_l0, pr_slices_Index_int64_int64_l0, f_slices_Index_int64_int64_l0, Int.toNat_natCast, hdec, hnn, hltd, hget, cond_true, Bool.cond_self]
    · exact fun _ _ => trivial
  · obtain ⟨⟩ := a
    simp [slices_Index_int64_int64_l0_0, slices_Index_int64_int64_l0_1, slices_Index_int64_int64_l0_2, slices_Index_int64_int64_l0_3, slices_Index_int64_int64_l0_4, slices_Index_int64_int64_l0_5, lt_slices_Index_int64_int64_l0, lp_slices_Index_int64_int64_l0, LT.out, st_slices_Index_int64_int64_l0]

theorem containsI_ok (x : Int) (l : List Int) (hn : l.length ≤ 9223372036854775807) : slices_Contains_int64_int64_0 x l = hasI x l ∧ slices_Contains_int64_int64_1 x l = true := by
  obtain ⟨w1, w2⟩ := w_slices_Index_int64_int64_l0 x l hn
  rw [walk_stop (f := f_slices_Index_int64_int64_l0 x) (P := fun v => x == v) (j := 0) (fun v => rfl)] at w2
  have e : (fun v => x == v) = fun v : Int => v == x := funext fun v => BEq.comm
  rw [e] at w2
  simp only [slices_Contains_int64_int64_0, slices_Contains_int64_int64_1, slices_Index_int64_int64_0, slices_Index_int64_int64_1, slices_Index_int64_int64_a0, w1, w2, allT, hasI]
  refine ⟨?_, rfl⟩
  cases l.any fun v => v == x with
  | false => rfl
  | true => exact leI_t (Int.natCast_nonneg _)

def f_impl_areTolerated_l0  (b : Int × (Int × Int)) : (List Int) → Nat ⊕ (List Int)
  | y3 => (bif (((Prod.snd (Prod.snd ((b))) == (0 : Int)))) then (bif ((slices_Contains_int64_int64_0 (Prod.fst ((b))) y3)) then (.inl 0) else (.inr ((y3 ++ [Prod.fst ((b))])))) else (.inr y3))

def st_impl_areTolerated_l0 (y2 : List (Int × (Int × Int))) (i : Nat) : (List Int) → X_impl_areTolerated_l0
  | y3 => ((i : Int), (↑(List.length y2) : Int), y2, y3)

def pr_impl_areTolerated_l0 : X_impl_areTolerated_l0 → List Int
  | (_, _, _, y3) => y3

theorem w_impl_areTolerated_l0 (y2 : List (Int × (Int × Int))) (y3 : List Int) (hn : y2.length ≤ 9223372036854775807) (h8 : y2.length ≤ 1000) (h0 : y3 = []) :
    lp_impl_areTolerated_l0.fin ((0 : Int), (↑(List.length y2) : Int), y2, y3) = true ∧ lp_impl_areTolerated_l0.res ((0 : Int), (↑(List.length y2) : Int), y2, y3) = ((walkL (f_impl_areTolerated_l0) 1 y2 0 y3).1, (st_impl_areTolerated_l0 y2) (walkL (f_impl_areTolerated_l0) 1 y2 0 y3).2.1 (walkL (f_impl_areTolerated_l0) 1 y2 0 y3).2.2) := by
  have key := lp_impl_areTolerated_l0.along (st_impl_areTolerated_l0 y2) pr_impl_areTolerated_l0 (f_impl_areTolerated_l0) 1 (fun i a => a.length ≤ i) y2 y3 (by subst h0; simp) (by simp only [lp_impl_areTolerated_l0, st_impl_areTolerated_l0]; omega) (fun i b a hb hI => ?_) (fun a hI => ?_)
  · exact key
  · obtain y3 := a
    have hlt := (List.getElem?_eq_some_iff.1 hb).1
    have hget : ∀ d, Option.getD y2[i]? d = b := fun d => by rw [hb]; rfl
    have hw := wrap64 hlt hn
    have hdec : ltI (i : Int) (y2.length : Int) = true := ltI_t (by omega)
    have hnn : leI (0 : Int) (i : Int) = true := leI_t (by omega)
    have hltd : ltN i y2.length = true := ltN_t hlt
    refine ⟨?_, ?_, ?_, ?_⟩
    · have hg2 : impl_areTolerated_l0_a0 (i : Int) y2 = b := by simp only [impl_areTolerated_l0_a0, Int.toNat_natCast]; exact hget _
      have hc := (containsI_ok b.1 a (by omega)).2
      simp [impl_areTolerated_l0_a0, impl_areTolerated_l0_a1, impl_areTolerated_l0_0, impl_areTolerated_l0_1, impl_areTolerated_l0_2, impl_areTolerated_l0_3, impl_areTolerated_l0_4, impl_areTolerated_l0_5, impl_areTolerated_l0_6, impl_areTolerated_l0_7, impl_areTolerated_l0_8, impl_areTolerated_l0_9, impl_areTolerated_l0_10, lt_impl_areTolerated_l0, lp_impl_areTolerated_l0, LT.nds, allT, st_impl_areTolerated_l0, hdec, hnn, hltd, hget, hc]
      exact .inr (by omega)
    · simp [impl_areTolerated_l0_a0, impl_areTolerated_l0_a1, impl_areTolerated_l0_0, impl_areTolerated_l0_1, impl_areTolerated_l0_2, impl_areTolerated_l0_3, impl_areTolerated_l0_4, impl_areTolerated_l0_5, impl_areTolerated_l0_6, impl_areTolerated_l0_7, impl_areTolerated_l0_8, impl_areTolerated_l0_9, impl_areTolerated_l0_10, lt_impl_areTolerated_l0, lp_impl_areTolerated_l0, LT.each, st_impl_areTolerated_l0, pr_impl_areTolerated_l0, hw]
    · simp only [impl_areTolerated_l0_a0, impl_areTolerated_l0_a1, impl_areTolerated_l0_0, impl_areTolerated_l0_1, impl_areTolerated_l0_2, impl_areTolerated_l0_3, impl_areTolerated_l0_4, impl_areTolerated_l0_5, impl_areTolerated_l0_6, impl_areTolerated_l0_7, impl_areTolerated_l0_8, impl_areTolerated_l0_9, impl_areTolerated_l0_10, lt_impl_areTolerated_l0, lp_impl_areTolerated_l0, LT.fn, st_impl_areTolerated_l0, pr_impl_areTolerated_l0, f_impl_areTolerated_l0, Int.toNat_natCast, hdec, hnn, hltd, hget, cond_true, Bool.cond_self]
    · intro a' hf; simp only [f_impl_areTolerated_l0] at hf; cases hz : b.2.2 == 0 <;> rw [hz] at hf <;> simp at hf <;> (try (cases hc : slices_Contains_int64_int64_0 b.1 a <;> rw [hc] at hf <;> simp at hf)) <;> subst hf <;> (try simp) <;> omega
  · obtain y3 := a
    simp [impl_areTolerated_l0_a0, impl_areTolerated_l0_a1, impl_areTolerated_l0_0, impl_areTolerated_l0_1, impl_areTolerated_l0_2, impl_areTolerated_l0_3, impl_areTolerated_l0_4, impl_areTolerated_l0_5, impl_areTolerated_l0_6, impl_areTolerated_l0_7, impl_areTolerated_l0_8, impl_areTolerated_l0_9, impl_areTolerated_l0_10, lt_impl_areTolerated_l0, lp_impl_areTolerated_l0, LT.out, st_impl_areTolerated_l0]

theorem walk_tol_areTolerated : ∀ (fs : List (Int × Int × Int)) (i : Nat) (a : List Int), a.length + fs.length ≤ 9223372036854775807 → ∃ m b, walkL f_impl_areTolerated_l0 1 fs i a = (bif tolV 0 fs a then 1 else 0, m, b)
  | [], i, a, _ => ⟨i, a, rfl⟩
  | f :: r, i, a, h => by
    simp only [List.length_cons] at h
    simp only [walkL, f_impl_areTolerated_l0, tolV]
    cases hz : f.2.2 == 0 with
    | false => exact walk_tol_areTolerated r (i + 1) a (by omega)
    | true =>
      simp only [cond_true, (containsI_ok f.1 a (by omega)).1]
      cases hh : hasI f.1 a with
      | true => exact ⟨i, a, rfl⟩
      | false => exact walk_tol_areTolerated r (i + 1) (a ++ [f.1]) (by simp; omega)

theorem implTol_areTolerated (fs : List (Int × Int × Int)) (hn : leN fs.length 1000 = true) : impl_areTolerated_0 fs = tolV 0 fs [] ∧ impl_areTolerated_1 fs = true := by
  have hn := leN_iff.1 hn
  obtain ⟨w1, w2⟩ := w_impl_areTolerated_l0 fs [] (by omega) (by omega) rfl
  obtain ⟨m, b, e⟩ := walk_tol_areTolerated fs 0 [] (by simp; omega)
  rw [e] at w2
  have e1 : Lp.fin lp_impl_areTolerated_l0 (impl_areTolerated_a0 fs) = true := w1
  have e2 : lp_impl_areTolerated_l0.res (impl_areTolerated_a0 fs) = _ := w2
  simp only [impl_areTolerated_0, impl_areTolerated_1, e1, e2, allT]
  cases tolV 0 fs [] <;> simp [Nat.beq]

def N_impl_areTolerated : List SV → List Entry → Option Out
  | [.one ⟨false, [.ref 0]⟩], [.row false 94 (.pair (.int .i64) (.pair (.int .i64) (.int .i64))) x0] => some ⟨(.one ⟨false, [(.val (.bool (tolV 0 x0 [])))]⟩), [(.row false 94 (CTy.pair (CTy.int IntKind.i64) (CTy.pair (CTy.int IntKind.i64) (CTy.int IntKind.i64))) x0)], [], [leN x0.length 1000]⟩
  | _, _ => none

def n_impl_areTolerated : PF Try.prog := PF.alt p_impl_areTolerated N_impl_areTolerated (by
  intro args es o h hnd; unfold N_impl_areTolerated at h; split at h
  · rename_i x0
    cases h
    have hnd := nd_fst hnd
    have hh := implTol_areTolerated x0 hnd
    obtain ⟨e0, en⟩ := hh
    exact altok rfl (nd_one en) (by simp only [e0] <;> rfl) rfl rfl
  · cases h)

def f_impl_lockTolerated_l0  (b : Int × (Int × Int)) : (List Int) → Nat ⊕ (List Int)
  | y3 => (bif (((Prod.snd (Prod.snd ((b))) == (1 : Int)))) then (bif ((slices_Contains_int64_int64_0 (Prod.fst ((b))) y3)) then (.inl 0) else (.inr ((y3 ++ [Prod.fst ((b))])))) else (.inr y3))

def st_impl_lockTolerated_l0 (y2 : List (Int × (Int × Int))) (i : Nat) : (List Int) → X_impl_lockTolerated_l0
  | y3 => ((i : Int), (↑(List.length y2) : Int), y2, y3)

def pr_impl_lockTolerated_l0 : X_impl_lockTolerated_l0 → List Int
  | (_, _, _, y3) => y3

theorem w_impl_lockTolerated_l0 (y2 : List (Int × (Int × Int))) (y3 : List Int) (hn : y2.length ≤ 9223372036854775807) (h8 : y2.length ≤ 1000) (h0 : y3 = []) :
    lp_impl_lockTolerated_l0.fin ((0 : Int), (↑(List.length y2) : Int), y2, y3) = true ∧ lp_impl_lockTolerated_l0.res ((0 : Int), (↑(List.length y2) : Int), y2, y3) = ((walkL (f_impl_lockTolerated_l0) 1 y2 0 y3).1, (st_impl_lockTolerated_l0 y2) (walkL (f_impl_lockTolerated_l0) 1 y2 0 y3).2.1 (walkL (f_impl_lockTolerated_l0) 1 y2 0 y3).2.2) := by
  have key := lp_impl_lockTolerated_l0.along (st_impl_lockTolerated_l0 y2) pr_impl_lockTolerated_l0 (f_impl_lockTolerated_l0) 1 (fun i a => a.length ≤ i) y2 y3 (by subst h0; simp) (by simp only [lp_impl_lockTolerated_l0, st_impl_lockTolerated_l0]; omega) (fun i b a hb hI => ?_) (fun a hI => ?_)
  · exact key
  · obtain y3 := a
    have hlt := (List.getElem?_eq_some_iff.1 hb).1
    have hget : ∀ d, Option.getD y2[i]? d = b := fun d => by rw [hb]; rfl
    have hw := wrap64 hlt hn
    have hdec : ltI (i : Int) (y2.length : Int) = true := ltI_t (by omega)
    have hnn : leI (0 : Int) (i : Int) = true := leI_t (by omega)
    have hltd : ltN i y2.length = true := ltN_t hlt
    refine ⟨?_, ?_, ?_, ?_⟩
    · have hg2 : impl_lockTolerated_l0_a0 (i : Int) y2 = b := by simp only [impl_lockTolerated_l0_a0, Int.toNat_natCast]; exact hget _
      have hc := (containsI_ok b.1 a (by omega)).2
      simp [impl_lockTolerated_l0_a0, impl_lockTolerated_l0_a1, impl_lockTolerated_l0_0, impl_lockTolerated_l0_1, impl_lockTolerated_l0_2, impl_lockTolerated_l0_3, impl_lockTolerated_l0_4, impl_lockTolerated_l0_5, impl_lockTolerated_l0_6, impl_lockTolerated_l0_7, impl_lockTolerated_l0_8, impl_lockTolerated_l0_9, impl_lockTolerated_l0_10, lt_impl_lockTolerated_l0, lp_impl_lockTolerated_l0, LT.nds, allT, st_impl_lockTolerated_l0, hdec, hnn, hltd, hget, hc]
      exact .inr (by omega)
    · simp [impl_lockTolerated_l0_a0, impl_lockTolerated_l0_a1, impl_lockTolerated_l0_0, impl_lockTolerated_l0_1, impl_lockTolerated_l0_2, impl_lockTolerated_l0_3, impl_lockTolerated_l0_4, impl_lockTolerated_l0_5, impl_lockTolerated_l0_6, impl_lockTolerated_l0_7, impl_lockTolerated_l0_8, impl_lockTolerated_l0_9, impl_lockTolerated_l0_10, lt_impl_lockTolerated_l0, lp_impl_lockTolerated_l0, LT.each, st_impl_lockTolerated_l0, pr_impl_lockTolerated_l0, hw]
    · simp only [impl_lockTolerated_l0_a0, impl_lockTolerated_l0_a1, impl_lockTolerated_l0_0, impl_lockTolerated_l0_1, impl_lockTolerated_l0_2, impl_lockTolerated_l0_3, impl_lockTolerated_l0_4, impl_lockTolerated_l0_5, impl_lockTolerated_l0_6, impl_lockTolerated_l0_7, impl_lockTolerated_l0_8, impl_lockTolerated_l0_9, impl_lockTolerated_l0_10, lt_impl_lockTolerated_l0, lp_impl_lockTolerated_l0, LT.fn, st_impl_lockTolerated_l0, pr_impl_lockTolerated_l0, f_impl_lockTolerated_l0, Int.toNat_natCast, hdec, hnn, hltd, hget, cond_true, Bool.cond_self]
    · intro a' hf; simp only [f_impl_lockTolerated_l0] at hf; cases hz : b.2.2 == 1 <;> rw [hz] at hf <;> simp at hf <;> (try (cases hc : slices_Contains_int64_int64_0 b.1 a <;> rw [hc] at hf <;> simp at hf)) <;> subst hf <;> (try simp) <;> omega
  · obtain y3 := a
    simp [impl_lockTolerated_l0_a0, impl_lockTolerated_l0_a1, impl_lockTolerated_l0_0, impl_lockTolerated_l0_1, impl_lockTolerated_l0_2, impl_lockTolerated_l0_3, impl_lockTolerated_l0_4, impl_lockTolerated_l0_5, impl_lockTolerated_l0_6, impl_lockTolerated_l0_7, impl_lockTolerated_l0_8, impl_lockTolerated_l0_9, impl_lockTolerated_l0_10, lt_impl_lockTolerated_l0, lp_impl_lockTolerated_l0, LT.out, st_impl_lockTolerated_l0]

theorem walk_tol_lockTolerated : ∀ (fs : List (Int × Int × Int)) (i : Nat) (a : List Int), a.length + fs.length ≤ 9223372036854775807 → ∃ m b, walkL f_impl_lockTolerated_l0 1 fs i a = (bif tolV 1 fs a then 1 else 0, m, b)
  | [], i, a, _ => ⟨i, a, rfl⟩
  | f :: r, i, a, h => by
    simp only [List.length_cons] at h
    simp only [walkL, f_impl_lockTolerated_l0, tolV]
    cases hz : f.2.2 == 1 with
    | false => exact walk_tol_lockTolerated r (i + 1) a (by omega)
    | true =>
      simp only [cond_true, (containsI_ok f.1 a (by omega)).1]
      cases hh : hasI f.1 a with
      | true => exact ⟨i, a, rfl⟩
      | false => exact walk_tol_lockTolerated r (i + 1) (a ++ [f.1]) (by simp; omega)

theorem implTol_lockTolerated (fs : List (Int × Int × Int)) (hn : leN fs.length 1000 = true) : impl_lockTolerated_0 fs = tolV 1 fs [] ∧ impl_lockTolerated_1 fs = true := by
  have hn := leN_iff.1 hn
  obtain ⟨w1, w2⟩ := w_impl_lockTolerated_l0 fs [] (by omega) (by omega) rfl
  obtain ⟨m, b, e⟩ := walk_tol_lockTolerated fs 0 [] (by simp; omega)
  rw [e] at w2
  have e1 : Lp.fin lp_impl_lockTolerated_l0 (impl_lockTolerated_a0 fs) = true := w1
  have e2 : lp_impl_lockTolerated_l0.res (impl_lockTolerated_a0 fs) = _ := w2
  simp only [impl_lockTolerated_0, impl_lockTolerated_1, e1, e2, allT]
  cases tolV 1 fs [] <;> simp [Nat.beq]

def N_impl_lockTolerated : List SV → List Entry → Option Out
  | [.one ⟨false, [.ref 0]⟩], [.row false 96 (.pair (.int .i64) (.pair (.int .i64) (.int .i64))) x0] => some ⟨(.one ⟨false, [(.val (.bool (tolV 1 x0 [])))]⟩), [(.row false 96 (CTy.pair (CTy.int IntKind.i64) (CTy.pair (CTy.int IntKind.i64) (CTy.int IntKind.i64))) x0)], [], [leN x0.length 1000]⟩
  | _, _ => none

def n_impl_lockTolerated : PF Try.prog := PF.alt p_impl_lockTolerated N_impl_lockTolerated (by
  intro args es o h hnd; unfold N_impl_lockTolerated at h; split at h
  · rename_i x0
    cases h
    have hnd := nd_fst hnd
    have hh := implTol_lockTolerated x0 hnd
    obtain ⟨e0, en⟩ := hh
    exact altok rfl (nd_one en) (by simp only [e0] <;> rfl) rfl rfl
  · cases h)

def f_spec_AreTolerated_l0_l0 (y1 : Int) (y2 : List (Int × (Int × Int))) (b : Nat) : (Unit) → Nat ⊕ (Unit)
  | _ => (bif ((bif (bif (Prod.fst ((Option.getD y2[b]? ((0 : Int), (0 : Int), (0 : Int)))) == Prod.fst ((Option.getD y2[Int.toNat y1]? ((0 : Int), (0 : Int), (0 : Int))))) then Prod.snd (Prod.snd ((Option.getD y2[b]? ((0 : Int), (0 : Int), (0 : Int))))) == (0 : Int) else false) then Prod.snd (Prod.snd ((Option.getD y2[Int.toNat y1]? ((0 : Int), (0 : Int), (0 : Int))))) == (0 : Int) else false)) then (.inl 0) else (.inr ()))

def st_spec_AreTolerated_l0_l0 (y1 : Int) (y2 : List (Int × (Int × Int))) (i : Nat) : (Unit) → X_spec_AreTolerated_l0_l0
  | _ => ((i : Int), y1, y2)

def pr_spec_AreTolerated_l0_l0 : X_spec_AreTolerated_l0_l0 → Unit
  | (_, _, _) => ()

theorem w_spec_AreTolerated_l0_l0 (y1 : Int) (y2 : List (Int × (Int × Int)))  (hn : y1 ≤ 9223372036854775807) (hb : y1 ≤ (y2.length : Int)) (h1 : 0 ≤ y1) (h2 : y1 < (y2.length : Int)) :
    lp_spec_AreTolerated_l0_l0.fin ((0 : Int), y1, y2) = true ∧ lp_spec_AreTolerated_l0_l0.res ((0 : Int), y1, y2) = ((walkL (f_spec_AreTolerated_l0_l0 y1 y2) 1 (List.range y1.toNat) 0 ()).1, (st_spec_AreTolerated_l0_l0 y1 y2) (walkL (f_spec_AreTolerated_l0_l0 y1 y2) 1 (List.range y1.toNat) 0 ()).2.1 (walkL (f_spec_AreTolerated_l0_l0 y1 y2) 1 (List.range y1.toNat) 0 ()).2.2) := by
  have key := lp_spec_AreTolerated_l0_l0.along (st_spec_AreTolerated_l0_l0 y1 y2) pr_spec_AreTolerated_l0_l0 (f_spec_AreTolerated_l0_l0 y1 y2) 1 (fun _ _ => True) (List.range y1.toNat) () (by trivial) (by simp only [lp_spec_AreTolerated_l0_l0, st_spec_AreTolerated_l0_l0, List.length_range]; omega) (fun i b a hb hI => ?_) (fun a hI => ?_)
  · exact key
  · obtain ⟨⟩ := a
    obtain ⟨rfl, hlt⟩ := range_get hb
    have hw : IntKind.i64.wrap ((b : Int) + 1) = ((b + 1 : Nat) : Int) := by rw [wrap_i64 (by omega) (by omega)]; omega
    have hdec : ltI (b : Int) y1 = true := ltI_t (by omega)
    have hnn : leI (0 : Int) (b : Int) = true := leI_t (by omega)
    refine ⟨?_, ?_, ?_, ?_⟩
    · have q1 : ltI (b : Int) (y2.length : Int) = true := ltI_t (by omega)
      have q2 : ltN b y2.length = true := ltN_t (by omega)
      have q3 : leI 0 y1 = true := leI_t h1
      have q4 : ltI y1 (y2.length : Int) = true := ltI_t h2
      have q5 : ltN y1.toNat y2.length = true := ltN_t (by omega)
      simp [spec_AreTolerated_l0_l0_a0, spec_AreTolerated_l0_l0_a1, spec_AreTolerated_l0_l0_a2, spec_AreTolerated_l0_l0_a3, spec_AreTolerated_l0_l0_0, spec_AreTolerated_l0_l0_1, spec_AreTolerated_l0_l0_2, spec_AreTolerated_l0_l0_3, spec_AreTolerated_l0_l0_4, spec_AreTolerated_l0_l0_5, spec_AreTolerated_l0_l0_6, spec_AreTolerated_l0_l0_7, spec_AreTolerated_l0_l0_8, spec_AreTolerated_l0_l0_9, spec_AreTolerated_l0_l0_10, spec_AreTolerated_l0_l0_11, spec_AreTolerated_l0_l0_12, spec_AreTolerated_l0_l0_13, spec_AreTolerated_l0_l0_14, lt_spec_AreTolerated_l0_l0, lp_spec_AreTolerated_l0_l0, LT.nds, allT, st_spec_AreTolerated_l0_l0, hdec, hnn, q1, q2, q3, q4, q5]
    · simp [spec_AreTolerated_l0_l0_a0, spec_AreTolerated_l0_l0_a1, spec_AreTolerated_l0_l0_a2, spec_AreTolerated_l0_l0_a3, spec_AreTolerated_l0_l0_0, spec_AreTolerated_l0_l0_1, spec_AreTolerated_l0_l0_2, spec_AreTolerated_l0_l0_3, spec_AreTolerated_l0_l0_4, spec_AreTolerated_l0_l0_5, spec_AreTolerated_l0_l0_6, spec_AreTolerated_l0_l0_7, spec_AreTolerated_l0_l0_8, spec_AreTolerated_l0_l0_9, spec_AreTolerated_l0_l0_10, spec_AreTolerated_l0_l0_11, spec_AreTolerated_l0_l0_12, spec_AreTolerated_l0_l0_13, spec_AreTolerated_l0_l0_14, lt_spec_AreTolerated_l0_l0, lp_spec_AreTolerated_l0_l0, LT.each, st_spec_AreTolerated_l0_l0, pr_spec_AreTolerated_l0_l0, hw]
    · simp only [spec_AreTolerated_l0_l0_a0, spec_AreTolerated_l0_l0_a1, spec_AreTolerated_l0_l0_a2, spec_AreTolerated_l0_l0_a3, spec_AreTolerated_l0_l0_0, spec_AreTolerated_l0_l0_1, spec_AreTolerated_l0_l0_2, spec_AreTolerated_l0_l0_3, spec_AreTolerated_l0_l0_4, spec_AreTolerated_l0_l0_5, spec_AreTolerated_l0_l0_6, spec_AreTolerated_l0_l0_7, spec_AreTolerated_l0_l0_8, spec_AreTolerated_l0_l0_9, spec_AreTolerated_l0_l0_10, spec_AreTolerated_l0_l0_11, spec_AreTolerated_l0_l0_12, spec_AreTolerated_l0_l0_13, spec_AreTolerated_l0_l0_14, lt_spec_AreTolerated_l0_l0, lp_spec_AreTolerated_l0_l0, LT.fn, st_spec_AreTolerated_l0_l0, pr_spec_AreTolerated_l0_l0, f_spec_AreTolerated_l0_l0, Int.toNat_natCast, hdec, hnn, cond_true, Bool.cond_self]
    · exact fun _ _ => trivial
  · obtain ⟨⟩ := a
    simp only [spec_AreTolerated_l0_l0_a0, spec_AreTolerated_l0_l0_a1, spec_AreTolerated_l0_l0_a2, spec_AreTolerated_l0_l0_a3, spec_AreTolerated_l0_l0_0, spec_AreTolerated_l0_l0_1, spec_AreTolerated_l0_l0_2, spec_AreTolerated_l0_l0_3, spec_AreTolerated_l0_l0_4, spec_AreTolerated_l0_l0_5, spec_AreTolerated_l0_l0_6, spec_AreTolerated_l0_l0_7, spec_AreTolerated_l0_l0_8, spec_AreTolerated_l0_l0_9, spec_AreTolerated_l0_l0_10, spec_AreTolerated_l0_l0_11, spec_AreTolerated_l0_l0_12, spec_AreTolerated_l0_l0_13, spec_AreTolerated_l0_l0_14, lt_spec_AreTolerated_l0_l0, lp_spec_AreTolerated_l0_l0, LT.out, st_spec_AreTolerated_l0_l0, List.length_range, ltI_toNat, ltI_down, cond_false]

theorem inner_spec_AreTolerated (fs : List (Int × Int × Int)) (b : Nat) (hb : b < fs.length) (hn : fs.length ≤ 9223372036854775807) :
    spec_AreTolerated_l0_1 (b : Int) fs = true ∧ spec_AreTolerated_l0_2 (b : Int) fs = dupV 0 fs b := by
  obtain ⟨w1, w2⟩ := w_spec_AreTolerated_l0_l0 (b : Int) fs (by omega) (by omega) (by omega) (by omega)
  rw [walk_stop (P := fun j => dupQ 0 (fAt fs b) (fs[j]?.getD (0, 0, 0))) (j := 0) (fun j => by
    simp only [f_spec_AreTolerated_l0_l0, dupQ, fAt, Int.toNat_natCast]
    cases (fs[j]?.getD (0, 0, 0)).1 == (fs[b]?.getD (0, 0, 0)).1 <;> cases (fs[j]?.getD (0, 0, 0)).2.2 == 0 <;> cases (fs[b]?.getD (0, 0, 0)).2.2 == 0 <;> rfl), Int.toNat_natCast, any_take (P := dupQ 0 (fAt fs b)) (by omega)] at w2
  have e0 : spec_AreTolerated_l0_a0 (b : Int) fs = ((0 : Int), (b : Int), fs) := rfl
  refine ⟨by simp only [spec_AreTolerated_l0_1, e0, w1], ?_⟩
  simp only [spec_AreTolerated_l0_2, e0, w2, dupV]
  rw [show ((fs.take b).any fun g => g.1 == (fAt fs b).1 && (g.2.2 == 0 && (fAt fs b).2.2 == 0)) = (fs.take b).any (dupQ 0 (fAt fs b)) from rfl]
  cases (fs.take b).any (dupQ 0 (fAt fs b)) <;> rfl

theorem w_spec_AreTolerated (fs : List (Int × Int × Int)) (hn : fs.length ≤ 9223372036854775807) :
    lp_spec_AreTolerated_l0.fin ((0 : Int), fs) = true ∧ (lp_spec_AreTolerated_l0.res ((0 : Int), fs)).1 = bif (List.range fs.length).any (dupV 0 fs) then 0 else 1 := by
  refine Lp.scan lp_spec_AreTolerated_l0 (fun b => ((b : Int), fs)) fs.length (dupV 0 fs) 1 (by simp only [lp_spec_AreTolerated_l0]; omega) (fun b hb => ?_) ?_
  · obtain ⟨i1, i2⟩ := inner_spec_AreTolerated fs b hb hn
    have hdec : ltI (b : Int) (fs.length : Int) = true := ltI_t (by omega)
    have hw : IntKind.i64.wrap ((b : Int) + 1) = ((b + 1 : Nat) : Int) := by rw [wrap_i64 (by omega) (by omega)]; omega
    refine ⟨?_, ?_, ?_⟩
    · simp [lp_spec_AreTolerated_l0, lt_spec_AreTolerated_l0, LT.nds, allT, spec_AreTolerated_l0_0, hdec, i1]
    · simp [lp_spec_AreTolerated_l0, lt_spec_AreTolerated_l0, LT.each, spec_AreTolerated_l0_3, hw]
    · simp only [lp_spec_AreTolerated_l0, lt_spec_AreTolerated_l0, LT.fn, spec_AreTolerated_l0_0, hdec, i2, cond_true]
  · simp [lp_spec_AreTolerated_l0, lt_spec_AreTolerated_l0, LT.out, spec_AreTolerated_l0_0]

def f_spec_AreLockFaultsTolerated_l0_l0 (y1 : Int) (y2 : List (Int × (Int × Int))) (b : Nat) : (Unit) → Nat ⊕ (Unit)
  | _ => (bif ((bif (bif (Prod.fst ((Option.getD y2[b]? ((0 : Int), (0 : Int), (0 : Int)))) == Prod.fst ((Option.getD y2[Int.toNat y1]? ((0 : Int), (0 : Int), (0 : Int))))) then Prod.snd (Prod.snd ((Option.getD y2[b]? ((0 : Int), (0 : Int), (0 : Int))))) == (1 : Int) else false) then Prod.snd (Prod.snd ((Option.getD y2[Int.toNat y1]? ((0 : Int), (0 : Int), (0 : Int))))) == (1 : Int) else false)) then (.inl 0) else (.inr ()))

def st_spec_AreLockFaultsTolerated_l0_l0 (y1 : Int) (y2 : List (Int × (Int × Int))) (i : Nat) : (Unit) → X_spec_AreLockFaultsTolerated_l0_l0
  | _ => ((i : Int), y1, y2)

def pr_spec_AreLockFaultsTolerated_l0_l0 : X_spec_AreLockFaultsTolerated_l0_l0 → Unit
  | (_, _, _) => ()

theorem w_spec_AreLockFaultsTolerated_l0_l0 (y1 : Int) (y2 : List (Int × (Int × Int)))  (hn : y1 ≤ 9223372036854775807) (hb : y1 ≤ (y2.length : Int)) (h1 : 0 ≤ y1) (h2 : y1 < (y2.length : Int)) :
    lp_spec_AreLockFaultsTolerated_l0_l0.fin ((0 : Int), y1, y2) = true ∧ lp_spec_AreLockFaultsTolerated_l0_l0.res ((0 : Int), y1, y2) = ((walkL (f_spec_AreLockFaultsTolerated_l0_l0 y1 y2) 1 (List.range y1.toNat) 0 ()).1, (st_spec_AreLockFaultsTolerated_l0_l0 y1 y2) (walkL (f_spec_AreLockFaultsTolerated_l0_l0 y1 y2) 1 (List.range y1.toNat) 0 ()).2.1 (walkL (f_spec_AreLockFaultsTolerated_l0_l0 y1 y2) 1 (List.range y1.toNat) 0 ()).2.2) := by
  have key := lp_spec_AreLockFaultsTolerated_l0_l0.along (st_spec_AreLockFaultsTolerated_l0_l0 y1 y2) pr_spec_AreLockFaultsTolerated_l0_l0 (f_spec_AreLockFaultsTolerated_l0_l0 y1 y2) 1 (fun _ _ => True) (List.range y1.toNat) () (by trivial) (by simp only [lp_spec_AreLockFaultsTolerated_l0_l0, st_spec_AreLockFaultsTolerated_l0_l0, List.length_range]; omega) (fun i b a hb hI => ?_) (fun a hI => ?_)
  · exact key
  · obtain ⟨⟩ := a
    obtain ⟨rfl, hlt⟩ := range_get hb
    have hw : IntKind.i64.wrap ((b : Int) + 1) = ((b + 1 : Nat) : Int) := by rw [wrap_i64 (by omega) (by omega)]; omega
    have hdec : ltI (b : Int) y1 = true := ltI_t (by omega)
    have hnn : leI (0 : Int) (b : Int) = true := leI_t (by omega)
    refine ⟨?_, ?_, ?_, ?_⟩
    · have q1 : ltI (b : Int) (y2.length : Int) = true := ltI_t (by omega)
      have q2 : ltN b y2.length = true := ltN_t (by omega)
      have q3 : leI 0 y1 = true := leI_t h1
      have q4 : ltI y1 (y2.length : Int) = true := ltI_t h2
      have q5 : ltN y1.toNat y2.length = true := ltN_t (by omega)
      simp [spec_AreLockFaultsTolerated_l0_l0_a0, spec_AreLockFaultsTolerated_l0_l0_a1, spec_AreLockFaultsTolerated_l0_l0_a2, spec_AreLockFaultsTolerated_l0_l0_a3, spec_AreLockFaultsTolerated_l0_l0_0, spec_AreLockFaultsTolerated_l0_l0_1, spec_AreLockFaultsTolerated_l0_l0_2, spec_AreLockFaultsTolerated_l0_l0_3, spec_AreLockFaultsTolerated_l0_l0_4, spec_AreLockFaultsTolerated_l0_l0_5, spec_AreLockFaultsTolerated_l0_l0_6, spec_AreLockFaultsTolerated_l0_l0_7, spec_AreLockFaultsTolerated_l0_l0_8, spec_AreLockFaultsTolerated_l0_l0_9, spec_AreLockFaultsTolerated_l0_l0_10, spec_AreLockFaultsTolerated_l0_l0_11, spec_AreLockFaultsTolerated_l0_l0_12, spec_AreLockFaultsTolerated_l0_l0_13, spec_AreLockFaultsTolerated_l0_l0_14, lt_spec_AreLockFaultsTolerated_l0_l0, lp_spec_AreLockFaultsTolerated_l0_l0, LT.nds, allT, st_spec_AreLockFaultsTolerated_l0_l0, hdec, hnn, q1, q2, q3, q4, q5]
    · simp [spec_AreLockFaultsTolerated_l0_l0_a0, spec_AreLockFaultsTolerated_l0_l0_a1, spec_AreLockFaultsTolerated_l0_l0_a2, spec_AreLockFaultsTolerated_l0_l0_a3, spec_AreLockFaultsTolerated_l0_l0_0, spec_AreLockFaultsTolerated_l0_l0_1, spec_AreLockFaultsTolerated_l0_l0_2, spec_AreLockFaultsTolerated_l0_l0_3, spec_AreLockFaultsTolerated_l0_l0_4, spec_AreLockFaultsTolerated_l0_l0_5, spec_AreLockFaultsTolerated_l0_l0_6, spec_AreLockFaultsTolerated_l0_l0_7, spec_AreLockFaultsTolerated_l0_l0_8, spec_AreLockFaultsTolerated_l0_l0_9, spec_AreLockFaultsTolerated_l0_l0_10, spec_AreLockFaultsTolerated_l0_l0_11, spec_AreLockFaultsTolerated_l0_l0_12, spec_AreLockFaultsTolerated_l0_l0_13, spec_AreLockFaultsTolerated_l0_l0_14, lt_spec_AreLockFaultsTolerated_l0_l0, lp_spec_AreLockFaultsTolerated_l0_l0, LT.each, st_spec_AreLockFaultsTolerated_l0_l0, pr_spec_AreLockFaultsTolerated_l0_l0, hw]
    · simp only [spec_AreLockFaultsTolerated_l0_l0_a0, spec_AreLockFaultsTolerated_l0_l0_a1, spec_AreLockFaultsTolerated_l0_l0_a2, spec_AreLockFaultsTolerated_l0_l0_a3, spec_AreLockFaultsTolerated_l0_l0_0, spec_AreLockFaultsTolerated_l0_l0_1, spec_AreLockFaultsTolerated_l0_l0_2, spec_AreLockFaultsTolerated_l0_l0_3, spec_AreLockFaultsTolerated_l0_l0_4, spec_AreLockFaultsTolerated_l0_l0_5, spec_AreLockFaultsTolerated_l0_l0_6, spec_AreLockFaultsTolerated_l0_l0_7, spec_AreLockFaultsTolerated_l0_l0_8, spec_AreLockFaultsTolerated_l0_l0_9, spec_AreLockFaultsTolerated_l0_l0_10, spec_AreLockFaultsTolerated_l0_l0_11, spec_AreLockFaultsTolerated_l0_l0_12, spec_AreLockFaultsTolerated_l0_l0_13, spec_AreLockFaultsTolerated_l0_l0_14, lt_spec_AreLockFaultsTolerated_l0_l0, lp_spec_AreLockFaultsTolerated_l0_l0, LT.fn, st_spec_AreLockFaultsTolerated_l0_l0, pr_spec_AreLockFaultsTolerated_l0_l0, f_spec_AreLockFaultsTolerated_l0_l0, Int.toNat_natCast, hdec, hnn, cond_true, Bool.cond_self]
    · exact fun _ _ => trivial
  · obtain ⟨⟩ := a
    simp only [spec_AreLockFaultsTolerated_l0_l0_a0, spec_AreLockFaultsTolerated_l0_l0_a1, spec_AreLockFaultsTolerated_l0_l0_a2, spec_AreLockFaultsTolerated_l0_l0_a3, spec_AreLockFaultsTolerated_l0_l0_0, spec_AreLockFaultsTolerated_l0_l0_1, spec_AreLockFaultsTolerated_l0_l0_2, spec_AreLockFaultsTolerated_l0_l0_3, spec_AreLockFaultsTolerated_l0_l0_4, spec_AreLockFaultsTolerated_l0_l0_5, spec_AreLockFaultsTolerated_l0_l0_6, spec_AreLockFaultsTolerated_l0_l0_7, spec_AreLockFaultsTolerated_l0_l0_8, spec_AreLockFaultsTolerated_l0_l0_9, spec_AreLockFaultsTolerated_l0_l0_10, spec_AreLockFaultsTolerated_l0_l0_11, spec_AreLockFaultsTolerated_l0_l0_12, spec_AreLockFaultsTolerated_l0_l0_13, spec_AreLockFaultsTolerated_l0_l0_14, lt_spec_AreLockFaultsTolerated_l0_l0, lp_spec_AreLockFaultsTolerated_l0_l0, LT.out, st_spec_AreLockFaultsTolerated_l0_l0, List.length_range, ltI_toNat, ltI_down, cond_false]

theorem inner_spec_AreLockFaultsTolerated (fs : List (Int × Int × Int)) (b : Nat) (hb : b < fs.length) (hn : fs.length ≤ 9223372036854775807) :
    spec_AreLockFaultsTolerated_l0_1 (b : Int) fs = true ∧ spec_AreLockFaultsTolerated_l0_2 (b : Int) fs = dupV 1 fs b := by
  obtain ⟨w1, w2⟩ := w_spec_AreLockFaultsTolerated_l0_l0 (b : Int) fs (by omega) (by omega) (by omega) (by omega)
  rw [walk_stop (P := fun j => dupQ 1 (fAt fs b) (fs[j]?.getD (0, 0, 0))) (j := 0) (fun j => by
    simp only [f_spec_AreLockFaultsTolerated_l0_l0, dupQ, fAt, Int.toNat_natCast]
    cases (fs[j]?.getD (0, 0, 0)).1 == (fs[b]?.getD (0, 0, 0)).1 <;> cases (fs[j]?.getD (0, 0, 0)).2.2 == 1 <;> cases (fs[b]?.getD (0, 0, 0)).2.2 == 1 <;> rfl), Int.toNat_natCast, any_take (P := dupQ 1 (fAt fs b)) (by omega)] at w2
  have e0 : spec_AreLockFaultsTolerated_l0_a0 (b : Int) fs = ((0 : Int), (b : Int), fs) := rfl
  refine ⟨by simp only [spec_AreLockFaultsTolerated_l0_1, e0, w1], ?_⟩
  simp only [spec_AreLockFaultsTolerated_l0_2, e0, w2, dupV]
  rw [show ((fs.take b).any fun g => g.1 == (fAt fs b).1 && (g.2.2 == 1 && (fAt fs b).2.2 == 1)) = (fs.take b).any (dupQ 1 (fAt fs b)) from rfl]
  cases (fs.take b).any (dupQ 1 (fAt fs b)) <;> rfl

theorem w_spec_AreLockFaultsTolerated (fs : List (Int × Int × Int)) (hn : fs.length ≤ 9223372036854775807) :
    lp_spec_AreLockFaultsTolerated_l0.fin ((0 : Int), fs) = true ∧ (lp_spec_AreLockFaultsTolerated_l0.res ((0 : Int), fs)).1 = bif (List.range fs.length).any (dupV 1 fs) then 0 else 1 := by
  refine Lp.scan lp_spec_AreLockFaultsTolerated_l0 (fun b => ((b : Int), fs)) fs.length (dupV 1 fs) 1 (by simp only [lp_spec_AreLockFaultsTolerated_l0]; omega) (fun b hb => ?_) ?_
  · obtain ⟨i1, i2⟩ := inner_spec_AreLockFaultsTolerated fs b hb hn
    have hdec : ltI (b : Int) (fs.length : Int) = true := ltI_t (by omega)
    have hw : IntKind.i64.wrap ((b : Int) + 1) = ((b + 1 : Nat) : Int) := by rw [wrap_i64 (by omega) (by omega)]; omega
    refine ⟨?_, ?_, ?_⟩
    · simp [lp_spec_AreLockFaultsTolerated_l0, lt_spec_AreLockFaultsTolerated_l0, LT.nds, allT, spec_AreLockFaultsTolerated_l0_0, hdec, i1]
    · simp [lp_spec_AreLockFaultsTolerated_l0, lt_spec_AreLockFaultsTolerated_l0, LT.each, spec_AreLockFaultsTolerated_l0_3, hw]
    · simp only [lp_spec_AreLockFaultsTolerated_l0, lt_spec_AreLockFaultsTolerated_l0, LT.fn, spec_AreLockFaultsTolerated_l0_0, hdec, i2, cond_true]
  · simp [lp_spec_AreLockFaultsTolerated_l0, lt_spec_AreLockFaultsTolerated_l0, LT.out, spec_AreLockFaultsTolerated_l0_0]

theorem any_all_dup (v : Int) (fs : List (Int × Int × Int)) : (List.range fs.length).any (dupV v fs) = !tolV v fs [] := by
  rw [tolV_dup]; simp [List.all_eq_not_any_not]

theorem specTol_ok (n : Int) (fs : List (Int × Int × Int)) (hn : leN fs.length 9223372036854775807 = true) : spec_AreTolerated_0 n fs = (tolV 0 fs [] && (inR n 2 8 && okFs n fs)) ∧ spec_AreTolerated_1 fs = true := by
  obtain ⟨w1, w2⟩ := w_spec_AreTolerated fs (leN_iff.1 hn)
  rw [any_all_dup] at w2
  simp only [spec_AreTolerated_0, spec_AreTolerated_1, spec_AreTolerated_a0, spec_AreTolerated_a1, w1, w2, hn, allT, Bool.or_true, cond_true]
  cases tolV 0 fs [] <;> simp [Nat.beq]

theorem specLTol_ok (n : Int) (fs : List (Int × Int × Int)) (hn : leN fs.length 9223372036854775807 = true) : spec_AreLockFaultsTolerated_0 n fs = (tolV 1 fs [] && lfOk n fs) ∧ spec_AreLockFaultsTolerated_1 n fs = true := by
  obtain ⟨w1, w2⟩ := w_spec_AreLockFaultsTolerated fs (leN_iff.1 hn)
  rw [any_all_dup] at w2
  obtain ⟨l1, l2⟩ := specLF_ok n fs hn
  simp only [spec_AreLockFaultsTolerated_0, spec_AreLockFaultsTolerated_1, spec_AreLockFaultsTolerated_a0, spec_AreLockFaultsTolerated_a1, w1, w2, l1, l2, allT, Bool.or_true, cond_true]
  cases tolV 1 fs [] <;> simp [Nat.beq]

def N_spec_AreTolerated : List SV → List Entry → Option Out
  | [.one ⟨false, [.val (.int .i64 x0)]⟩, .one ⟨false, [.ref 0]⟩], [.row false 94 (.pair (.int .i64) (.pair (.int .i64) (.int .i64))) x1] => some ⟨(.one ⟨false, [(.val (.bool (tolV 0 x1 [] && (inR x0 2 8 && okFs x0 x1))))]⟩), [(.row false 94 (CTy.pair (CTy.int IntKind.i64) (CTy.pair (CTy.int IntKind.i64) (CTy.int IntKind.i64))) x1)], [], [leN x1.length 9223372036854775807]⟩
  | _, _ => none

def n_spec_AreTolerated : PF Try.prog := PF.alt p_spec_AreTolerated N_spec_AreTolerated (by
  intro args es o h hnd; unfold N_spec_AreTolerated at h; split at h
  · rename_i x0 x1
    cases h
    have hnd := nd_fst hnd
    have hh := specTol_ok x0 x1 hnd
    obtain ⟨e0, en⟩ := hh
    exact altok rfl (nd_one en) (by simp only [e0] <;> rfl) rfl rfl
  · cases h)

def N_spec_AreLockFaultsTolerated : List SV → List Entry → Option Out
  | [.one ⟨false, [.val (.int .i64 x0)]⟩, .one ⟨false, [.ref 0]⟩], [.row false 96 (.pair (.int .i64) (.pair (.int .i64) (.int .i64))) x1] => some ⟨(.one ⟨false, [(.val (.bool (tolV 1 x1 [] && lfOk x0 x1)))]⟩), [(.row false 96 (CTy.pair (CTy.int IntKind.i64) (CTy.pair (CTy.int IntKind.i64) (CTy.int IntKind.i64))) x1)], [], [leN x1.length 9223372036854775807]⟩
  | _, _ => none

def n_spec_AreLockFaultsTolerated : PF Try.prog := PF.alt p_spec_AreLockFaultsTolerated N_spec_AreLockFaultsTolerated (by
  intro args es o h hnd; unfold N_spec_AreLockFaultsTolerated at h; split at h
  · rename_i x0 x1
    cases h
    have hnd := nd_fst hnd
    have hh := specLTol_ok x0 x1 hnd
    obtain ⟨e0, en⟩ := hh
    exact altok rfl (nd_one en) (by simp only [e0] <;> rfl) rfl rfl
  · cases h)

/-! ### Padlocks -/

def f_spec_l29Find_l0 (y1 : Int) (y2 : Int) (b : Int × Int) : (Unit) → Nat ⊕ (Unit)
  | _ => (bif ((bif Prod.fst ((b)) == y1 then Prod.snd ((b)) == y2 else false)) then (.inl 0) else (.inr ()))

def st_spec_l29Find_l0 (y1 : Int) (y2 : Int) (y3 : List (Int × Int)) (i : Nat) : (Unit) → X_spec_l29Find_l0
  | _ => ((i : Int), y1, y2, y3)

def pr_spec_l29Find_l0 : X_spec_l29Find_l0 → Unit
  | (_, _, _, _) => ()

theorem w_spec_l29Find_l0 (y1 : Int) (y2 : Int) (y3 : List (Int × Int))  (hn : y3.length ≤ 9223372036854775807)  :
    lp_spec_l29Find_l0.fin ((0 : Int), y1, y2, y3) = true ∧ lp_spec_l29Find_l0.res ((0 : Int), y1, y2, y3) = ((walkL (f_spec_l29Find_l0 y1 y2) 1 y3 0 ()).1, (st_spec_l29Find_l0 y1 y2 y3) (walkL (f_spec_l29Find_l0 y1 y2) 1 y3 0 ()).2.1 (walkL (f_spec_l29Find_l0 y1 y2) 1 y3 0 ()).2.2) := by
  have key := lp_spec_l29Find_l0.along (st_spec_l29Find_l0 y1 y2 y3) pr_spec_l29Find_l0 (f_spec_l29Find_l0 y1 y2) 1 (fun _ _ => True) y3 () (by trivial) (by simp only [lp_spec_l29Find_l0, st_spec_l29Find_l0]; omega) (fun i b a hb hI => ?_) (fun a hI => ?_)
  · exact key
  · obtain ⟨⟩ := a
    have hlt := (List.getElem?_eq_some_iff.1 hb).1
    have hget : ∀ d, Option.getD y3[i]? d = b := fun d => by rw [hb]; rfl
    have hw := wrap64 hlt hn
    have hdec : ltI (i : Int) (y3.length : Int) = true := ltI_t (by omega)
    have hnn : leI (0 : Int) (i : Int) = true := leI_t (by omega)
    have hltd : ltN i y3.length = true := ltN_t hlt
    refine ⟨?_, ?_, ?_, ?_⟩
    · simp [spec_l29Find_l0_a0, spec_l29Find_l0_a1, spec_l29Find_l0_0, spec_l29Find_l0_1, spec_l29Find_l0_2, spec_l29Find_l0_3, spec_l29Find_l0_4, spec_l29Find_l0_5, spec_l29Find_l0_6, spec_l29Find_l0_7, lt_spec_l29Find_l0, lp_spec_l29Find_l0, LT.nds, allT, st_spec_l29Find_l0, hdec, hnn, hltd, hget]
    · simp [spec_l29Find_l0_a0, spec_l29Find_l0_a1, spec_l29Find_l0_0, spec_l29Find_l0_1, spec_l29Find_l0_2, spec_l29Find_l0_3, spec_l29Find_l0_4, spec_l29Find_l0_5, spec_l29Find_l0_6, spec_l29Find_l0_7, lt_spec_l29Find_l0, lp_spec_l29Find_l0, LT.each, st_spec_l29Find_l0, pr_spec_l29Find_l0, hw]
    · simp only [spec_l29Find_l0_a0, spec_l29Find_l0_a1, spec_l29Find_l0_0, spec_l29Find_l0_1, spec_l29Find_l0_2, spec_l29Find_l0_3, spec_l29Find_l0_4, spec_l29Find_l0_5, spec_l29Find_l0_6, spec_l29Find_l0_7, lt_spec_l29Find_l0, lp_spec_l29Find_l0, LT.fn, st_spec_l29Find_l0, pr_spec_l29Find_l0, f_spec_l29Find_l0, Int.toNat_natCast, hdec, hnn, hltd, hget, cond_true, Bool.cond_self]
    · exact fun _ _ => trivial
  · obtain ⟨⟩ := a
    simp [spec_l29Find_l0_a0, spec_l29Find_l0_a1, spec_l29Find_l0_0, spec_l29Find_l0_1, spec_l29Find_l0_2, spec_l29Find_l0_3, spec_l29Find_l0_4, spec_l29Find_l0_5, spec_l29Find_l0_6, spec_l29Find_l0_7, lt_spec_l29Find_l0, lp_spec_l29Find_l0, LT.out, st_spec_l29Find_l0]

def f_slices_Index_impl_Lock_l0 (y2 : Int) (y3 : Int) (b : Int × Int) : (Unit) → Nat ⊕ (Unit)
  | _ => (bif ((bif y2 == Prod.fst ((b)) then bif y3 == Prod.snd ((b)) then true else false else false)) then (.inl 0) else (.inr ()))

def st_slices_Index_impl_Lock_l0 (y2 : Int) (y3 : Int) (y4 : List (Int × Int)) (i : Nat) : (Unit) → X_slices_Index_impl_Lock_l0
  | _ => ((i : Int), (↑(List.length y4) : Int), y2, y3, y4)

def pr_slices_Index_impl_Lock_l0 : X_slices_Index_impl_Lock_l0 → Unit
  | (_, _, _, _, _) => ()

theorem w_slices_Index_impl_Lock_l0 (y2 : Int) (y3 : Int) (y4 : List (Int × Int))  (hn : y4.length ≤ 9223372036854775807)  :
    lp_slices_Index_impl_Lock_l0.fin ((0 : Int), (↑(List.length y4) : Int), y2, y3, y4) = true ∧ lp_slices_Index_impl_Lock_l0.res ((0 : Int), (↑(List.length y4) : Int), y2, y3, y4) = ((walkL (f_slices_Index_impl_Lock_l0 y2 y3) 1 y4 0 ()).1, (st_slices_Index_impl_Lock_l0 y2 y3 y4) (walkL (f_slices_Index_impl_Lock_l0 y2 y3) 1 y4 0 ()).2.1 (walkL (f_slices_Index_impl_Lock_l0 y2 y3) 1 y4 0 ()).2.2) := by
  have key := lp_slices_Index_impl_Lock_l0.along (st_slices_Index_impl_Lock_l0 y2 y3 y4) pr_slices_Index_impl_Lock_l0 (f_slices_Index_impl_Lock_l0 y2 y3) 1 (fun _ _ => True) y4 () (by trivial) (by simp only [lp_slices_Index_impl_Lock_l0, st_slices_Index_impl_Lock_l0]; omega) (fun i b a hb hI => ?_) (fun a hI => ?_)
  · exact key
  · obtain ⟨⟩ := a
    have hlt := (List.getElem?_eq_some_iff.1 hb).1
    have hget : ∀ d, Option.getD y4[i]? d = b := fun d => by rw [hb]; rfl
    have hw := wrap64 hlt hn
    have hdec : ltI (i : Int) (y4.length : Int) = true := ltI_t (by omega)
    have hnn : leI (0 : Int) (i : Int) = true := leI_t (by omega)
    have hltd : ltN i y4.length = true := ltN_t hlt
    refine ⟨?_, ?_, ?_, ?_⟩
    · simp [slices_Index_impl_Lock_l0_a0, slices_Index_impl_Lock_l0_0, slices_Index_impl_Lock_l0_1, slices_Index_impl_Lock_l0_2, slices_Index_impl_Lock_l0_3, slices_Index_impl_Lock_l0_4, slices_Index_impl_Lock_l0_5, lt_slices_Index_impl_Lock_l0, lp_slices_Index_impl_Lock_l0, LT.nds, allT, st_slices_Index_impl_Lock_l0, hdec, hnn, hltd, hget]
    · simp [slices_Index_impl_Lock_l0_a0, slices_Index_impl_Lock_l0_0, slices_Index_impl_Lock_l0_1, slices_Index_impl_Lock_l0_2, slices_Index_impl_Lock_l0_3, slices_Index_impl_Lock_l0_4, slices_Index_impl_Lock_l0_5, lt_slices_Index_impl_Lock_l0, lp_slices_Index_impl_Lock_l0, LT.each, st_slices_Index_impl_Lock_l0, pr_slices_Index_impl_Lock_l0, hw]
    · simp only [slices_Index_impl_Lock_l0_a0, slices_Index_impl_Lock_l0_0, slices_Index_impl_Lock_l0_1, slices_Index_impl_Lock_l0_2, slices_Index_impl_Lock_l0_3, slices_Index_impl_Lock_l0_4, slices_Index_impl_Lock_l0_5, lt_slices_Index_impl_Lock_l0, lp_slices_Index_impl_Lock_l0, LT.fn, st_slices_Index_impl_Lock_l0, pr_slices_Index_impl_Lock_l0, f_slices_Index_impl_Lock_l0, Int.toNat_natCast, hdec, hnn, hltd, hget, cond_true, Bool.cond_self]
    · exact fun _ _ => trivial
  · obtain ⟨⟩ := a
    simp [slices_Index_impl_Lock_l0_a0, slices_Index_impl_Lock_l0_0, slices_Index_impl_Lock_l0_1, slices_Index_impl_Lock_l0_2, slices_Index_impl_Lock_l0_3, slices_Index_impl_Lock_l0_4, slices_Index_impl_Lock_l0_5, lt_slices_Index_impl_Lock_l0, lp_slices_Index_impl_Lock_l0, LT.out, st_slices_Index_impl_Lock_l0]

theorem find_ok (d o : Int) (ls : List (Int × Int)) (hn : ls.length ≤ 9223372036854775807) : spec_l29Find_0 d o ls = (bif ls.any (lkSame (d, o)) then (((ls.takeWhile fun x => !lkSame (d, o) x).length : Nat) : Int) else -1) ∧ spec_l29Find_1 d o ls = true := by
  obtain ⟨w1, w2⟩ := w_spec_l29Find_l0 d o ls hn
  rw [walk_stop (P := lkSame (d, o)) (j := 0) (fun x => by simp only [f_spec_l29Find_l0, lkSame]; cases x.1 == d <;> rfl)] at w2
  simp only [spec_l29Find_0, spec_l29Find_1, spec_l29Find_a0, w1, w2, allT, st_spec_l29Find_l0]
  cases ls.any (lkSame (d, o)) <;> simp [Nat.beq]

theorem hasLk_ok (d o : Int) (ls : List (Int × Int)) (hn : ls.length ≤ 9223372036854775807) : slices_Contains_impl_Lock_0 d o ls = ls.any (lkSame (d, o)) ∧ slices_Contains_impl_Lock_1 d o ls = true := by
  obtain ⟨w1, w2⟩ := w_slices_Index_impl_Lock_l0 d o ls hn
  rw [walk_stop (P := lkSame (d, o)) (j := 0) (fun x => by
    simp only [f_slices_Index_impl_Lock_l0, lkSame, BEq.comm (a := d), BEq.comm (a := o)]; cases x.1 == d <;> cases x.2 == o <;> rfl)] at w2
  simp only [slices_Contains_impl_Lock_0, slices_Contains_impl_Lock_1, slices_Index_impl_Lock_0, slices_Index_impl_Lock_1, slices_Index_impl_Lock_a0, w1, w2, allT, st_slices_Index_impl_Lock_l0]
  refine ⟨?_, rfl⟩
  cases ls.any (lkSame (d, o)) with
  | false => rfl
  | true => exact leI_t (Int.natCast_nonneg _)

theorem isLock_eq (a b : Int) : spec_l29Lock_0 a b = lkIn (a, b) ∧ impl_isLock_0 a b = lkIn (a, b) := by
  simp only [spec_l29Lock_0, impl_isLock_0, spec_l01In_0, impl_within_0, inR_eq, lkIn]
  cases inR a 0 23 <;> exact ⟨rfl, rfl⟩

theorem w_specLocks (ls : List (Int × Int)) (hn : ls.length ≤ 9223372036854775807) :
    lp_spec_AreLocks_l0.fin ((0 : Int), ls) = true ∧ (lp_spec_AreLocks_l0.res ((0 : Int), ls)).1 = bif (List.range ls.length).any (fun b => lkBad ls b || lkDup ls b) then 0 else 1 := by
  refine Lp.scan lp_spec_AreLocks_l0 (fun b => ((b : Int), ls)) ls.length (fun b => lkBad ls b || lkDup ls b) 1 (by simp only [lp_spec_AreLocks_l0]; omega) (fun b hb => ?_) ?_
  · have hdec : ltI (b : Int) (ls.length : Int) = true := ltI_t (by omega)
    have hnn : leI (0 : Int) (b : Int) = true := leI_t (by omega)
    have hltd : ltN b ls.length = true := ltN_t hb
    have hw : IntKind.i64.wrap ((b : Int) + 1) = ((b + 1 : Nat) : Int) := by rw [wrap_i64 (by omega) (by omega)]; omega
    have a0 : spec_AreLocks_l0_a0 (b : Int) ls = lkAt ls b := by simp only [spec_AreLocks_l0_a0, Int.toNat_natCast, lkAt]
    have a1 : spec_AreLocks_l0_a1 (b : Int) ls = lkBad ls b := by simp only [spec_AreLocks_l0_a1, a0, (isLock_eq _ _).1, lkBad]
    obtain ⟨f1, f2⟩ := find_ok (lkAt ls b).1 (lkAt ls b).2 ls hn
    have hat : lkAt ls b = ls[b] := by simp only [lkAt, List.getElem?_eq_getElem hb, Option.getD_some]
    have hp : lkSame (lkAt ls b) ls[b] = true := by rw [hat]; simp [lkSame]
    have hany : ls.any (lkSame (lkAt ls b)) = true := List.any_eq_true.2 ⟨_, List.getElem_mem hb, hp⟩
    have f1' : spec_l29Find_0 (lkAt ls b).1 (lkAt ls b).2 ls = (bif ls.any (lkSame (lkAt ls b)) then (((ls.takeWhile fun x => !lkSame (lkAt ls b) x).length : Nat) : Int) else -1) := f1
    have h7 : (spec_l29Find_0 (lkAt ls b).1 (lkAt ls b).2 ls != (b : Int)) = lkDup ls b := by
      rw [f1']
      simp only [hany, cond_true, lkDup]
      have hf := find_first ls b hb hp
      cases hd : (ls.take b).any (lkSame (lkAt ls b)) with
      | false => have := hf.2 hd; rw [this]; simp
      | true =>
        have : (ls.takeWhile fun x => !lkSame (lkAt ls b) x).length ≠ b := fun h => by rw [hf.1 h] at hd; cases hd
        simp only [bne_iff_ne, ne_eq]; omega
    refine ⟨?_, ?_, ?_⟩
    · simp [lp_spec_AreLocks_l0, lt_spec_AreLocks_l0, LT.nds, allT, spec_AreLocks_l0_0, spec_AreLocks_l0_1, spec_AreLocks_l0_2, spec_AreLocks_l0_3, spec_AreLocks_l0_4, spec_AreLocks_l0_5, spec_AreLocks_l0_6, hdec, hnn, hltd, a0, f2]
    · simp [lp_spec_AreLocks_l0, lt_spec_AreLocks_l0, LT.each, spec_AreLocks_l0_8, hw]
    · simp only [lp_spec_AreLocks_l0, lt_spec_AreLocks_l0, LT.fn, spec_AreLocks_l0_0, spec_AreLocks_l0_7, hdec, a0, a1, h7, cond_true]
      cases lkBad ls b <;> rfl
  · simp [lp_spec_AreLocks_l0, lt_spec_AreLocks_l0, LT.out, spec_AreLocks_l0_0]

theorem w_implLocks (ls : List (Int × Int)) (hn : ls.length ≤ 9223372036854775807) :
    lp_impl_AreLocks_l0.fin ((0 : Int), (ls.length : Int), ls) = true ∧ (lp_impl_AreLocks_l0.res ((0 : Int), (ls.length : Int), ls)).1 = bif (List.range ls.length).any (fun b => lkBad ls b || lkDup ls b) then 0 else 1 := by
  refine Lp.scan lp_impl_AreLocks_l0 (fun b => ((b : Int), (ls.length : Int), ls)) ls.length (fun b => lkBad ls b || lkDup ls b) 1 (by simp only [lp_impl_AreLocks_l0]; omega) (fun b hb => ?_) ?_
  · have hdec : ltI (b : Int) (ls.length : Int) = true := ltI_t (by omega)
    have hle : leI (b : Int) (ls.length : Int) = true := leI_t (by omega)
    have hnn : leI (0 : Int) (b : Int) = true := leI_t (by omega)
    have hltd : ltN b ls.length = true := ltN_t hb
    have hw : IntKind.i64.wrap ((b : Int) + 1) = ((b + 1 : Nat) : Int) := by rw [wrap_i64 (by omega) (by omega)]; omega
    have a0 : impl_AreLocks_l0_a0 (b : Int) ls = lkAt ls b := by simp only [impl_AreLocks_l0_a0, Int.toNat_natCast, lkAt]
    have a1 : impl_AreLocks_l0_a1 (b : Int) ls = lkBad ls b := by simp only [impl_AreLocks_l0_a1, a0, (isLock_eq _ _).2, lkBad]
    have a2 : impl_AreLocks_l0_a2 (b : Int) ls = bif !lkBad ls b then ls.take b else [] := by
      simp only [impl_AreLocks_l0_a2, a1, Int.toNat_natCast, Int.toNat_zero, List.drop_zero, Bool.and_true]
    have hl2 : (bif !lkBad ls b then ls.take b else []).length ≤ 9223372036854775807 := by
      cases lkBad ls b <;> simp; omega
    obtain ⟨f1, f2⟩ := hasLk_ok (lkAt ls b).1 (lkAt ls b).2 (bif !lkBad ls b then ls.take b else []) hl2
    have f1 : slices_Contains_impl_Lock_0 (lkAt ls b).1 (lkAt ls b).2 (bif !lkBad ls b then ls.take b else []) = (bif !lkBad ls b then ls.take b else []).any (lkSame (lkAt ls b)) := f1
    refine ⟨?_, ?_, ?_⟩
    · have z0 : leI 0 0 = true := rfl
      simp only [lp_impl_AreLocks_l0, lt_impl_AreLocks_l0, LT.nds, allT, impl_AreLocks_l0_0, impl_AreLocks_l0_1, impl_AreLocks_l0_2, impl_AreLocks_l0_3, impl_AreLocks_l0_4, impl_AreLocks_l0_5, impl_AreLocks_l0_6, impl_AreLocks_l0_7, Int.toNat_natCast, hdec, hle, hnn, hltd, a0, a2, f2, z0, Bool.or_true, cond_true, Bool.cond_self]
    · simp [lp_impl_AreLocks_l0, lt_impl_AreLocks_l0, LT.each, impl_AreLocks_l0_9, hw]
    · simp only [lp_impl_AreLocks_l0, lt_impl_AreLocks_l0, LT.fn, impl_AreLocks_l0_0, impl_AreLocks_l0_8, hdec, a0, a1, a2, f1, cond_true]
      cases lkBad ls b <;> rfl
  · simp [lp_impl_AreLocks_l0, lt_impl_AreLocks_l0, LT.out, impl_AreLocks_l0_0]

theorem lk_any (ls : List (Int × Int)) : ((List.range ls.length).any fun b => lkBad ls b || lkDup ls b) = !(List.range ls.length).all fun b => !(lkBad ls b || lkDup ls b) := by simp [List.all_eq_not_any_not]

theorem specLocks_ok (ls : List (Int × Int)) (hn : leN ls.length 9223372036854775807 = true) : spec_AreLocks_0 ls = okLk ls ∧ spec_AreLocks_1 ls = true := by
  obtain ⟨w1, w2⟩ := w_specLocks ls (leN_iff.1 hn)
  rw [lk_any] at w2
  simp only [spec_AreLocks_0, spec_AreLocks_1, w1, w2, allT, okLk, ltI_nat ls.length 8 (by omega)]
  cases ((List.range ls.length).all fun b => !(lkBad ls b || lkDup ls b)) <;> simp [Nat.beq]

theorem implLocks_ok (ls : List (Int × Int)) (hn : leN ls.length 9223372036854775807 = true) : impl_AreLocks_0 ls = okLk ls ∧ impl_AreLocks_1 ls = true := by
  obtain ⟨w1, w2⟩ := w_implLocks ls (leN_iff.1 hn)
  rw [lk_any] at w2
  simp only [impl_AreLocks_0, impl_AreLocks_1, impl_AreLocks_a0, w1, w2, allT, okLk, ltI_nat ls.length 8 (by omega)]
  cases ((List.range ls.length).all fun b => !(lkBad ls b || lkDup ls b)) <;> simp [Nat.beq]

def N_spec_AreLocks : List SV → List Entry → Option Out
  | [.one ⟨false, [.ref 0]⟩], [.row false 101 (.pair (.int .i64) (.int .i64)) x0] => some ⟨(.one ⟨false, [(.val (.bool (okLk x0)))]⟩), [(.row false 101 (CTy.pair (CTy.int IntKind.i64) (CTy.int IntKind.i64)) x0)], [], [leN x0.length 9223372036854775807]⟩
  | _, _ => none

def n_spec_AreLocks : PF Try.prog := PF.alt p_spec_AreLocks N_spec_AreLocks (by
  intro args es o h hnd; unfold N_spec_AreLocks at h; split at h
  · rename_i x0
    cases h
    have hnd := nd_fst hnd
    have hh := specLocks_ok x0 hnd
    obtain ⟨e0, en⟩ := hh
    exact altok rfl (nd_one en) (by simp only [e0] <;> rfl) rfl rfl
  · cases h)

def N_impl_AreLocks : List SV → List Entry → Option Out
  | [.one ⟨false, [.ref 0]⟩], [.row false 101 (.pair (.int .i64) (.int .i64)) x0] => some ⟨(.one ⟨false, [(.val (.bool (okLk x0)))]⟩), [(.row false 101 (CTy.pair (CTy.int IntKind.i64) (CTy.int IntKind.i64)) x0)], [], [leN x0.length 9223372036854775807]⟩
  | _, _ => none

def n_impl_AreLocks : PF Try.prog := PF.alt p_impl_AreLocks N_impl_AreLocks (by
  intro args es o h hnd; unfold N_impl_AreLocks at h; split at h
  · rename_i x0
    cases h
    have hnd := nd_fst hnd
    have hh := implLocks_ok x0 hnd
    obtain ⟨e0, en⟩ := hh
    exact altok rfl (nd_one en) (by simp only [e0] <;> rfl) rfl rfl
  · cases h)

end Go.SX

/- Rides, in plain words: faults of locks, padlocks, tolerated faults. -/
import Derived.Test.YtjhgiognlkmehaaGreatNs
namespace Go.SX
open Go.Proofs
set_option maxRecDepth 100000

/-- A loop over numbers that stops at the first of a kind. -/
theorem Lp.scan {X : Type} (p : Lp X) (st : Nat → X) (N : Nat) (P : Nat → Bool) (e : Nat) (hN : N ≤ p.fuel (st 0))
    (hs : ∀ b, b < N → (p.lt (st b)).nds = true ∧ (p.lt (st b)).each (fun y => y = st (b + 1)) ∧ (p.lt (st b)).fn (fun _ => ()) = (bif P b then .inl 0 else .inr ()))
    (he : (p.lt (st N)).out = some (.inl e)) : p.fin (st 0) = true ∧ (p.res (st 0)).1 = bif (List.range N).any P then 0 else e := by
  have key := p.along (fun i (_ : Unit) => st i) (fun _ => ()) (fun (b : Nat) (_ : Unit) => bif P b then .inl 0 else .inr ()) e (fun _ _ => True) (List.range N) () trivial (by rw [List.length_range]; exact hN)
    (fun i b a hb _ => by
      obtain ⟨rfl, hlt⟩ := range_get hb
      obtain ⟨h1, h2, h3⟩ := hs b hlt
      exact ⟨h1, h2, h3, fun _ _ => trivial⟩) (fun a _ => by rw [List.length_range]; exact he)
  rw [walk_stop (P := P) (j := 0) (fun b => rfl)] at key
  exact ⟨key.1, by rw [key.2]⟩

def f_spec_AreLockFaults_l0_l0 (y2 : List (Int × (Int × Int))) (y3 : Int) (y4 : Int) (b : Nat) : (Unit) → Nat ⊕ (Unit)
  | _ => (bif ((bif (Prod.fst ((Option.getD y2[b]? ((0 : Int), (0 : Int), (0 : Int)))) == y3) then Prod.fst (Prod.snd ((Option.getD y2[b]? ((0 : Int), (0 : Int), (0 : Int))))) == y4 else false)) then (.inl 0) else (.inr ()))

def st_spec_AreLockFaults_l0_l0 (y1 : Int) (y2 : List (Int × (Int × Int))) (y3 : Int) (y4 : Int) (y5 : Int) (i : Nat) : (Unit) → X_spec_AreLockFaults_l0_l0
  | _ => ((i : Int), y1, y2, y3, y4, y5)

def pr_spec_AreLockFaults_l0_l0 : X_spec_AreLockFaults_l0_l0 → Unit
  | (_, _, _, _, _, _) => ()

theorem w_spec_AreLockFaults_l0_l0 (y1 : Int) (y2 : List (Int × (Int × Int))) (y3 : Int) (y4 : Int) (y5 : Int)  (hn : y1 ≤ 9223372036854775807) (hb : y1 ≤ (y2.length : Int)) :
    lp_spec_AreLockFaults_l0_l0.fin ((0 : Int), y1, y2, y3, y4, y5) = true ∧ lp_spec_AreLockFaults_l0_l0.res ((0 : Int), y1, y2, y3, y4, y5) = ((walkL (f_spec_AreLockFaults_l0_l0 y2 y3 y4) 1 (List.range y1.toNat) 0 ()).1, (st_spec_AreLockFaults_l0_l0 y1 y2 y3 y4 y5) (walkL (f_spec_AreLockFaults_l0_l0 y2 y3 y4) 1 (List.range y1.toNat) 0 ()).2.1 (walkL (f_spec_AreLockFaults_l0_l0 y2 y3 y4) 1 (List.range y1.toNat) 0 ()).2.2) := by
  have key := lp_spec_AreLockFaults_l0_l0.along (st_spec_AreLockFaults_l0_l0 y1 y2 y3 y4 y5) pr_spec_AreLockFaults_l0_l0 (f_spec_AreLockFaults_l0_l0 y2 y3 y4) 1 (fun _ _ => True) (List.range y1.toNat) () (by trivial) (by simp only [lp_spec_AreLockFaults_l0_l0, st_spec_AreLockFaults_l0_l0, List.length_range]; omega) (fun i b a hb hI => ?_) (fun a hI => ?_)
  · exact key
  · obtain ⟨⟩ := a
    obtain ⟨rfl, hlt⟩ := range_get hb
    have hw : IntKind.i64.wrap ((b : Int) + 1) = ((b + 1 : Nat) : Int) := by rw [wrap_i64 (by omega) (by omega)]; omega
    have hdec : ltI (b : Int) y1 = true := ltI_t (by omega)
    have hnn : leI (0 : Int) (b : Int) = true := leI_t (by omega)
    refine ⟨?_, ?_, ?_, ?_⟩
    · have h1 : ltI (b : Int) (y2.length : Int) = true := ltI_t (by omega)
      have h2 : ltN b y2.length = true := ltN_t (by omega)
      simp [spec_AreLockFaults_l0_l0_a0, spec_AreLockFaults_l0_l0_a1, spec_AreLockFaults_l0_l0_0, spec_AreLockFaults_l0_l0_1, spec_AreLockFaults_l0_l0_2, spec_AreLockFaults_l0_l0_3, spec_AreLockFaults_l0_l0_4, spec_AreLockFaults_l0_l0_5, spec_AreLockFaults_l0_l0_6, spec_AreLockFaults_l0_l0_7, spec_AreLockFaults_l0_l0_8, lt_spec_AreLockFaults_l0_l0, lp_spec_AreLockFaults_l0_l0, LT.nds, allT, st_spec_AreLockFaults_l0_l0, hdec, hnn, h1, h2]
    · simp [spec_AreLockFaults_l0_l0_a0, spec_AreLockFaults_l0_l0_a1, spec_AreLockFaults_l0_l0_0, spec_AreLockFaults_l0_l0_1, spec_AreLockFaults_l0_l0_2, spec_AreLockFaults_l0_l0_3, spec_AreLockFaults_l0_l0_4, spec_AreLockFaults_l0_l0_5, spec_AreLockFaults_l0_l0_6, spec_AreLockFaults_l0_l0_7, spec_AreLockFaults_l0_l0_8, lt_spec_AreLockFaults_l0_l0, lp_spec_AreLockFaults_l0_l0, LT.each, st_spec_AreLockFaults_l0_l0, pr_spec_AreLockFaults_l0_l0, hw]
    · simp only [spec_AreLockFaults_l0_l0_a0, spec_AreLockFaults_l0_l0_a1, spec_AreLockFaults_l0_l0_0, spec_AreLockFaults_l0_l0_1, spec_AreLockFaults_l0_l0_2, spec_AreLockFaults_l0_l0_3, spec_AreLockFaults_l0_l0_4, spec_AreLockFaults_l0_l0_5, spec_AreLockFaults_l0_l0_6, spec_AreLockFaults_l0_l0_7, spec_AreLockFaults_l0_l0_8, lt_spec_AreLockFaults_l0_l0, lp_spec_AreLockFaults_l0_l0, LT.fn, st_spec_AreLockFaults_l0_l0, pr_spec_AreLockFaults_l0_l0, f_spec_AreLockFaults_l0_l0, Int.toNat_natCast, hdec, hnn, cond_true, Bool.cond_self]
    · exact fun _ _ => trivial
  · obtain ⟨⟩ := a
    simp only [spec_AreLockFaults_l0_l0_a0, spec_AreLockFaults_l0_l0_a1, spec_AreLockFaults_l0_l0_0, spec_AreLockFaults_l0_l0_1, spec_AreLockFaults_l0_l0_2, spec_AreLockFaults_l0_l0_3, spec_AreLockFaults_l0_l0_4, spec_AreLockFaults_l0_l0_5, spec_AreLockFaults_l0_l0_6, spec_AreLockFaults_l0_l0_7, spec_AreLockFaults_l0_l0_8, lt_spec_AreLockFaults_l0_l0, lp_spec_AreLockFaults_l0_l0, LT.out, st_spec_AreLockFaults_l0_l0, List.length_range, ltI_toNat, ltI_down, cond_false]

theorem inner_dupL (fs : List (Int × Int × Int)) (b : Nat) (hb : b < fs.length) (hn : fs.length ≤ 9223372036854775807) :
    spec_AreLockFaults_l0_4 (b : Int) fs = true ∧ spec_AreLockFaults_l0_5 (b : Int) fs = fDup fs b := by
  obtain ⟨w1, w2⟩ := w_spec_AreLockFaults_l0_l0 (b : Int) fs (fAt fs b).1 (fAt fs b).2.1 (fAt fs b).2.2 (by omega) (by omega)
  rw [walk_stop (P := fun j => fSame (fAt fs b) (fs[j]?.getD (0, 0, 0))) (j := 0) (fun j => by
    simp only [f_spec_AreLockFaults_l0_l0, fSame]; cases (fs[j]?.getD (0, 0, 0)).1 == (fAt fs b).1 <;> rfl), Int.toNat_natCast, any_take (by omega)] at w2
  refine ⟨w1, ?_⟩
  have e : spec_AreLockFaults_l0_a1 (b : Int) fs = (0, (b : Int), fs, (fAt fs b).1, (fAt fs b).2.1, (fAt fs b).2.2) := rfl
  simp only [spec_AreLockFaults_l0_5, e, w2, fDup]
  cases (fs.take b).any (fSame (fAt fs b)) <;> rfl

theorem specBadL (n : Int) (fs : List (Int × Int × Int)) (b : Nat) : spec_AreLockFaults_l0_3 (b : Int) n fs = fBad n fs b := by
  simp only [spec_AreLockFaults_l0_3, spec_l01In_0, fBad, fIn, fAt, spec_AreLockFaults_l0_a0, Int.toNat_natCast, inR_eq]
  cases inR (fs[b]?.getD (0, 0, 0)).1 0 (IntKind.i64.wrap (n - 1)) <;> cases inR (fs[b]?.getD (0, 0, 0)).2.1 0 1 <;> cases inR (fs[b]?.getD (0, 0, 0)).2.2 0 1 <;> rfl

theorem w_specLF (n : Int) (fs : List (Int × Int × Int)) (hn : fs.length ≤ 9223372036854775807) :
    lp_spec_AreLockFaults_l0.fin ((0 : Int), n, fs) = true ∧ lp_spec_AreLockFaults_l0.res ((0 : Int), n, fs) = ((walkL (fF n fs) 2 (List.range fs.length) 0 ()).1, (((walkL (fF n fs) 2 (List.range fs.length) 0 ()).2.1 : Int), n, fs)) := by
  have key := lp_spec_AreLockFaults_l0.along (fun i _ => ((i : Int), n, fs)) (fun _ => ()) (fF n fs) 2 (fun _ _ => True) (List.range fs.length) () trivial (by simp only [lp_spec_AreLockFaults_l0, List.length_range]; omega) (fun i b a hb hI => ?_) (fun a hI => ?_)
  · exact key
  · obtain ⟨rfl, hlt⟩ := range_get hb
    have hw : IntKind.i64.wrap ((b : Int) + 1) = ((b + 1 : Nat) : Int) := by rw [wrap_i64 (by omega) (by omega)]; omega
    have hdec : ltI (b : Int) (fs.length : Int) = true := ltI_t (by omega)
    have hnn : leI (0 : Int) (b : Int) = true := leI_t (by omega)
    have hltd : ltN b fs.length = true := ltN_t (by omega)
    obtain ⟨i1, i2⟩ := inner_dupL fs b hlt hn
    have i3 := specBadL n fs b
    refine ⟨?_, ?_, ?_, ?_⟩
    · simp [lp_spec_AreLockFaults_l0, lt_spec_AreLockFaults_l0, LT.nds, allT, spec_AreLockFaults_l0_0, spec_AreLockFaults_l0_1, spec_AreLockFaults_l0_2, hdec, hnn, hltd, i1]
    · simp [lp_spec_AreLockFaults_l0, lt_spec_AreLockFaults_l0, LT.each, spec_AreLockFaults_l0_6, hw]
    · simp only [lp_spec_AreLockFaults_l0, lt_spec_AreLockFaults_l0, LT.fn, spec_AreLockFaults_l0_0, hdec, i2, i3, fF, cond_true]
    · exact fun _ _ => trivial
  · simp [lp_spec_AreLockFaults_l0, lt_spec_AreLockFaults_l0, LT.out, spec_AreLockFaults_l0_0, List.length_range]

theorem specLF_ok (n : Int) (fs : List (Int × Int × Int)) (hn : leN fs.length 9223372036854775807 = true) : spec_AreLockFaults_0 n fs = lfOk n fs ∧ spec_AreLockFaults_1 n fs = true := by
  obtain ⟨w1, w2⟩ := w_specLF n fs (leN_iff.1 hn)
  obtain ⟨k, m, e, h⟩ := walk_fF n fs (List.range fs.length) 0
  rw [e] at w2
  refine ⟨?_, ?_⟩
  · have hl : leI (fs.length : Int) 8 = leN fs.length 8 := by rw [Bool.eq_iff_iff]; simp; omega
    simp only [spec_AreLockFaults_0, spec_AreLockFaults_a0, w2, spec_l01In_0, inR_eq, lfOk, okFs, hl]
    rcases h with ⟨rfl, h⟩ | ⟨rfl | rfl, h⟩ <;> rw [h]
    · cases inR n 1 12 <;> cases leN fs.length 8 <;> rfl
    · cases inR n 1 12 <;> cases leN fs.length 8 <;> rfl
    · cases inR n 1 12 <;> cases leN fs.length 8 <;> rfl
  · simp only [spec_AreLockFaults_1, spec_AreLockFaults_a0, w1, allT, cond_true]

def N_spec_AreLockFaults : List SV → List Entry → Option Out
  | [.one ⟨false, [.val (.int .i64 x0)]⟩, .one ⟨false, [.ref 0]⟩], [.row false 82 (.pair (.int .i64) (.pair (.int .i64) (.int .i64))) x1] => some ⟨(.one ⟨false, [(.val (.bool (lfOk x0 x1)))]⟩), [(.row false 82 (CTy.pair (CTy.int IntKind.i64) (CTy.pair (CTy.int IntKind.i64) (CTy.int IntKind.i64))) x1)], [], [leN x1.length 9223372036854775807]⟩
  | _, _ => none

def n_spec_AreLockFaults : PF Tryz.prog := PF.alt p_spec_AreLockFaults N_spec_AreLockFaults (by
  intro args es o h hnd; unfold N_spec_AreLockFaults at h; split at h
  · rename_i x0 x1
    cases h
    have hnd := nd_fst hnd
    have hh := specLF_ok x0 x1 hnd
    obtain ⟨e0, en⟩ := hh
    exact altok rfl (nd_one en) (by simp only [e0] <;> rfl) rfl rfl
  · cases h)

def f_slices_IndexFunc_impl_LockFault_q2004_l0 (y2 : Int) (y3 : Int) (b : Int × (Int × Int)) : (Unit) → Nat ⊕ (Unit)
  | _ => (bif ((impl_AreLockFaults_1_q2005_0 (Prod.fst ((b))) (Prod.fst (Prod.snd ((b)))) y2 y3)) then (.inl 0) else (.inr ()))

def st_slices_IndexFunc_impl_LockFault_q2004_l0 (y2 : Int) (y3 : Int) (y4 : Int) (y5 : List (Int × (Int × Int))) (i : Nat) : (Unit) → X_slices_IndexFunc_impl_LockFault_q2004_l0
  | _ => ((i : Int), (↑(List.length y5) : Int), y2, y3, y4, y5)

def pr_slices_IndexFunc_impl_LockFault_q2004_l0 : X_slices_IndexFunc_impl_LockFault_q2004_l0 → Unit
  | (_, _, _, _, _, _) => ()

theorem w_slices_IndexFunc_impl_LockFault_q2004_l0 (y2 : Int) (y3 : Int) (y4 : Int) (y5 : List (Int × (Int × Int)))  (hn : y5.length ≤ 9223372036854775807)  :
    lp_slices_IndexFunc_impl_LockFault_q2004_l0.fin ((0 : Int), (↑(List.length y5) : Int), y2, y3, y4, y5) = true ∧ lp_slices_IndexFunc_impl_LockFault_q2004_l0.res ((0 : Int), (↑(List.length y5) : Int), y2, y3, y4, y5) = ((walkL (f_slices_IndexFunc_impl_LockFault_q2004_l0 y2 y3) 1 y5 0 ()).1, (st_slices_IndexFunc_impl_LockFault_q2004_l0 y2 y3 y4 y5) (walkL (f_slices_IndexFunc_impl_LockFault_q2004_l0 y2 y3) 1 y5 0 ()).2.1 (walkL (f_slices_IndexFunc_impl_LockFault_q2004_l0 y2 y3) 1 y5 0 ()).2.2) := by
  have key := lp_slices_IndexFunc_impl_LockFault_q2004_l0.along (st_slices_IndexFunc_impl_LockFault_q2004_l0 y2 y3 y4 y5) pr_slices_IndexFunc_impl_LockFault_q2004_l0 (f_slices_IndexFunc_impl_LockFault_q2004_l0 y2 y3) 1 (fun _ _ => True) y5 () (by trivial) (by simp only [lp_slices_IndexFunc_impl_LockFault_q2004_l0, st_slices_IndexFunc_impl_LockFault_q2004_l0]; omega) (fun i b a hb hI => ?_) (fun a hI => ?_)
  · exact key
  · obtain ⟨⟩ := a
    have hlt := (List.getElem?_eq_some_iff.1 hb).1
    have hget : ∀ d, Option.getD y5[i]? d = b := fun d => by rw [hb]; rfl
    have hw := wrap64 hlt hn
    have hdec : ltI (i : Int) (y5.length : Int) = true := ltI_t (by omega)
    have hnn : leI (0 : Int) (i : Int) = true := leI_t (by omega)
    have hltd : ltN i y5.length = true := ltN_t hlt
    refine ⟨?_, ?_, ?_, ?_⟩
    · simp [slices_IndexFunc_impl_LockFault_q2004_l0_a0, slices_IndexFunc_impl_LockFault_q2004_l0_0, slices_IndexFunc_impl_LockFault_q2004_l0_1, slices_IndexFunc_impl_LockFault_q2004_l0_2, slices_IndexFunc_impl_LockFault_q2004_l0_3, slices_IndexFunc_impl_LockFault_q2004_l0_4, slices_IndexFunc_impl_LockFault_q2004_l0_5, lt_slices_IndexFunc_impl_LockFault_q2004_l0, lp_slices_IndexFunc_impl_LockFault_q2004_l0, LT.nds, allT, st_slices_IndexFunc_impl_LockFault_q2004_l0, hdec, hnn, hltd, hget]
    · simp [slices_IndexFunc_impl_LockFault_q2004_l0_a0, slices_IndexFunc_impl_LockFault_q2004_l0_0, slices_IndexFunc_impl_LockFault_q2004_l0_1, slices_IndexFunc_impl_LockFault_q2004_l0_2, slices_IndexFunc_impl_LockFault_q2004_l0_3, slices_IndexFunc_impl_LockFault_q2004_l0_4, slices_IndexFunc_impl_LockFault_q2004_l0_5, lt_slices_IndexFunc_impl_LockFault_q2004_l0, lp_slices_IndexFunc_impl_LockFault_q2004_l0, LT.each, st_slices_IndexFunc_impl_LockFault_q2004_l0, pr_slices_IndexFunc_impl_LockFault_q2004_l0, hw]
    · simp only [slices_IndexFunc_impl_LockFault_q2004_l0_a0, slices_IndexFunc_impl_LockFault_q2004_l0_0, slices_IndexFunc_impl_LockFault_q2004_l0_1, slices_IndexFunc_impl_LockFault_q2004_l0_2, slices_IndexFunc_impl_LockFault_q2004_l0_3, slices_IndexFunc_impl_LockFault_q2004_l0_4, slices_IndexFunc_impl_LockFault_q2004_l0_5, lt_slices_IndexFunc_impl_LockFault_q2004_l0, lp_slices_IndexFunc_impl_LockFault_q2004_l0, LT.fn, st_slices_IndexFunc_impl_LockFault_q2004_l0, pr_slices_IndexFunc_impl_LockFault_q2004_l0, f_slices_IndexFunc_impl_LockFault_q2004_l0, Int.toNat_natCast, hdec, hnn, hltd, hget, cond_true, Bool.cond_self]
    · exact fun _ _ => trivial
  · obtain ⟨⟩ := a
    simp [slices_IndexFunc_impl_LockFault_q2004_l0_a0, slices_IndexFunc_impl_LockFault_q2004_l0_0, slices_IndexFunc_impl_LockFault_q2004_l0_1, slices_IndexFunc_impl_LockFault_q2004_l0_2, slices_IndexFunc_impl_LockFault_q2004_l0_3, slices_IndexFunc_impl_LockFault_q2004_l0_4, slices_IndexFunc_impl_LockFault_q2004_l0_5, lt_slices_IndexFunc_impl_LockFault_q2004_l0, lp_slices_IndexFunc_impl_LockFault_q2004_l0, LT.out, st_slices_IndexFunc_impl_LockFault_q2004_l0]

theorem implHasL_ok (xs : List (Int × Int × Int)) (f : Int × Int × Int) (hn : xs.length ≤ 9223372036854775807) :
    slices_ContainsFunc_impl_LockFault_q2003_0 xs f.1 f.2.1 f.2.2 = xs.any (fSame f) ∧ slices_ContainsFunc_impl_LockFault_q2003_4 xs f.1 f.2.1 f.2.2 = true := by
  obtain ⟨w1, w2⟩ := w_slices_IndexFunc_impl_LockFault_q2004_l0 f.1 f.2.1 f.2.2 xs hn
  rw [walk_stop (P := fSame f) (j := 0) (fun t => by
    simp only [f_slices_IndexFunc_impl_LockFault_q2004_l0, impl_AreLockFaults_1_q2005_0, fSame]; cases t.1 == f.1 <;> rfl)] at w2
  refine ⟨?_, ?_⟩
  · simp only [slices_ContainsFunc_impl_LockFault_q2003_0, slices_ContainsFunc_impl_LockFault_q2003_1, slices_ContainsFunc_impl_LockFault_q2003_2, slices_ContainsFunc_impl_LockFault_q2003_3, slices_ContainsFunc_impl_LockFault_q2003_4, slices_IndexFunc_impl_LockFault_q2004_a0, slices_IndexFunc_impl_LockFault_q2004_a1, slices_IndexFunc_impl_LockFault_q2004_0, slices_IndexFunc_impl_LockFault_q2004_1, slices_IndexFunc_impl_LockFault_q2004_2, slices_IndexFunc_impl_LockFault_q2004_3, slices_IndexFunc_impl_LockFault_q2004_4, w2, st_slices_IndexFunc_impl_LockFault_q2004_l0]
    cases xs.any (fSame f) with
    | false => rfl
    | true => exact leI_t (Int.natCast_nonneg _)
  · simp only [slices_ContainsFunc_impl_LockFault_q2003_0, slices_ContainsFunc_impl_LockFault_q2003_1, slices_ContainsFunc_impl_LockFault_q2003_2, slices_ContainsFunc_impl_LockFault_q2003_3, slices_ContainsFunc_impl_LockFault_q2003_4, slices_IndexFunc_impl_LockFault_q2004_a0, slices_IndexFunc_impl_LockFault_q2004_a1, slices_IndexFunc_impl_LockFault_q2004_0, slices_IndexFunc_impl_LockFault_q2004_1, slices_IndexFunc_impl_LockFault_q2004_2, slices_IndexFunc_impl_LockFault_q2004_3, slices_IndexFunc_impl_LockFault_q2004_4, w1, allT, cond_true]

theorem implBadL (n : Int) (fs : List (Int × Int × Int)) (b : Nat) : impl_AreLockFaults_l0_4 (b : Int) n fs = fBad n fs b := by
  simp only [impl_AreLockFaults_l0_4, impl_within_0, fBad, fIn, fAt, impl_AreLockFaults_l0_a0, Int.toNat_natCast, inR_eq]
  cases inR (fs[b]?.getD (0, 0, 0)).1 0 (IntKind.i64.wrap (n - 1)) <;> cases inR (fs[b]?.getD (0, 0, 0)).2.1 0 1 <;> cases inR (fs[b]?.getD (0, 0, 0)).2.2 0 1 <;> rfl

theorem w_implLF (n : Int) (fs : List (Int × Int × Int)) (hn : fs.length ≤ 9223372036854775807) :
    lp_impl_AreLockFaults_l0.fin ((0 : Int), (fs.length : Int), n, fs) = true ∧ lp_impl_AreLockFaults_l0.res ((0 : Int), (fs.length : Int), n, fs) = ((walkL (fF n fs) 2 (List.range fs.length) 0 ()).1, (((walkL (fF n fs) 2 (List.range fs.length) 0 ()).2.1 : Int), (fs.length : Int), n, fs)) := by
  have key := lp_impl_AreLockFaults_l0.along (fun i _ => ((i : Int), (fs.length : Int), n, fs)) (fun _ => ()) (fF n fs) 2 (fun _ _ => True) (List.range fs.length) () trivial (by simp only [lp_impl_AreLockFaults_l0, List.length_range]; omega) (fun i b a hb hI => ?_) (fun a hI => ?_)
  · exact key
  · obtain ⟨rfl, hlt⟩ := range_get hb
    have hw : IntKind.i64.wrap ((b : Int) + 1) = ((b + 1 : Nat) : Int) := by rw [wrap_i64 (by omega) (by omega)]; omega
    have hdec : ltI (b : Int) (fs.length : Int) = true := ltI_t (by omega)
    have hle : leI (b : Int) (fs.length : Int) = true := leI_t (by omega)
    have hnn : leI (0 : Int) (b : Int) = true := leI_t (by omega)
    have hltd : ltN b fs.length = true := ltN_t (by omega)
    obtain ⟨i2, i1⟩ := implHasL_ok (fs.take b) (fAt fs b) (by rw [List.length_take]; omega)
    have i2 : impl_AreLockFaults_l0_8 (b : Int) fs = fDup fs b := i2
    have i1 : impl_AreLockFaults_l0_7 (b : Int) fs = true := i1
    have i3 := implBadL n fs b
    refine ⟨?_, ?_, ?_, ?_⟩
    · simp [lp_impl_AreLockFaults_l0, lt_impl_AreLockFaults_l0, LT.nds, allT, impl_AreLockFaults_l0_0, impl_AreLockFaults_l0_1, impl_AreLockFaults_l0_2, impl_AreLockFaults_l0_3, impl_AreLockFaults_l0_5, impl_AreLockFaults_l0_6, hdec, hnn, hltd, hle, i1]
    · simp [lp_impl_AreLockFaults_l0, lt_impl_AreLockFaults_l0, LT.each, impl_AreLockFaults_l0_9, hw]
    · simp only [lp_impl_AreLockFaults_l0, lt_impl_AreLockFaults_l0, LT.fn, impl_AreLockFaults_l0_0, hdec, i2, i3, fF, cond_true]
    · exact fun _ _ => trivial
  · simp [lp_impl_AreLockFaults_l0, lt_impl_AreLockFaults_l0, LT.out, impl_AreLockFaults_l0_0, List.length_range]

theorem implLF_ok (n : Int) (fs : List (Int × Int × Int)) (hn : leN fs.length 9223372036854775807 = true) : impl_AreLockFaults_0 n fs = lfOk n fs ∧ impl_AreLockFaults_1 n fs = true := by
  obtain ⟨w1, w2⟩ := w_implLF n fs (leN_iff.1 hn)
  obtain ⟨k, m, e, h⟩ := walk_fF n fs (List.range fs.length) 0
  rw [e] at w2
  refine ⟨?_, ?_⟩
  · have hl : leI (fs.length : Int) 8 = leN fs.length 8 := by rw [Bool.eq_iff_iff]; simp; omega
    simp only [impl_AreLockFaults_0, impl_AreLockFaults_a0, w2, impl_isRowCount_0, impl_within_0, inR_eq, lfOk, okFs, hl]
    rcases h with ⟨rfl, h⟩ | ⟨rfl | rfl, h⟩ <;> rw [h] <;> cases inR n 1 12 <;> cases leN fs.length 8 <;> rfl
  · simp only [impl_AreLockFaults_1, impl_AreLockFaults_a0, w1, allT, cond_true]

def N_impl_AreLockFaults : List SV → List Entry → Option Out
  | [.one ⟨false, [.val (.int .i64 x0)]⟩, .one ⟨false, [.ref 0]⟩], [.row false 82 (.pair (.int .i64) (.pair (.int .i64) (.int .i64))) x1] => some ⟨(.one ⟨false, [(.val (.bool (lfOk x0 x1)))]⟩), [(.row false 82 (CTy.pair (CTy.int IntKind.i64) (CTy.pair (CTy.int IntKind.i64) (CTy.int IntKind.i64))) x1)], [], [leN x1.length 9223372036854775807]⟩
  | _, _ => none

def n_impl_AreLockFaults : PF Tryz.prog := PF.alt p_impl_AreLockFaults N_impl_AreLockFaults (by
  intro args es o h hnd; unfold N_impl_AreLockFaults at h; split at h
  · rename_i x0 x1
    cases h
    have hnd := nd_fst hnd
    have hh := implLF_ok x0 x1 hnd
    obtain ⟨e0, en⟩ := hh
    exact altok rfl (nd_one en) (by simp only [e0] <;> rfl) rfl rfl
  · cases h)

/-! ### Tolerated -/

/-! ### Padlocks -/

def f_spec_l29Find_l0 (y1 : Int) (y2 : Int) (b : Int × Int) : (Unit) → Nat ⊕ (Unit)
  | _ => (bif ((bif Prod.fst ((b)) == y1 then Prod.snd ((b)) == y2 else false)) then (.inl 0) else (.inr ()))

def st_spec_l29Find_l0 (y1 : Int) (y2 : Int) (y3 : List (Int × Int)) (i : Nat) : (Unit) → X_spec_l29Find_l0
  | _ => ((i : Int), y1, y2, y3)

def pr_spec_l29Find_l0 : X_spec_l29Find_l0 → Unit
  | (_, _, _, _) => ()

theorem w_spec_l29Find_l0 (y1 : Int) (y2 : Int) (y3 : List (Int × Int))  (hn : y3.length ≤ 9223372036854775807)  :
    lp_spec_l29Find_l0.fin ((0 : Int), y1, y2, y3) = true ∧ lp_spec_l29Find_l0.res ((0 : Int), y1, y2, y3) = ((walkL (f_spec_l29Find_l0 y1 y2) 1 y3 0 ()).1, (st_spec_l29Find_l0 y1 y2 y3) (walkL (f_spec_l29Find_l0 y1 y2) 1 y3 0 ()).2.1 (walkL (f_spec_l29Find_l0 y1 y2) 1 y3 0 ()).2.2) := by
  have key := lp_spec_l29Find_l0.along (st_spec_l29Find_l0 y1 y2 y3) pr_spec_l29Find_l0 (f_spec_l29Find_l0 y1 y2) 1 (fun _ _ => True) y3 () (by trivial) (by simp only [lp_spec_l29Find_l0, st_spec_l29Find_l0]; omega) (fun i b a hb hI => ?_) (fun a hI => ?_)
  · exact key
  · obtain ⟨⟩ := a
    have hlt := (List.getElem?_eq_some_iff.1 hb).1
    have hget : ∀ d, Option.getD y3[i]? d = b := fun d => by rw [hb]; rfl
    have hw := wrap64 hlt hn
    have hdec : ltI (i : Int) (y3.length : Int) = true := ltI_t (by omega)
    have hnn : leI (0 : Int) (i : Int) = true := leI_t (by omega)
    have hltd : ltN i y3.length = true := ltN_t hlt
    refine ⟨?_, ?_, ?_, ?_⟩
    · simp [spec_l29Find_l0_a0, spec_l29Find_l0_a1, spec_l29Find_l0_0, spec_l29Find_l0_1, spec_l29Find_l0_2, spec_l29Find_l0_3, spec_l29Find_l0_4, spec_l29Find_l0_5, spec_l29Find_l0_6, spec_l29Find_l0_7, lt_spec_l29Find_l0, lp_spec_l29Find_l0, LT.nds, allT, st_spec_l29Find_l0, hdec, hnn, hltd, hget]
    · simp [spec_l29Find_l0_a0, spec_l29Find_l0_a1, spec_l29Find_l0_0, spec_l29Find_l0_1, spec_l29Find_l0_2, spec_l29Find_l0_3, spec_l29Find_l0_4, spec_l29Find_l0_5, spec_l29Find_l0_6, spec_l29Find_l0_7, lt_spec_l29Find_l0, lp_spec_l29Find_l0, LT.each, st_spec_l29Find_l0, pr_spec_l29Find_l0, hw]
    · simp only [spec_l29Find_l0_a0, spec_l29Find_l0_a1, spec_l29Find_l0_0, spec_l29Find_l0_1, spec_l29Find_l0_2, spec_l29Find_l0_3, spec_l29Find_l0_4, spec_l29Find_l0_5, spec_l29Find_l0_6, spec_l29Find_l0_7, lt_spec_l29Find_l0, lp_spec_l29Find_l0, LT.fn, st_spec_l29Find_l0, pr_spec_l29Find_l0, f_spec_l29Find_l0, Int.toNat_natCast, hdec, hnn, hltd, hget, cond_true, Bool.cond_self]
    · exact fun _ _ => trivial
  · obtain ⟨⟩ := a
    simp [spec_l29Find_l0_a0, spec_l29Find_l0_a1, spec_l29Find_l0_0, spec_l29Find_l0_1, spec_l29Find_l0_2, spec_l29Find_l0_3, spec_l29Find_l0_4, spec_l29Find_l0_5, spec_l29Find_l0_6, spec_l29Find_l0_7, lt_spec_l29Find_l0, lp_spec_l29Find_l0, LT.out, st_spec_l29Find_l0]

def f_slices_Index_impl_Lock_l0 (y2 : Int) (y3 : Int) (b : Int × Int) : (Unit) → Nat ⊕ (Unit)
  | _ => (bif ((bif y2 == Prod.fst ((b)) then bif y3 == Prod.snd ((b)) then true else false else false)) then (.inl 0) else (.inr ()))

def st_slices_Index_impl_Lock_l0 (y2 : Int) (y3 : Int) (y4 : List (Int × Int)) (i : Nat) : (Unit) → X_slices_Index_impl_Lock_l0
  | _ => ((i : Int), (↑(List.length y4) : Int), y2, y3, y4)

def pr_slices_Index_impl_Lock_l0 : X_slices_Index_impl_Lock_l0 → Unit
  | (_, _, _, _, _) => ()

theorem w_slices_Index_impl_Lock_l0 (y2 : Int) (y3 : Int) (y4 : List (Int × Int))  (hn : y4.length ≤ 9223372036854775807)  :
    lp_slices_Index_impl_Lock_l0.fin ((0 : Int), (↑(List.length y4) : Int), y2, y3, y4) = true ∧ lp_slices_Index_impl_Lock_l0.res ((0 : Int), (↑(List.length y4) : Int), y2, y3, y4) = ((walkL (f_slices_Index_impl_Lock_l0 y2 y3) 1 y4 0 ()).1, (st_slices_Index_impl_Lock_l0 y2 y3 y4) (walkL (f_slices_Index_impl_Lock_l0 y2 y3) 1 y4 0 ()).2.1 (walkL (f_slices_Index_impl_Lock_l0 y2 y3) 1 y4 0 ()).2.2) := by
  have key := lp_slices_Index_impl_Lock_l0.along (st_slices_Index_impl_Lock_l0 y2 y3 y4) pr_slices_Index_impl_Lock_l0 (f_slices_Index_impl_Lock_l0 y2 y3) 1 (fun _ _ => True) y4 () (by trivial) (by simp only [lp_slices_Index_impl_Lock_l0, st_slices_Index_impl_Lock_l0]; omega) (fun i b a hb hI => ?_) (fun a hI => ?_)
  · exact key
  · obtain ⟨⟩ := a
    have hlt := (List.getElem?_eq_some_iff.1 hb).1
    have hget : ∀ d, Option.getD y4[i]? d = b := fun d => by rw [hb]; rfl
    have hw := wrap64 hlt hn
    have hdec : ltI (i : Int) (y4.length : Int) = true := ltI_t (by omega)
    have hnn : leI (0 : Int) (i : Int) = true := leI_t (by omega)
    have hltd : ltN i y4.length = true := ltN_t hlt
    refine ⟨?_, ?_, ?_, ?_⟩
    · simp [slices_Index_impl_Lock_l0_a0, slices_Index_impl_Lock_l0_0, slices_Index_impl_Lock_l0_1, slices_Index_impl_Lock_l0_2, slices_Index_impl_Lock_l0_3, slices_Index_impl_Lock_l0_4, slices_Index_impl_Lock_l0_5, lt_slices_Index_impl_Lock_l0, lp_slices_Index_impl_Lock_l0, LT.nds, allT, st_slices_Index_impl_Lock_l0, hdec, hnn, hltd, hget]
    · simp [slices_Index_impl_Lock_l0_a0, slices_Index_impl_Lock_l0_0, slices_Index_impl_Lock_l0_1, slices_Index_impl_Lock_l0_2, slices_Index_impl_Lock_l0_3, slices_Index_impl_Lock_l0_4, slices_Index_impl_Lock_l0_5, lt_slices_Index_impl_Lock_l0, lp_slices_Index_impl_Lock_l0, LT.each, st_slices_Index_impl_Lock_l0, pr_slices_Index_impl_Lock_l0, hw]
    · simp only [slices_Index_impl_Lock_l0_a0, slices_Index_impl_Lock_l0_0, slices_Index_impl_Lock_l0_1, slices_Index_impl_Lock_l0_2, slices_Index_impl_Lock_l0_3, slices_Index_impl_Lock_l0_4, slices_Index_impl_Lock_l0_5, lt_slices_Index_impl_Lock_l0, lp_slices_Index_impl_Lock_l0, LT.fn, st_slices_Index_impl_Lock_l0, pr_slices_Index_impl_Lock_l0, f_slices_Index_impl_Lock_l0, Int.toNat_natCast, hdec, hnn, hltd, hget, cond_true, Bool.cond_self]
    · exact fun _ _ => trivial
  · obtain ⟨⟩ := a
    simp [slices_Index_impl_Lock_l0_a0, slices_Index_impl_Lock_l0_0, slices_Index_impl_Lock_l0_1, slices_Index_impl_Lock_l0_2, slices_Index_impl_Lock_l0_3, slices_Index_impl_Lock_l0_4, slices_Index_impl_Lock_l0_5, lt_slices_Index_impl_Lock_l0, lp_slices_Index_impl_Lock_l0, LT.out, st_slices_Index_impl_Lock_l0]

theorem find_ok (d o : Int) (ls : List (Int × Int)) (hn : ls.length ≤ 9223372036854775807) : spec_l29Find_0 d o ls = (bif ls.any (lkSame (d, o)) then (((ls.takeWhile fun x => !lkSame (d, o) x).length : Nat) : Int) else -1) ∧ spec_l29Find_1 d o ls = true := by
  obtain ⟨w1, w2⟩ := w_spec_l29Find_l0 d o ls hn
  rw [walk_stop (P := lkSame (d, o)) (j := 0) (fun x => by simp only [f_spec_l29Find_l0, lkSame]; cases x.1 == d <;> rfl)] at w2
  simp only [spec_l29Find_0, spec_l29Find_1, spec_l29Find_a0, w1, w2, allT, st_spec_l29Find_l0]
  cases ls.any (lkSame (d, o)) <;> simp [Nat.beq]

theorem hasLk_ok (d o : Int) (ls : List (Int × Int)) (hn : ls.length ≤ 9223372036854775807) : slices_Contains_impl_Lock_0 d o ls = ls.any (lkSame (d, o)) ∧ slices_Contains_impl_Lock_1 d o ls = true := by
  obtain ⟨w1, w2⟩ := w_slices_Index_impl_Lock_l0 d o ls hn
  rw [walk_stop (P := lkSame (d, o)) (j := 0) (fun x => by
    simp only [f_slices_Index_impl_Lock_l0, lkSame, BEq.comm (a := d), BEq.comm (a := o)]; cases x.1 == d <;> cases x.2 == o <;> rfl)] at w2
  simp only [slices_Contains_impl_Lock_0, slices_Contains_impl_Lock_1, slices_Index_impl_Lock_0, slices_Index_impl_Lock_1, slices_Index_impl_Lock_a0, w1, w2, allT, st_slices_Index_impl_Lock_l0]
  refine ⟨?_, rfl⟩
  cases ls.any (lkSame (d, o)) with
  | false => rfl
  | true => exact leI_t (Int.natCast_nonneg _)

theorem isLock_eq (a b : Int) : spec_l29Lock_0 a b = lkIn (a, b) ∧ impl_isLock_0 a b = lkIn (a, b) := by
  simp only [spec_l29Lock_0, impl_isLock_0, spec_l01In_0, impl_within_0, inR_eq, lkIn]
  cases inR a 0 23 <;> exact ⟨rfl, rfl⟩

theorem w_specLocks (ls : List (Int × Int)) (hn : ls.length ≤ 9223372036854775807) :
    lp_spec_AreLocks_l0.fin ((0 : Int), ls) = true ∧ (lp_spec_AreLocks_l0.res ((0 : Int), ls)).1 = bif (List.range ls.length).any (fun b => lkBad ls b || lkDup ls b) then 0 else 1 := by
  refine Lp.scan lp_spec_AreLocks_l0 (fun b => ((b : Int), ls)) ls.length (fun b => lkBad ls b || lkDup ls b) 1 (by simp only [lp_spec_AreLocks_l0]; omega) (fun b hb => ?_) ?_
  · have hdec : ltI (b : Int) (ls.length : Int) = true := ltI_t (by omega)
    have hnn : leI (0 : Int) (b : Int) = true := leI_t (by omega)
    have hltd : ltN b ls.length = true := ltN_t hb
    have hw : IntKind.i64.wrap ((b : Int) + 1) = ((b + 1 : Nat) : Int) := by rw [wrap_i64 (by omega) (by omega)]; omega
    have a0 : spec_AreLocks_l0_a0 (b : Int) ls = lkAt ls b := by simp only [spec_AreLocks_l0_a0, Int.toNat_natCast, lkAt]
    have a1 : spec_AreLocks_l0_a1 (b : Int) ls = lkBad ls b := by simp only [spec_AreLocks_l0_a1, a0, (isLock_eq _ _).1, lkBad]
    obtain ⟨f1, f2⟩ := find_ok (lkAt ls b).1 (lkAt ls b).2 ls hn
    have hat : lkAt ls b = ls[b] := by simp only [lkAt, List.getElem?_eq_getElem hb, Option.getD_some]
    have hp : lkSame (lkAt ls b) ls[b] = true := by rw [hat]; simp [lkSame]
    have hany : ls.any (lkSame (lkAt ls b)) = true := List.any_eq_true.2 ⟨_, List.getElem_mem hb, hp⟩
    have f1' : spec_l29Find_0 (lkAt ls b).1 (lkAt ls b).2 ls = (bif ls.any (lkSame (lkAt ls b)) then (((ls.takeWhile fun x => !lkSame (lkAt ls b) x).length : Nat) : Int) else -1) := f1
    have h7 : (spec_l29Find_0 (lkAt ls b).1 (lkAt ls b).2 ls != (b : Int)) = lkDup ls b := by
      rw [f1']
      simp only [hany, cond_true, lkDup]
      have hf := find_first ls b hb hp
      cases hd : (ls.take b).any (lkSame (lkAt ls b)) with
      | false => have := hf.2 hd; rw [this]; simp
      | true =>
        have : (ls.takeWhile fun x => !lkSame (lkAt ls b) x).length ≠ b := fun h => by rw [hf.1 h] at hd; cases hd
        simp only [bne_iff_ne, ne_eq]; omega
    refine ⟨?_, ?_, ?_⟩
    · simp [lp_spec_AreLocks_l0, lt_spec_AreLocks_l0, LT.nds, allT, spec_AreLocks_l0_0, spec_AreLocks_l0_1, spec_AreLocks_l0_2, spec_AreLocks_l0_3, spec_AreLocks_l0_4, spec_AreLocks_l0_5, spec_AreLocks_l0_6, hdec, hnn, hltd, a0, f2]
    · simp [lp_spec_AreLocks_l0, lt_spec_AreLocks_l0, LT.each, spec_AreLocks_l0_8, hw]
    · simp only [lp_spec_AreLocks_l0, lt_spec_AreLocks_l0, LT.fn, spec_AreLocks_l0_0, spec_AreLocks_l0_7, hdec, a0, a1, h7, cond_true]
      cases lkBad ls b <;> rfl
  · simp [lp_spec_AreLocks_l0, lt_spec_AreLocks_l0, LT.out, spec_AreLocks_l0_0]

theorem w_implLocks (ls : List (Int × Int)) (hn : ls.length ≤ 9223372036854775807) :
    lp_impl_AreLocks_l0.fin ((0 : Int), (ls.length : Int), ls) = true ∧ (lp_impl_AreLocks_l0.res ((0 : Int), (ls.length : Int), ls)).1 = bif (List.range ls.length).any (fun b => lkBad ls b || lkDup ls b) then 0 else 1 := by
  refine Lp.scan lp_impl_AreLocks_l0 (fun b => ((b : Int), (ls.length : Int), ls)) ls.length (fun b => lkBad ls b || lkDup ls b) 1 (by simp only [lp_impl_AreLocks_l0]; omega) (fun b hb => ?_) ?_
  · have hdec : ltI (b : Int) (ls.length : Int) = true := ltI_t (by omega)
    have hle : leI (b : Int) (ls.length : Int) = true := leI_t (by omega)
    have hnn : leI (0 : Int) (b : Int) = true := leI_t (by omega)
    have hltd : ltN b ls.length = true := ltN_t hb
    have hw : IntKind.i64.wrap ((b : Int) + 1) = ((b + 1 : Nat) : Int) := by rw [wrap_i64 (by omega) (by omega)]; omega
    have a0 : impl_AreLocks_l0_a0 (b : Int) ls = lkAt ls b := by simp only [impl_AreLocks_l0_a0, Int.toNat_natCast, lkAt]
    have a1 : impl_AreLocks_l0_a1 (b : Int) ls = lkBad ls b := by simp only [impl_AreLocks_l0_a1, a0, (isLock_eq _ _).2, lkBad]
    have a2 : impl_AreLocks_l0_a2 (b : Int) ls = bif !lkBad ls b then ls.take b else [] := by
      simp only [impl_AreLocks_l0_a2, a1, Int.toNat_natCast, Int.toNat_zero, List.drop_zero, Bool.and_true]
    have hl2 : (bif !lkBad ls b then ls.take b else []).length ≤ 9223372036854775807 := by
      cases lkBad ls b <;> simp; omega
    obtain ⟨f1, f2⟩ := hasLk_ok (lkAt ls b).1 (lkAt ls b).2 (bif !lkBad ls b then ls.take b else []) hl2
    have f1 : slices_Contains_impl_Lock_0 (lkAt ls b).1 (lkAt ls b).2 (bif !lkBad ls b then ls.take b else []) = (bif !lkBad ls b then ls.take b else []).any (lkSame (lkAt ls b)) := f1
    refine ⟨?_, ?_, ?_⟩
    · have z0 : leI 0 0 = true := rfl
      simp only [lp_impl_AreLocks_l0, lt_impl_AreLocks_l0, LT.nds, allT, impl_AreLocks_l0_0, impl_AreLocks_l0_1, impl_AreLocks_l0_2, impl_AreLocks_l0_3, impl_AreLocks_l0_4, impl_AreLocks_l0_5, impl_AreLocks_l0_6, impl_AreLocks_l0_7, Int.toNat_natCast, hdec, hle, hnn, hltd, a0, a2, f2, z0, Bool.or_true, cond_true, Bool.cond_self]
    · simp [lp_impl_AreLocks_l0, lt_impl_AreLocks_l0, LT.each, impl_AreLocks_l0_9, hw]
    · simp only [lp_impl_AreLocks_l0, lt_impl_AreLocks_l0, LT.fn, impl_AreLocks_l0_0, impl_AreLocks_l0_8, hdec, a0, a1, a2, f1, cond_true]
      cases lkBad ls b <;> rfl
  · simp [lp_impl_AreLocks_l0, lt_impl_AreLocks_l0, LT.out, impl_AreLocks_l0_0]

theorem lk_any (ls : List (Int × Int)) : ((List.range ls.length).any fun b => lkBad ls b || lkDup ls b) = !(List.range ls.length).all fun b => !(lkBad ls b || lkDup ls b) := by simp [List.all_eq_not_any_not]

theorem specLocks_ok (ls : List (Int × Int)) (hn : leN ls.length 9223372036854775807 = true) : spec_AreLocks_0 ls = okLk ls ∧ spec_AreLocks_1 ls = true := by
  obtain ⟨w1, w2⟩ := w_specLocks ls (leN_iff.1 hn)
  rw [lk_any] at w2
  simp only [spec_AreLocks_0, spec_AreLocks_1, w1, w2, allT, okLk, ltI_nat ls.length 8 (by omega)]
  cases ((List.range ls.length).all fun b => !(lkBad ls b || lkDup ls b)) <;> simp [Nat.beq]

theorem implLocks_ok (ls : List (Int × Int)) (hn : leN ls.length 9223372036854775807 = true) : impl_AreLocks_0 ls = okLk ls ∧ impl_AreLocks_1 ls = true := by
  obtain ⟨w1, w2⟩ := w_implLocks ls (leN_iff.1 hn)
  rw [lk_any] at w2
  simp only [impl_AreLocks_0, impl_AreLocks_1, impl_AreLocks_a0, w1, w2, allT, okLk, ltI_nat ls.length 8 (by omega)]
  cases ((List.range ls.length).all fun b => !(lkBad ls b || lkDup ls b)) <;> simp [Nat.beq]

def N_spec_AreLocks : List SV → List Entry → Option Out
  | [.one ⟨false, [.ref 0]⟩], [.row false 90 (.pair (.int .i64) (.int .i64)) x0] => some ⟨(.one ⟨false, [(.val (.bool (okLk x0)))]⟩), [(.row false 90 (CTy.pair (CTy.int IntKind.i64) (CTy.int IntKind.i64)) x0)], [], [leN x0.length 9223372036854775807]⟩
  | _, _ => none

def n_spec_AreLocks : PF Tryz.prog := PF.alt p_spec_AreLocks N_spec_AreLocks (by
  intro args es o h hnd; unfold N_spec_AreLocks at h; split at h
  · rename_i x0
    cases h
    have hnd := nd_fst hnd
    have hh := specLocks_ok x0 hnd
    obtain ⟨e0, en⟩ := hh
    exact altok rfl (nd_one en) (by simp only [e0] <;> rfl) rfl rfl
  · cases h)

def N_impl_AreLocks : List SV → List Entry → Option Out
  | [.one ⟨false, [.ref 0]⟩], [.row false 90 (.pair (.int .i64) (.int .i64)) x0] => some ⟨(.one ⟨false, [(.val (.bool (okLk x0)))]⟩), [(.row false 90 (CTy.pair (CTy.int IntKind.i64) (CTy.int IntKind.i64)) x0)], [], [leN x0.length 9223372036854775807]⟩
  | _, _ => none

def n_impl_AreLocks : PF Tryz.prog := PF.alt p_impl_AreLocks N_impl_AreLocks (by
  intro args es o h hnd; unfold N_impl_AreLocks at h; split at h
  · rename_i x0
    cases h
    have hnd := nd_fst hnd
    have hh := implLocks_ok x0 hnd
    obtain ⟨e0, en⟩ := hh
    exact altok rfl (nd_one en) (by simp only [e0] <;> rfl) rfl rfl
  · cases h)

end Go.SX

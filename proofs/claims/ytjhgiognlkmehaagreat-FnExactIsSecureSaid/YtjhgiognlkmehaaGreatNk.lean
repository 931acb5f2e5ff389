/- Faults of sensors, in plain words. -/
import Derived.Test.YtjhgiognlkmehaaGreatRk
namespace Go.SX
open Go.Proofs
set_option maxRecDepth 100000

/-- A fault names a block, a channel and a value. -/
def fIn (n : Int) (f : Int × Int × Int) : Bool := inR f.1 0 (IntKind.i64.wrap (n - 1)) && (inR f.2.1 0 1 && inR f.2.2 0 1)
/-- Two faults of one channel. -/
def fSame (f g : Int × Int × Int) : Bool := g.1 == f.1 && g.2.1 == f.2.1
def fAt (fs : List (Int × Int × Int)) (b : Nat) : Int × Int × Int := fs[b]?.getD (0, 0, 0)
def fBad (n : Int) (fs : List (Int × Int × Int)) (b : Nat) : Bool := !fIn n (fAt fs b)
def fDup (fs : List (Int × Int × Int)) (b : Nat) : Bool := (fs.take b).any (fSame (fAt fs b))
/-- Valid faults. -/
def okFs (n : Int) (fs : List (Int × Int × Int)) : Bool := leN fs.length 8 && (List.range fs.length).all fun b => !(fBad n fs b || fDup fs b)

theorem any_take {fs : List (Int × Int × Int)} {P : Int × Int × Int → Bool} {b : Nat} (h : b ≤ fs.length) : ((List.range b).any fun j => P (fs[j]?.getD (0, 0, 0))) = (fs.take b).any P := by
  rw [Bool.eq_iff_iff]
  simp only [List.any_eq_true, List.mem_range, List.mem_take_iff_getElem]
  constructor
  · rintro ⟨j, hj, hp⟩
    have hl : j < fs.length := by omega
    rw [List.getElem?_eq_getElem hl] at hp
    exact ⟨fs[j], ⟨j, by omega, rfl⟩, hp⟩
  · rintro ⟨x, ⟨j, hj, rfl⟩, hp⟩
    have hl : j < fs.length := by omega
    exact ⟨j, by omega, by rw [List.getElem?_eq_getElem hl]; exact hp⟩

def f_spec_AreFaults_l0_l0 (y2 : List (Int × (Int × Int))) (y3 : Int) (y4 : Int) (b : Nat) : (Unit) → Nat ⊕ (Unit)
  | _ => (bif ((bif (Prod.fst ((Option.getD y2[b]? ((0 : Int), (0 : Int), (0 : Int)))) == y3) then Prod.fst (Prod.snd ((Option.getD y2[b]? ((0 : Int), (0 : Int), (0 : Int))))) == y4 else false)) then (.inl 0) else (.inr ()))

def st_spec_AreFaults_l0_l0 (y1 : Int) (y2 : List (Int × (Int × Int))) (y3 : Int) (y4 : Int) (y5 : Int) (i : Nat) : (Unit) → X_spec_AreFaults_l0_l0
  | _ => ((i : Int), y1, y2, y3, y4, y5)

def pr_spec_AreFaults_l0_l0 : X_spec_AreFaults_l0_l0 → Unit
  | (_, _, _, _, _, _) => ()

theorem w_spec_AreFaults_l0_l0 (y1 : Int) (y2 : List (Int × (Int × Int))) (y3 : Int) (y4 : Int) (y5 : Int)  (hn : y1 ≤ 9223372036854775807) (hb : y1 ≤ (y2.length : Int)) :
    lp_spec_AreFaults_l0_l0.fin ((0 : Int), y1, y2, y3, y4, y5) = true ∧ lp_spec_AreFaults_l0_l0.res ((0 : Int), y1, y2, y3, y4, y5) = ((walkL (f_spec_AreFaults_l0_l0 y2 y3 y4) 1 (List.range y1.toNat) 0 ()).1, (st_spec_AreFaults_l0_l0 y1 y2 y3 y4 y5) (walkL (f_spec_AreFaults_l0_l0 y2 y3 y4) 1 (List.range y1.toNat) 0 ()).2.1 (walkL (f_spec_AreFaults_l0_l0 y2 y3 y4) 1 (List.range y1.toNat) 0 ()).2.2) := by
  have key := lp_spec_AreFaults_l0_l0.along (st_spec_AreFaults_l0_l0 y1 y2 y3 y4 y5) pr_spec_AreFaults_l0_l0 (f_spec_AreFaults_l0_l0 y2 y3 y4) 1 (fun _ _ => True) (List.range y1.toNat) () (by trivial) (by simp only [lp_spec_AreFaults_l0_l0, st_spec_AreFaults_l0_l0, List.length_range]; omega) (fun i b a hb hI => ?_) (fun a hI => ?_)
  · exact key
  · obtain ⟨⟩ := a
    obtain ⟨rfl, hlt⟩ := range_get hb
    have hw : IntKind.i64.wrap ((b : Int) + 1) = ((b + 1 : Nat) : Int) := by rw [wrap_i64 (by omega) (by omega)]; omega
    have hdec : ltI (b : Int) y1 = true := ltI_t (by omega)
    have hnn : leI (0 : Int) (b : Int) = true := leI_t (by omega)
    refine ⟨?_, ?_, ?_, ?_⟩
    · have h1 : ltI (b : Int) (y2.length : Int) = true := ltI_t (by omega)
      have h2 : ltN b y2.length = true := ltN_t (by omega)
      simp [spec_AreFaults_l0_l0_a0, spec_AreFaults_l0_l0_a1, spec_AreFaults_l0_l0_0, spec_AreFaults_l0_l0_1, spec_AreFaults_l0_l0_2, spec_AreFaults_l0_l0_3, spec_AreFaults_l0_l0_4, spec_AreFaults_l0_l0_5, spec_AreFaults_l0_l0_6, spec_AreFaults_l0_l0_7, spec_AreFaults_l0_l0_8, lt_spec_AreFaults_l0_l0, lp_spec_AreFaults_l0_l0, LT.nds, allT, st_spec_AreFaults_l0_l0, hdec, hnn, h1, h2]
    · simp [spec_AreFaults_l0_l0_a0, spec_AreFaults_l0_l0_a1, spec_AreFaults_l0_l0_0, spec_AreFaults_l0_l0_1, spec_AreFaults_l0_l0_2, spec_AreFaults_l0_l0_3, spec_AreFaults_l0_l0_4, spec_AreFaults_l0_l0_5, spec_AreFaults_l0_l0_6, spec_AreFaults_l0_l0_7, spec_AreFaults_l0_l0_8, lt_spec_AreFaults_l0_l0, lp_spec_AreFaults_l0_l0, LT.each, st_spec_AreFaults_l0_l0, pr_spec_AreFaults_l0_l0, hw]
    · simp only [spec_AreFaults_l0_l0_a0, spec_AreFaults_l0_l0_a1, spec_AreFaults_l0_l0_0, spec_AreFaults_l0_l0_1, spec_AreFaults_l0_l0_2, spec_AreFaults_l0_l0_3, spec_AreFaults_l0_l0_4, spec_AreFaults_l0_l0_5, spec_AreFaults_l0_l0_6, spec_AreFaults_l0_l0_7, spec_AreFaults_l0_l0_8, lt_spec_AreFaults_l0_l0, lp_spec_AreFaults_l0_l0, LT.fn, st_spec_AreFaults_l0_l0, pr_spec_AreFaults_l0_l0, f_spec_AreFaults_l0_l0, Int.toNat_natCast, hdec, hnn, cond_true, Bool.cond_self]
    · exact fun _ _ => trivial
  · obtain ⟨⟩ := a
    simp only [spec_AreFaults_l0_l0_a0, spec_AreFaults_l0_l0_a1, spec_AreFaults_l0_l0_0, spec_AreFaults_l0_l0_1, spec_AreFaults_l0_l0_2, spec_AreFaults_l0_l0_3, spec_AreFaults_l0_l0_4, spec_AreFaults_l0_l0_5, spec_AreFaults_l0_l0_6, spec_AreFaults_l0_l0_7, spec_AreFaults_l0_l0_8, lt_spec_AreFaults_l0_l0, lp_spec_AreFaults_l0_l0, LT.out, st_spec_AreFaults_l0_l0, List.length_range, ltI_toNat, ltI_down, cond_false]

theorem inner_dup (fs : List (Int × Int × Int)) (b : Nat) (hb : b < fs.length) (hn : fs.length ≤ 9223372036854775807) :
    spec_AreFaults_l0_4 (b : Int) fs = true ∧ spec_AreFaults_l0_5 (b : Int) fs = fDup fs b := by
  obtain ⟨w1, w2⟩ := w_spec_AreFaults_l0_l0 (b : Int) fs (fAt fs b).1 (fAt fs b).2.1 (fAt fs b).2.2 (by omega) (by omega)
  rw [walk_stop (P := fun j => fSame (fAt fs b) (fs[j]?.getD (0, 0, 0))) (j := 0) (fun j => by
    simp only [f_spec_AreFaults_l0_l0, fSame]; cases (fs[j]?.getD (0, 0, 0)).1 == (fAt fs b).1 <;> rfl), Int.toNat_natCast, any_take (by omega)] at w2
  refine ⟨w1, ?_⟩
  have e : spec_AreFaults_l0_a1 (b : Int) fs = (0, (b : Int), fs, (fAt fs b).1, (fAt fs b).2.1, (fAt fs b).2.2) := rfl
  simp only [spec_AreFaults_l0_5, e, w2, fDup]
  cases (fs.take b).any (fSame (fAt fs b)) <;> rfl

theorem specBad (n : Int) (fs : List (Int × Int × Int)) (b : Nat) : spec_AreFaults_l0_3 (b : Int) n fs = fBad n fs b := by
  simp only [spec_AreFaults_l0_3, spec_l01In_0, fBad, fIn, fAt, spec_AreFaults_l0_a0, Int.toNat_natCast, inR_eq]
  cases inR (fs[b]?.getD (0, 0, 0)).1 0 (IntKind.i64.wrap (n - 1)) <;> cases inR (fs[b]?.getD (0, 0, 0)).2.1 0 1 <;> cases inR (fs[b]?.getD (0, 0, 0)).2.2 0 1 <;> rfl

def fF (n : Int) (fs : List (Int × Int × Int)) (b : Nat) (_ : Unit) : Nat ⊕ Unit := bif fBad n fs b then .inl 0 else bif fDup fs b then .inl 1 else .inr ()

theorem walk_fF (n : Int) (fs : List (Int × Int × Int)) : ∀ (r : List Nat) (i : Nat), ∃ k m, walkL (fF n fs) 2 r i () = (k, m, ()) ∧ ((k = 2 ∧ (r.all fun b => !(fBad n fs b || fDup fs b)) = true) ∨ ((k = 0 ∨ k = 1) ∧ (r.all fun b => !(fBad n fs b || fDup fs b)) = false))
  | [], i => ⟨2, i, rfl, .inl ⟨rfl, rfl⟩⟩
  | b :: r, i => by
    cases h1 : fBad n fs b with
    | true => exact ⟨0, i, by simp only [walkL, fF, h1, cond_true], .inr ⟨.inl rfl, by simp [h1]⟩⟩
    | false =>
      cases h2 : fDup fs b with
      | true => exact ⟨1, i, by simp only [walkL, fF, h1, h2, cond_true, cond_false], .inr ⟨.inr rfl, by simp [h2]⟩⟩
      | false =>
        obtain ⟨k, m, e, h⟩ := walk_fF n fs r (i + 1)
        exact ⟨k, m, by simp only [walkL, fF, h1, h2, cond_false]; exact e, by simpa [h1, h2] using h⟩

theorem w_specFaults (n : Int) (fs : List (Int × Int × Int)) (hn : fs.length ≤ 9223372036854775807) :
    lp_spec_AreFaults_l0.fin ((0 : Int), n, fs) = true ∧ lp_spec_AreFaults_l0.res ((0 : Int), n, fs) = ((walkL (fF n fs) 2 (List.range fs.length) 0 ()).1, (((walkL (fF n fs) 2 (List.range fs.length) 0 ()).2.1 : Int), n, fs)) := by
  have key := lp_spec_AreFaults_l0.along (fun i _ => ((i : Int), n, fs)) (fun _ => ()) (fF n fs) 2 (fun _ _ => True) (List.range fs.length) () trivial (by simp only [lp_spec_AreFaults_l0, List.length_range]; omega) (fun i b a hb hI => ?_) (fun a hI => ?_)
  · exact key
  · obtain ⟨rfl, hlt⟩ := range_get hb
    have hw : IntKind.i64.wrap ((b : Int) + 1) = ((b + 1 : Nat) : Int) := by rw [wrap_i64 (by omega) (by omega)]; omega
    have hdec : ltI (b : Int) (fs.length : Int) = true := ltI_t (by omega)
    have hnn : leI (0 : Int) (b : Int) = true := leI_t (by omega)
    have hltd : ltN b fs.length = true := ltN_t (by omega)
    obtain ⟨i1, i2⟩ := inner_dup fs b hlt hn
    have i3 := specBad n fs b
    refine ⟨?_, ?_, ?_, ?_⟩
    · simp [lp_spec_AreFaults_l0, lt_spec_AreFaults_l0, LT.nds, allT, spec_AreFaults_l0_0, spec_AreFaults_l0_1, spec_AreFaults_l0_2, hdec, hnn, hltd, i1]
    · simp [lp_spec_AreFaults_l0, lt_spec_AreFaults_l0, LT.each, spec_AreFaults_l0_6, hw]
    · simp only [lp_spec_AreFaults_l0, lt_spec_AreFaults_l0, LT.fn, spec_AreFaults_l0_0, hdec, i2, i3, fF, cond_true]
    · exact fun _ _ => trivial
  · simp [lp_spec_AreFaults_l0, lt_spec_AreFaults_l0, LT.out, spec_AreFaults_l0_0, List.length_range]

theorem specFaults_ok (n : Int) (fs : List (Int × Int × Int)) (hn : leN fs.length 9223372036854775807 = true) : spec_AreFaults_0 n fs = (inR n 2 8 && okFs n fs) ∧ spec_AreFaults_1 n fs = true := by
  obtain ⟨w1, w2⟩ := w_specFaults n fs (leN_iff.1 hn)
  obtain ⟨k, m, e, h⟩ := walk_fF n fs (List.range fs.length) 0
  rw [e] at w2
  refine ⟨?_, ?_⟩
  · have hl : leI (fs.length : Int) 8 = leN fs.length 8 := by rw [Bool.eq_iff_iff]; simp; omega
    simp only [spec_AreFaults_0, spec_AreFaults_a0, w2, spec_l11Number_0, spec_l01In_0, inR_eq, okFs, hl]
    rcases h with ⟨rfl, h⟩ | ⟨rfl | rfl, h⟩ <;> rw [h]
    · cases inR n 2 8 <;> cases leN fs.length 8 <;> rfl
    · cases inR n 2 8 <;> cases leN fs.length 8 <;> rfl
    · cases inR n 2 8 <;> cases leN fs.length 8 <;> rfl
  · simp only [spec_AreFaults_1, spec_AreFaults_a0, w1, allT, cond_true]

def N_spec_AreFaults : List SV → List Entry → Option Out
  | [.one ⟨false, [.val (.int .i64 x0)]⟩, .one ⟨false, [.ref 0]⟩], [.row false 78 (.pair (.int .i64) (.pair (.int .i64) (.int .i64))) x1] => some ⟨(.one ⟨false, [(.val (.bool (inR x0 2 8 && okFs x0 x1)))]⟩), [(.row false 78 (CTy.pair (CTy.int IntKind.i64) (CTy.pair (CTy.int IntKind.i64) (CTy.int IntKind.i64))) x1)], [], [leN x1.length 9223372036854775807]⟩
  | _, _ => none

def n_spec_AreFaults : PF Tryz.prog := PF.alt p_spec_AreFaults N_spec_AreFaults (by
  intro args es o h hnd; unfold N_spec_AreFaults at h; split at h
  · rename_i x0 x1
    cases h
    have hnd := nd_fst hnd
    have hh := specFaults_ok x0 x1 hnd
    obtain ⟨e0, en⟩ := hh
    exact altok rfl (nd_one en) (by simp only [e0] <;> rfl) rfl rfl
  · cases h)

def f_slices_IndexFunc_impl_SensorFault_q1001_l0 (y2 : Int) (y3 : Int) (b : Int × (Int × Int)) : (Unit) → Nat ⊕ (Unit)
  | _ => (bif ((impl_areFaults_1_q1002_0 (Prod.fst ((b))) (Prod.fst (Prod.snd ((b)))) y2 y3)) then (.inl 0) else (.inr ()))

def st_slices_IndexFunc_impl_SensorFault_q1001_l0 (y2 : Int) (y3 : Int) (y4 : Int) (y5 : List (Int × (Int × Int))) (i : Nat) : (Unit) → X_slices_IndexFunc_impl_SensorFault_q1001_l0
  | _ => ((i : Int), (↑(List.length y5) : Int), y2, y3, y4, y5)

def pr_slices_IndexFunc_impl_SensorFault_q1001_l0 : X_slices_IndexFunc_impl_SensorFault_q1001_l0 → Unit
  | (_, _, _, _, _, _) => ()

theorem w_slices_IndexFunc_impl_SensorFault_q1001_l0 (y2 : Int) (y3 : Int) (y4 : Int) (y5 : List (Int × (Int × Int)))  (hn : y5.length ≤ 9223372036854775807)  :
    lp_slices_IndexFunc_impl_SensorFault_q1001_l0.fin ((0 : Int), (↑(List.length y5) : Int), y2, y3, y4, y5) = true ∧ lp_slices_IndexFunc_impl_SensorFault_q1001_l0.res ((0 : Int), (↑(List.length y5) : Int), y2, y3, y4, y5) = ((walkL (f_slices_IndexFunc_impl_SensorFault_q1001_l0 y2 y3) 1 y5 0 ()).1, (st_slices_IndexFunc_impl_SensorFault_q1001_l0 y2 y3 y4 y5) (walkL (f_slices_IndexFunc_impl_SensorFault_q1001_l0 y2 y3) 1 y5 0 ()).2.1 (walkL (f_slices_IndexFunc_impl_SensorFault_q1001_l0 y2 y3) 1 y5 0 ()).2.2) := by
  have key := lp_slices_IndexFunc_impl_SensorFault_q1001_l0.along (st_slices_IndexFunc_impl_SensorFault_q1001_l0 y2 y3 y4 y5) pr_slices_IndexFunc_impl_SensorFault_q1001_l0 (f_slices_IndexFunc_impl_SensorFault_q1001_l0 y2 y3) 1 (fun _ _ => True) y5 () (by trivial) (by simp only [lp_slices_IndexFunc_impl_SensorFault_q1001_l0, st_slices_IndexFunc_impl_SensorFault_q1001_l0]; omega) (fun i b a hb hI => ?_) (fun a hI => ?_)
  · exact key
  · obtain ⟨⟩ := a
    have hlt := (List.getElem?_eq_some_iff.1 hb).1
    have hget : ∀ d, Option.getD y5[i]? d = b := fun d => by rw [hb]; rfl
    have hw := wrap64 hlt hn
    have hdec : ltI (i : Int) (y5.length : Int) = true := ltI_t (by omega)
    have hnn : leI (0 : Int) (i : Int) = true := leI_t (by omega)
    have hltd : ltN i y5.length = true := ltN_t hlt
    refine ⟨?_, ?_, ?_, ?_⟩
    · simp [slices_IndexFunc_impl_SensorFault_q1001_l0_a0, slices_IndexFunc_impl_SensorFault_q1001_l0_0, slices_IndexFunc_impl_SensorFault_q1001_l0_1, slices_IndexFunc_impl_SensorFault_q1001_l0_2, slices_IndexFunc_impl_SensorFault_q1001_l0_3, slices_IndexFunc_impl_SensorFault_q1001_l0_4, slices_IndexFunc_impl_SensorFault_q1001_l0_5, lt_slices_IndexFunc_impl_SensorFault_q1001_l0, lp_slices_IndexFunc_impl_SensorFault_q1001_l0, LT.nds, allT, st_slices_IndexFunc_impl_SensorFault_q1001_l0, hdec, hnn, hltd, hget]
    · simp [slices_IndexFunc_impl_SensorFault_q1001_l0_a0, slices_IndexFunc_impl_SensorFault_q1001_l0_0, slices_IndexFunc_impl_SensorFault_q1001_l0_1, slices_IndexFunc_impl_SensorFault_q1001_l0_2, slices_IndexFunc_impl_SensorFault_q1001_l0_3, slices_IndexFunc_impl_SensorFault_q1001_l0_4, slices_IndexFunc_impl_SensorFault_q1001_l0_5, lt_slices_IndexFunc_impl_SensorFault_q1001_l0, lp_slices_IndexFunc_impl_SensorFault_q1001_l0, LT.each, st_slices_IndexFunc_impl_SensorFault_q1001_l0, pr_slices_IndexFunc_impl_SensorFault_q1001_l0, hw]
    · simp only [slices_IndexFunc_impl_SensorFault_q1001_l0_a0, slices_IndexFunc_impl_SensorFault_q1001_l0_0, slices_IndexFunc_impl_SensorFault_q1001_l0_1, slices_IndexFunc_impl_SensorFault_q1001_l0_2, slices_IndexFunc_impl_SensorFault_q1001_l0_3, slices_IndexFunc_impl_SensorFault_q1001_l0_4, slices_IndexFunc_impl_SensorFault_q1001_l0_5, lt_slices_IndexFunc_impl_SensorFault_q1001_l0, lp_slices_IndexFunc_impl_SensorFault_q1001_l0, LT.fn, st_slices_IndexFunc_impl_SensorFault_q1001_l0, pr_slices_IndexFunc_impl_SensorFault_q1001_l0, f_slices_IndexFunc_impl_SensorFault_q1001_l0, Int.toNat_natCast, hdec, hnn, hltd, hget, cond_true, Bool.cond_self]
    · exact fun _ _ => trivial
  · obtain ⟨⟩ := a
    simp [slices_IndexFunc_impl_SensorFault_q1001_l0_a0, slices_IndexFunc_impl_SensorFault_q1001_l0_0, slices_IndexFunc_impl_SensorFault_q1001_l0_1, slices_IndexFunc_impl_SensorFault_q1001_l0_2, slices_IndexFunc_impl_SensorFault_q1001_l0_3, slices_IndexFunc_impl_SensorFault_q1001_l0_4, slices_IndexFunc_impl_SensorFault_q1001_l0_5, lt_slices_IndexFunc_impl_SensorFault_q1001_l0, lp_slices_IndexFunc_impl_SensorFault_q1001_l0, LT.out, st_slices_IndexFunc_impl_SensorFault_q1001_l0]

theorem implHas_ok (xs : List (Int × Int × Int)) (f : Int × Int × Int) (hn : xs.length ≤ 9223372036854775807) :
    slices_ContainsFunc_impl_SensorFault_q1000_0 xs f.1 f.2.1 f.2.2 = xs.any (fSame f) ∧ slices_ContainsFunc_impl_SensorFault_q1000_4 xs f.1 f.2.1 f.2.2 = true := by
  obtain ⟨w1, w2⟩ := w_slices_IndexFunc_impl_SensorFault_q1001_l0 f.1 f.2.1 f.2.2 xs hn
  rw [walk_stop (P := fSame f) (j := 0) (fun t => by
    simp only [f_slices_IndexFunc_impl_SensorFault_q1001_l0, impl_areFaults_1_q1002_0, fSame]; cases t.1 == f.1 <;> rfl)] at w2
  refine ⟨?_, ?_⟩
  · simp only [slices_ContainsFunc_impl_SensorFault_q1000_0, slices_ContainsFunc_impl_SensorFault_q1000_1, slices_ContainsFunc_impl_SensorFault_q1000_2, slices_ContainsFunc_impl_SensorFault_q1000_3, slices_ContainsFunc_impl_SensorFault_q1000_4, slices_IndexFunc_impl_SensorFault_q1001_a0, slices_IndexFunc_impl_SensorFault_q1001_a1, slices_IndexFunc_impl_SensorFault_q1001_0, slices_IndexFunc_impl_SensorFault_q1001_1, slices_IndexFunc_impl_SensorFault_q1001_2, slices_IndexFunc_impl_SensorFault_q1001_3, slices_IndexFunc_impl_SensorFault_q1001_4, w2, st_slices_IndexFunc_impl_SensorFault_q1001_l0]
    cases xs.any (fSame f) with
    | false => rfl
    | true => exact leI_t (Int.natCast_nonneg _)
  · simp only [slices_ContainsFunc_impl_SensorFault_q1000_0, slices_ContainsFunc_impl_SensorFault_q1000_1, slices_ContainsFunc_impl_SensorFault_q1000_2, slices_ContainsFunc_impl_SensorFault_q1000_3, slices_ContainsFunc_impl_SensorFault_q1000_4, slices_IndexFunc_impl_SensorFault_q1001_a0, slices_IndexFunc_impl_SensorFault_q1001_a1, slices_IndexFunc_impl_SensorFault_q1001_0, slices_IndexFunc_impl_SensorFault_q1001_1, slices_IndexFunc_impl_SensorFault_q1001_2, slices_IndexFunc_impl_SensorFault_q1001_3, slices_IndexFunc_impl_SensorFault_q1001_4, w1, allT, cond_true]

theorem implBad (n : Int) (fs : List (Int × Int × Int)) (b : Nat) : impl_areFaults_l0_4 (b : Int) n fs = fBad n fs b := by
  have h2 : ∀ v : Int, (bif v == 0 then true else v == 1) = inR v 0 1 := fun v => by
    rw [Bool.eq_iff_iff, inR_iff]; by_cases h : v = 0 <;> by_cases h' : v = 1 <;> simp [h, h'] <;> omega
  have h3 : ∀ v : Int, (bif v != 0 then v != 1 else false) = !inR v 0 1 := fun v => by
    rw [← h2 v]; simp only [bne]; cases v == 0 <;> rfl
  simp only [impl_areFaults_l0_4, impl_within_0, impl_isReportValue_0, fBad, fIn, fAt, impl_areFaults_l0_a0, Int.toNat_natCast, inR_eq, h2, h3]
  cases inR (fs[b]?.getD (0, 0, 0)).1 0 (IntKind.i64.wrap (n - 1)) <;> cases inR (fs[b]?.getD (0, 0, 0)).2.1 0 1 <;> cases inR (fs[b]?.getD (0, 0, 0)).2.2 0 1 <;> rfl

theorem w_implFaults (n : Int) (fs : List (Int × Int × Int)) (hn : fs.length ≤ 9223372036854775807) :
    lp_impl_areFaults_l0.fin ((0 : Int), (fs.length : Int), n, fs) = true ∧ lp_impl_areFaults_l0.res ((0 : Int), (fs.length : Int), n, fs) = ((walkL (fF n fs) 2 (List.range fs.length) 0 ()).1, (((walkL (fF n fs) 2 (List.range fs.length) 0 ()).2.1 : Int), (fs.length : Int), n, fs)) := by
  have key := lp_impl_areFaults_l0.along (fun i _ => ((i : Int), (fs.length : Int), n, fs)) (fun _ => ()) (fF n fs) 2 (fun _ _ => True) (List.range fs.length) () trivial (by simp only [lp_impl_areFaults_l0, List.length_range]; omega) (fun i b a hb hI => ?_) (fun a hI => ?_)
  · exact key
  · obtain ⟨rfl, hlt⟩ := range_get hb
    have hw : IntKind.i64.wrap ((b : Int) + 1) = ((b + 1 : Nat) : Int) := by rw [wrap_i64 (by omega) (by omega)]; omega
    have hdec : ltI (b : Int) (fs.length : Int) = true := ltI_t (by omega)
    have hle : leI (b : Int) (fs.length : Int) = true := leI_t (by omega)
    have hnn : leI (0 : Int) (b : Int) = true := leI_t (by omega)
    have hltd : ltN b fs.length = true := ltN_t (by omega)
    obtain ⟨i2, i1⟩ := implHas_ok (fs.take b) (fAt fs b) (by rw [List.length_take]; omega)
    have i2 : impl_areFaults_l0_8 (b : Int) fs = fDup fs b := i2
    have i1 : impl_areFaults_l0_7 (b : Int) fs = true := i1
    have i3 := implBad n fs b
    refine ⟨?_, ?_, ?_, ?_⟩
    · simp [lp_impl_areFaults_l0, lt_impl_areFaults_l0, LT.nds, allT, impl_areFaults_l0_0, impl_areFaults_l0_1, impl_areFaults_l0_2, impl_areFaults_l0_3, impl_areFaults_l0_5, impl_areFaults_l0_6, hdec, hnn, hltd, hle, i1]
    · simp [lp_impl_areFaults_l0, lt_impl_areFaults_l0, LT.each, impl_areFaults_l0_9, hw]
    · simp only [lp_impl_areFaults_l0, lt_impl_areFaults_l0, LT.fn, impl_areFaults_l0_0, hdec, i2, i3, fF, cond_true]
    · exact fun _ _ => trivial
  · simp [lp_impl_areFaults_l0, lt_impl_areFaults_l0, LT.out, impl_areFaults_l0_0, List.length_range]

theorem implFaults_ok (n : Int) (fs : List (Int × Int × Int)) (hn : leN fs.length 9223372036854775807 = true) : impl_areFaults_0 n fs = okFs n fs ∧ impl_areFaults_1 n fs = true := by
  obtain ⟨w1, w2⟩ := w_implFaults n fs (leN_iff.1 hn)
  obtain ⟨k, m, e, h⟩ := walk_fF n fs (List.range fs.length) 0
  rw [e] at w2
  refine ⟨?_, ?_⟩
  · have hl : leI (fs.length : Int) 8 = leN fs.length 8 := by rw [Bool.eq_iff_iff]; simp; omega
    simp only [impl_areFaults_0, impl_areFaults_a0, w2, okFs, hl]
    rcases h with ⟨rfl, h⟩ | ⟨rfl | rfl, h⟩ <;> rw [h] <;> cases leN fs.length 8 <;> rfl
  · simp only [impl_areFaults_1, impl_areFaults_a0, w1, allT, cond_true]

def N_impl_areFaults : List SV → List Entry → Option Out
  | [.one ⟨false, [.val (.int .i64 x0)]⟩, .one ⟨false, [.ref 0]⟩], [.row false 78 (.pair (.int .i64) (.pair (.int .i64) (.int .i64))) x1] => some ⟨(.one ⟨false, [(.val (.bool (okFs x0 x1)))]⟩), [(.row false 78 (CTy.pair (CTy.int IntKind.i64) (CTy.pair (CTy.int IntKind.i64) (CTy.int IntKind.i64))) x1)], [], [leN x1.length 9223372036854775807]⟩
  | _, _ => none

def n_impl_areFaults : PF Tryz.prog := PF.alt p_impl_areFaults N_impl_areFaults (by
  intro args es o h hnd; unfold N_impl_areFaults at h; split at h
  · rename_i x0 x1
    cases h
    have hnd := nd_fst hnd
    have hh := implFaults_ok x0 x1 hnd
    obtain ⟨e0, en⟩ := hh
    exact altok rfl (nd_one en) (by simp only [e0] <;> rfl) rfl rfl
  · cases h)

/-! ### Copies and comparisons of faults -/

def eqFls (xs ys : List (Int × Int × Int)) : Bool := decide (xs = ys)

def f_laws_toSensorFaultS_l0 (y1 : List (Int × (Int × Int))) (b : Nat) : (List (Int × (Int × Int))) → Nat ⊕ (List (Int × (Int × Int)))
  | y2 => (.inr ((List.set y2 (b) (Prod.fst ((Option.getD y1[b]? ((0 : Int), (0 : Int), (0 : Int)))), Prod.fst (Prod.snd ((Option.getD y1[b]? ((0 : Int), (0 : Int), (0 : Int))))), Prod.snd (Prod.snd ((Option.getD y1[b]? ((0 : Int), (0 : Int), (0 : Int)))))))))

def st_laws_toSensorFaultS_l0 (y1 : List (Int × (Int × Int))) (i : Nat) : (List (Int × (Int × Int))) → X_laws_toSensorFaultS_l0
  | y2 => ((i : Int), y1, y2)

def pr_laws_toSensorFaultS_l0 : X_laws_toSensorFaultS_l0 → List (Int × (Int × Int))
  | (_, _, y2) => y2

theorem w_laws_toSensorFaultS_l0 (y1 : List (Int × (Int × Int))) (y2 : List (Int × (Int × Int))) (hn : y1.length ≤ 9223372036854775807) (hl : y2.length = y1.length) :
    lp_laws_toSensorFaultS_l0.fin ((0 : Int), y1, y2) = true ∧ lp_laws_toSensorFaultS_l0.res ((0 : Int), y1, y2) = ((walkL (f_laws_toSensorFaultS_l0 y1) 0 (List.range y1.length) 0 y2).1, (st_laws_toSensorFaultS_l0 y1) (walkL (f_laws_toSensorFaultS_l0 y1) 0 (List.range y1.length) 0 y2).2.1 (walkL (f_laws_toSensorFaultS_l0 y1) 0 (List.range y1.length) 0 y2).2.2) := by
  have key := lp_laws_toSensorFaultS_l0.along (st_laws_toSensorFaultS_l0 y1) pr_laws_toSensorFaultS_l0 (f_laws_toSensorFaultS_l0 y1) 0 (fun _ a => a.length = y1.length) (List.range y1.length) y2 hl (by simp only [lp_laws_toSensorFaultS_l0, st_laws_toSensorFaultS_l0, List.length_range]; omega) (fun i b a hb hI => ?_) (fun a hI => ?_)
  · exact key
  · obtain y2 := a
    obtain ⟨rfl, hlt⟩ := range_get hb
    have hw : IntKind.i64.wrap ((b : Int) + 1) = ((b + 1 : Nat) : Int) := by rw [wrap_i64 (by omega) (by omega)]; omega
    have hdec : ltI (b : Int) (y1.length : Int) = true := ltI_t (by omega)
    have hnn : leI (0 : Int) (b : Int) = true := leI_t (by omega)
    have hltd : ltN b y1.length = true := ltN_t (by omega)
    refine ⟨?_, ?_, ?_, ?_⟩
    · simp [laws_toSensorFaultS_l0_a0, laws_toSensorFaultS_l0_0, laws_toSensorFaultS_l0_1, laws_toSensorFaultS_l0_2, laws_toSensorFaultS_l0_3, laws_toSensorFaultS_l0_4, laws_toSensorFaultS_l0_5, laws_toSensorFaultS_l0_6, lt_laws_toSensorFaultS_l0, lp_laws_toSensorFaultS_l0, LT.nds, allT, st_laws_toSensorFaultS_l0, hdec, hnn, hltd, hI]
    · simp [laws_toSensorFaultS_l0_a0, laws_toSensorFaultS_l0_0, laws_toSensorFaultS_l0_1, laws_toSensorFaultS_l0_2, laws_toSensorFaultS_l0_3, laws_toSensorFaultS_l0_4, laws_toSensorFaultS_l0_5, laws_toSensorFaultS_l0_6, lt_laws_toSensorFaultS_l0, lp_laws_toSensorFaultS_l0, LT.each, st_laws_toSensorFaultS_l0, pr_laws_toSensorFaultS_l0, hw, hI]
    · simp only [laws_toSensorFaultS_l0_a0, laws_toSensorFaultS_l0_0, laws_toSensorFaultS_l0_1, laws_toSensorFaultS_l0_2, laws_toSensorFaultS_l0_3, laws_toSensorFaultS_l0_4, laws_toSensorFaultS_l0_5, laws_toSensorFaultS_l0_6, lt_laws_toSensorFaultS_l0, lp_laws_toSensorFaultS_l0, LT.fn, st_laws_toSensorFaultS_l0, pr_laws_toSensorFaultS_l0, f_laws_toSensorFaultS_l0, Int.toNat_natCast, hdec, cond_true]
    · intro a' hf; simp only [f_laws_toSensorFaultS_l0, Sum.inr.injEq] at hf; subst hf; simpa using hI
  · obtain y2 := a
    simp [laws_toSensorFaultS_l0_a0, laws_toSensorFaultS_l0_0, laws_toSensorFaultS_l0_1, laws_toSensorFaultS_l0_2, laws_toSensorFaultS_l0_3, laws_toSensorFaultS_l0_4, laws_toSensorFaultS_l0_5, laws_toSensorFaultS_l0_6, lt_laws_toSensorFaultS_l0, lp_laws_toSensorFaultS_l0, LT.out, st_laws_toSensorFaultS_l0, List.length_range]

def f_laws_eqSensorFaultS_l0 (y1 : List (Int × (Int × Int))) (y2 : List (Int × (Int × Int))) (b : Nat) : (Unit) → Nat ⊕ (Unit)
  | _ => (bif ((!laws_eqSensorFault_0 (Prod.fst ((Option.getD y1[b]? ((0 : Int), (0 : Int), (0 : Int))))) (Prod.fst (Prod.snd ((Option.getD y1[b]? ((0 : Int), (0 : Int), (0 : Int)))))) (Prod.snd (Prod.snd ((Option.getD y1[b]? ((0 : Int), (0 : Int), (0 : Int)))))) (Prod.fst ((Option.getD y2[b]? ((0 : Int), (0 : Int), (0 : Int))))) (Prod.fst (Prod.snd ((Option.getD y2[b]? ((0 : Int), (0 : Int), (0 : Int)))))) (Prod.snd (Prod.snd ((Option.getD y2[b]? ((0 : Int), (0 : Int), (0 : Int)))))))) then (.inl 0) else (.inr ()))

def st_laws_eqSensorFaultS_l0 (y1 : List (Int × (Int × Int))) (y2 : List (Int × (Int × Int))) (i : Nat) : (Unit) → X_laws_eqSensorFaultS_l0
  | _ => ((i : Int), y1, y2)

def pr_laws_eqSensorFaultS_l0 : X_laws_eqSensorFaultS_l0 → Unit
  | (_, _, _) => ()

theorem w_laws_eqSensorFaultS_l0 (y1 : List (Int × (Int × Int))) (y2 : List (Int × (Int × Int)))  (hn : y1.length ≤ 9223372036854775807) (he : y2.length = y1.length) :
    lp_laws_eqSensorFaultS_l0.fin ((0 : Int), y1, y2) = true ∧ lp_laws_eqSensorFaultS_l0.res ((0 : Int), y1, y2) = ((walkL (f_laws_eqSensorFaultS_l0 y1 y2) 1 (List.range y1.length) 0 ()).1, (st_laws_eqSensorFaultS_l0 y1 y2) (walkL (f_laws_eqSensorFaultS_l0 y1 y2) 1 (List.range y1.length) 0 ()).2.1 (walkL (f_laws_eqSensorFaultS_l0 y1 y2) 1 (List.range y1.length) 0 ()).2.2) := by
  have key := lp_laws_eqSensorFaultS_l0.along (st_laws_eqSensorFaultS_l0 y1 y2) pr_laws_eqSensorFaultS_l0 (f_laws_eqSensorFaultS_l0 y1 y2) 1 (fun _ _ => True) (List.range y1.length) () (by trivial) (by simp only [lp_laws_eqSensorFaultS_l0, st_laws_eqSensorFaultS_l0, List.length_range]; omega) (fun i b a hb hI => ?_) (fun a hI => ?_)
  · exact key
  · obtain ⟨⟩ := a
    obtain ⟨rfl, hlt⟩ := range_get hb
    have hw : IntKind.i64.wrap ((b : Int) + 1) = ((b + 1 : Nat) : Int) := by rw [wrap_i64 (by omega) (by omega)]; omega
    have hdec : ltI (b : Int) (y1.length : Int) = true := ltI_t (by omega)
    have hnn : leI (0 : Int) (b : Int) = true := leI_t (by omega)
    have hltd : ltN b y1.length = true := ltN_t (by omega)
    refine ⟨?_, ?_, ?_, ?_⟩
    · simp [laws_eqSensorFaultS_l0_a0, laws_eqSensorFaultS_l0_a1, laws_eqSensorFaultS_l0_0, laws_eqSensorFaultS_l0_1, laws_eqSensorFaultS_l0_2, laws_eqSensorFaultS_l0_3, laws_eqSensorFaultS_l0_4, laws_eqSensorFaultS_l0_5, laws_eqSensorFaultS_l0_6, lt_laws_eqSensorFaultS_l0, lp_laws_eqSensorFaultS_l0, LT.nds, allT, st_laws_eqSensorFaultS_l0, hdec, hnn, hltd, he]
    · simp [laws_eqSensorFaultS_l0_a0, laws_eqSensorFaultS_l0_a1, laws_eqSensorFaultS_l0_0, laws_eqSensorFaultS_l0_1, laws_eqSensorFaultS_l0_2, laws_eqSensorFaultS_l0_3, laws_eqSensorFaultS_l0_4, laws_eqSensorFaultS_l0_5, laws_eqSensorFaultS_l0_6, lt_laws_eqSensorFaultS_l0, lp_laws_eqSensorFaultS_l0, LT.each, st_laws_eqSensorFaultS_l0, pr_laws_eqSensorFaultS_l0, hw, he]
    · simp only [laws_eqSensorFaultS_l0_a0, laws_eqSensorFaultS_l0_a1, laws_eqSensorFaultS_l0_0, laws_eqSensorFaultS_l0_1, laws_eqSensorFaultS_l0_2, laws_eqSensorFaultS_l0_3, laws_eqSensorFaultS_l0_4, laws_eqSensorFaultS_l0_5, laws_eqSensorFaultS_l0_6, lt_laws_eqSensorFaultS_l0, lp_laws_eqSensorFaultS_l0, LT.fn, st_laws_eqSensorFaultS_l0, pr_laws_eqSensorFaultS_l0, f_laws_eqSensorFaultS_l0, Int.toNat_natCast, hdec, cond_true]
    · exact fun _ _ => trivial
  · obtain ⟨⟩ := a
    simp [laws_eqSensorFaultS_l0_a0, laws_eqSensorFaultS_l0_a1, laws_eqSensorFaultS_l0_0, laws_eqSensorFaultS_l0_1, laws_eqSensorFaultS_l0_2, laws_eqSensorFaultS_l0_3, laws_eqSensorFaultS_l0_4, laws_eqSensorFaultS_l0_5, laws_eqSensorFaultS_l0_6, lt_laws_eqSensorFaultS_l0, lp_laws_eqSensorFaultS_l0, LT.out, st_laws_eqSensorFaultS_l0, List.length_range]

theorem toFaults_ok (xs : List (Int × Int × Int)) (hn : leN xs.length 1048576 = true) : laws_toSensorFaultS_0 xs = xs ∧ laws_toSensorFaultS_1 xs = true := by
  have hn := leN_iff.1 hn
  have hr : (List.replicate (Int.toNat (xs.length : Int)) ((0 : Int), (0 : Int), (0 : Int))).length = xs.length := by simp
  obtain ⟨w1, w2⟩ := w_laws_toSensorFaultS_l0 xs (List.replicate (Int.toNat (xs.length : Int)) ((0 : Int), (0 : Int), (0 : Int))) (by omega) hr
  have hc := walk_copy (xs := xs) (d := ((0 : Int), (0 : Int), (0 : Int))) (g := fun x => x) (f := f_laws_toSensorFaultS_l0 xs) (e := 0) (fun b a => rfl) hr
  rw [hc] at w2
  refine ⟨?_, ?_⟩
  · simp only [laws_toSensorFaultS_a0, laws_toSensorFaultS_0, laws_toSensorFaultS_1, w2, st_laws_toSensorFaultS_l0]; simp
  · simp only [laws_toSensorFaultS_a0, laws_toSensorFaultS_0, laws_toSensorFaultS_1, w1, allT]; simp; omega

def N_laws_toSensorFaultS : List SV → List Entry → Option Out
  | [.one ⟨false, [.ref 0]⟩], [.row false 80 (.pair (.int .i64) (.pair (.int .i64) (.int .i64))) x0] => some ⟨(.one ⟨false, [(.ref 1)]⟩), [(.row false 80 (CTy.pair (CTy.int IntKind.i64) (CTy.pair (CTy.int IntKind.i64) (CTy.int IntKind.i64))) x0)], [(.row true 78 (CTy.pair (CTy.int IntKind.i64) (CTy.pair (CTy.int IntKind.i64) (CTy.int IntKind.i64))) (x0))], [leN x0.length 1048576]⟩
  | _, _ => none

def n_laws_toSensorFaultS : PF Tryz.prog := PF.alt p_laws_toSensorFaultS N_laws_toSensorFaultS (by
  intro args es o h hnd; unfold N_laws_toSensorFaultS at h; split at h
  · rename_i x0
    cases h
    have hnd := nd_fst hnd
    have hh := toFaults_ok x0 hnd
    obtain ⟨e0, en⟩ := hh
    exact altok rfl (nd_one en) rfl rfl (by simp only [e0] <;> rfl)
  · cases h)

theorem eqFaults_ok (xs ys : List (Int × Int × Int)) (hn : leN xs.length 9223372036854775807 = true) : laws_eqSensorFaultS_0 xs ys = eqFls xs ys ∧ laws_eqSensorFaultS_1 xs ys = true := by
  have hn := leN_iff.1 hn
  unfold eqFls
  have h3 : ∀ a b : Int × Int × Int, (!laws_eqSensorFault_0 a.1 a.2.1 a.2.2 b.1 b.2.1 b.2.2) = !decide (a = b) := fun a b => by
    obtain ⟨a1, a2, a3⟩ := a; obtain ⟨b1, b2, b3⟩ := b
    simp only [laws_eqSensorFault_0, Prod.mk.injEq]
    by_cases h1 : a1 = b1 <;> by_cases h2 : a2 = b2 <;> by_cases h3 : a3 = b3 <;> simp [h1, h2, h3]
  by_cases hl : ys.length = xs.length
  · obtain ⟨w1, w2⟩ := w_laws_eqSensorFaultS_l0 xs ys hn hl
    have ha := any_ne (d := ((0 : Int), (0 : Int), (0 : Int))) hl (P := fun b => !decide (Option.getD xs[b]? (0, 0, 0) = Option.getD ys[b]? (0, 0, 0))) (fun b => rfl)
    rw [walk_stop (P := fun b => !decide (Option.getD xs[b]? (0, 0, 0) = Option.getD ys[b]? (0, 0, 0))) (j := 0) (fun b => by simp only [f_laws_eqSensorFaultS_l0, h3]), ha] at w2
    simp only [laws_eqSensorFaultS_a0, laws_eqSensorFaultS_a1, laws_eqSensorFaultS_0, laws_eqSensorFaultS_1, w1, w2, allT]
    by_cases he : xs = ys
    · subst he; simp; decide
    · simp [he, hl]
  · have hne : xs ≠ ys := fun h => hl (by rw [h])
    simp [laws_eqSensorFaultS_a0, laws_eqSensorFaultS_a1, laws_eqSensorFaultS_0, laws_eqSensorFaultS_1, allT, hne]
    omega

def N_laws_eqSensorFaultS : List SV → List Entry → Option Out
  | [.one ⟨false, [.ref 0]⟩, .one ⟨false, [.ref 1]⟩], [.row false 78 (.pair (.int .i64) (.pair (.int .i64) (.int .i64))) x0, .row false 78 (.pair (.int .i64) (.pair (.int .i64) (.int .i64))) x1] => some ⟨(.one ⟨false, [(.val (.bool (eqFls x0 x1)))]⟩), [(.row false 78 (CTy.pair (CTy.int IntKind.i64) (CTy.pair (CTy.int IntKind.i64) (CTy.int IntKind.i64))) x0), (.row false 78 (CTy.pair (CTy.int IntKind.i64) (CTy.pair (CTy.int IntKind.i64) (CTy.int IntKind.i64))) x1)], [], [leN x0.length 9223372036854775807]⟩
  | _, _ => none

def n_laws_eqSensorFaultS : PF Tryz.prog := PF.alt p_laws_eqSensorFaultS N_laws_eqSensorFaultS (by
  intro args es o h hnd; unfold N_laws_eqSensorFaultS at h; split at h
  · rename_i x0 x1
    cases h
    have hnd := nd_fst hnd
    have hh := eqFaults_ok x0 x1 hnd
    obtain ⟨e0, en⟩ := hh
    exact altok rfl (nd_one en) (by simp only [e0] <;> rfl) rfl rfl
  · cases h)

end Go.SX

/- Reports, in plain words. -/
import Derived.Test.YtjncnnpdaeociaaRl
namespace Go.SX
open Go.Proofs
set_option maxRecDepth 100000

/-- What a channel without faults says of a block. -/
def occ (c : Int) : Int := bif ltI c 1 then c else 1
def setF (ch : Int) (l : List Int) (f : Int × Int × Int) : List Int := bif f.2.1 == ch then l.set f.1.toNat f.2.2 else l
def baseL (n : Int) (ps : List Int) : List Int := (List.range n.toNat).map fun (b : Nat) => occ (cntB n ps (b : Int) : Int)
/-- What a channel says. -/
def chanL (n : Int) (ps : List Int) (fs : List (Int × Int × Int)) (ch : Int) : List Int := fs.foldl (setF ch) (baseL n ps)
/-- A channel's values. -/
def repOk (n : Int) (a : List Int) : Bool := eqI (a.length : Int) n && a.all fun v => inR v 0 1

theorem setF_length (ch : Int) (l : List Int) (f : Int × Int × Int) : (setF ch l f).length = l.length := by
  unfold setF; cases f.2.1 == ch <;> simp

theorem baseL_length (n : Int) (ps : List Int) : (baseL n ps).length = n.toNat := by simp [baseL]

theorem fold_setF_length (ch : Int) : ∀ (fs : List (Int × Int × Int)) (l : List Int), (fs.foldl (setF ch) l).length = l.length
  | [], l => rfl
  | f :: fs, l => by rw [List.foldl_cons, fold_setF_length ch fs, setF_length]

theorem chanL_length (n : Int) (ps : List Int) (fs : List (Int × Int × Int)) (ch : Int) : (chanL n ps fs ch).length = n.toNat := by
  rw [chanL, fold_setF_length, baseL_length]

/-- Faults each of which is valid by itself. -/
def fV (n : Int) (f : Int × Int × Int) : Bool := (leI 0 f.1 && ltI f.1 n) && ((f.2.1 == 0 || f.2.1 == 1) && inR f.2.2 0 1)
def inFs (n : Int) (fs : List (Int × Int × Int)) : Bool := leN fs.length 1000 && fs.all (fV n)

theorem inFs_in {n : Int} {fs : List (Int × Int × Int)} (h : inFs n fs = true) : fs.length ≤ 1000 ∧ ∀ f ∈ fs, (0 ≤ f.1 ∧ f.1 < n) ∧ (f.2.1 = 0 ∨ f.2.1 = 1) ∧ (0 ≤ f.2.2 ∧ f.2.2 ≤ 1) := by
  simp only [inFs, Bool.and_eq_true, leN_iff, List.all_eq_true] at h
  refine ⟨h.1, fun f hf => ?_⟩
  have h3 := h.2 f hf
  simp only [fV, Bool.and_eq_true, Bool.or_eq_true, beq_iff_eq, inR_iff, leI_iff, ltI_iff] at h3
  exact h3

theorem fold_snoc {B C : Type} (g : B → C) : ∀ (r : List B) (a : List C), r.foldl (fun a b => a ++ [g b]) a = a ++ r.map g
  | [], a => by simp
  | b :: r, a => by rw [List.foldl_cons, fold_snoc g r]; simp

theorem occ1 (c : Int) : ifLt c 1 c 1 = occ c := by simp [occ]
theorem occ2 (c : Int) : ifLt 1 c 1 c = occ c := by
  simp only [ifLt_eq, occ]
  cases h : ltI 1 c <;> cases h' : ltI c 1 <;> simp at h h' ⊢ <;> omega

def f_spec_l11Channel_l0 (y1 : Int) (y3 : List Int) (b : Nat) : (List Int) → Nat ⊕ (List Int)
  | y2 => (.inr ((y2 ++ ([ifLt (↑(cntB y1 y3 (↑b : Int)) : Int) (1 : Int) (↑(cntB y1 y3 (↑b : Int)) : Int) (1 : Int)]))))

def st_spec_l11Channel_l0 (y1 : Int) (y3 : List Int) (i : Nat) : (List Int) → X_spec_l11Channel_l0
  | y2 => ((i : Int), y1, y2, y3)

def pr_spec_l11Channel_l0 : X_spec_l11Channel_l0 → List Int
  | (_, _, y2, _) => y2

theorem w_spec_l11Channel_l0 (y1 : Int) (y3 : List Int) (y2 : List Int) (hn : y1 ≤ 9223372036854775807) (hT : isT y1 y3 = true) (h0 : y2 = []) :
    lp_spec_l11Channel_l0.fin ((0 : Int), y1, y2, y3) = true ∧ lp_spec_l11Channel_l0.res ((0 : Int), y1, y2, y3) = ((walkL (f_spec_l11Channel_l0 y1 y3) 0 (List.range y1.toNat) 0 y2).1, (st_spec_l11Channel_l0 y1 y3) (walkL (f_spec_l11Channel_l0 y1 y3) 0 (List.range y1.toNat) 0 y2).2.1 (walkL (f_spec_l11Channel_l0 y1 y3) 0 (List.range y1.toNat) 0 y2).2.2) := by
  have key := lp_spec_l11Channel_l0.along (st_spec_l11Channel_l0 y1 y3) pr_spec_l11Channel_l0 (f_spec_l11Channel_l0 y1 y3) 0 (fun i a => a.length ≤ i) (List.range y1.toNat) y2 (by subst h0; simp) (by simp only [lp_spec_l11Channel_l0, st_spec_l11Channel_l0, List.length_range]; omega) (fun i b a hb hI => ?_) (fun a hI => ?_)
  · exact key
  · obtain y2 := a
    obtain ⟨rfl, hlt⟩ := range_get hb
    have hw : IntKind.i64.wrap ((b : Int) + 1) = ((b + 1 : Nat) : Int) := by rw [wrap_i64 (by omega) (by omega)]; omega
    have hdec : ltI (b : Int) y1 = true := ltI_t (by omega)
    have hnn : leI (0 : Int) (b : Int) = true := leI_t (by omega)
    refine ⟨?_, ?_, ?_, ?_⟩
    · have h4 := (isT_iff.1 hT).1
      simp [spec_l11Channel_l0_a0, spec_l11Channel_l0_0, spec_l11Channel_l0_1, spec_l11Channel_l0_2, spec_l11Channel_l0_3, spec_l11Channel_l0_4, spec_l11Channel_l0_5, lt_spec_l11Channel_l0, lp_spec_l11Channel_l0, LT.nds, allT, st_spec_l11Channel_l0, hdec, hT]
      omega
    · simp [spec_l11Channel_l0_a0, spec_l11Channel_l0_0, spec_l11Channel_l0_1, spec_l11Channel_l0_2, spec_l11Channel_l0_3, spec_l11Channel_l0_4, spec_l11Channel_l0_5, lt_spec_l11Channel_l0, lp_spec_l11Channel_l0, LT.each, st_spec_l11Channel_l0, pr_spec_l11Channel_l0, hw]
    · simp only [spec_l11Channel_l0_a0, spec_l11Channel_l0_0, spec_l11Channel_l0_1, spec_l11Channel_l0_2, spec_l11Channel_l0_3, spec_l11Channel_l0_4, spec_l11Channel_l0_5, lt_spec_l11Channel_l0, lp_spec_l11Channel_l0, LT.fn, st_spec_l11Channel_l0, pr_spec_l11Channel_l0, f_spec_l11Channel_l0, Int.toNat_natCast, hdec, hnn, cond_true, Bool.cond_self]
    · intro a' hf; simp only [f_spec_l11Channel_l0, Sum.inr.injEq] at hf; subst hf; simp; omega
  · obtain y2 := a
    simp only [spec_l11Channel_l0_a0, spec_l11Channel_l0_0, spec_l11Channel_l0_1, spec_l11Channel_l0_2, spec_l11Channel_l0_3, spec_l11Channel_l0_4, spec_l11Channel_l0_5, lt_spec_l11Channel_l0, lp_spec_l11Channel_l0, LT.out, st_spec_l11Channel_l0, List.length_range, ltI_toNat, ltI_down, cond_false]

def f_spec_l11Channel_l1 (y1 : Int) (b : Int × (Int × Int)) : (List Int) → Nat ⊕ (List Int)
  | y3 => (.inr ((bif (Prod.fst (Prod.snd ((b))) == y1) then List.set y3 (Int.toNat (Prod.fst ((b)))) (Prod.snd (Prod.snd ((b)))) else y3)))

def st_spec_l11Channel_l1 (y1 : Int) (y2 : List (Int × (Int × Int))) (i : Nat) : (List Int) → X_spec_l11Channel_l1
  | y3 => ((i : Int), y1, y2, y3)

def pr_spec_l11Channel_l1 : X_spec_l11Channel_l1 → List Int
  | (_, _, _, y3) => y3

theorem w_spec_l11Channel_l1 (y1 : Int) (y2 : List (Int × (Int × Int))) (y3 : List Int) (hn : y2.length ≤ 9223372036854775807) (n : Nat) (h3 : y3.length = n) (hf : ∀ f ∈ y2, 0 ≤ f.1 ∧ f.1 < (n : Int)) :
    lp_spec_l11Channel_l1.fin ((0 : Int), y1, y2, y3) = true ∧ lp_spec_l11Channel_l1.res ((0 : Int), y1, y2, y3) = ((walkL (f_spec_l11Channel_l1 y1) 0 y2 0 y3).1, (st_spec_l11Channel_l1 y1 y2) (walkL (f_spec_l11Channel_l1 y1) 0 y2 0 y3).2.1 (walkL (f_spec_l11Channel_l1 y1) 0 y2 0 y3).2.2) := by
  have key := lp_spec_l11Channel_l1.along (st_spec_l11Channel_l1 y1 y2) pr_spec_l11Channel_l1 (f_spec_l11Channel_l1 y1) 0 (fun _ a => a.length = n) y2 y3 h3 (by simp only [lp_spec_l11Channel_l1, st_spec_l11Channel_l1]; omega) (fun i b a hb hI => ?_) (fun a hI => ?_)
  · exact key
  · obtain y3 := a
    have hlt := (List.getElem?_eq_some_iff.1 hb).1
    have hget : ∀ d, Option.getD y2[i]? d = b := fun d => by rw [hb]; rfl
    have hw := wrap64 hlt hn
    have hdec : ltI (i : Int) (y2.length : Int) = true := ltI_t (by omega)
    have hnn : leI (0 : Int) (i : Int) = true := leI_t (by omega)
    have hltd : ltN i y2.length = true := ltN_t hlt
    refine ⟨?_, ?_, ?_, ?_⟩
    · have h5 := hf b (List.mem_of_getElem? hb)
      have h6 : leI 0 b.1 = true := leI_t h5.1
      have h7 : ltI b.1 (a.length : Int) = true := ltI_t (by omega)
      have h8 : ltN b.1.toNat a.length = true := ltN_t (by omega)
      simp only [spec_l11Channel_l1_a0, spec_l11Channel_l1_a1, spec_l11Channel_l1_0, spec_l11Channel_l1_1, spec_l11Channel_l1_2, spec_l11Channel_l1_3, spec_l11Channel_l1_4, spec_l11Channel_l1_5, spec_l11Channel_l1_6, spec_l11Channel_l1_7, spec_l11Channel_l1_8, spec_l11Channel_l1_9, spec_l11Channel_l1_10, lt_spec_l11Channel_l1, lp_spec_l11Channel_l1, LT.nds, allT, st_spec_l11Channel_l1, Int.toNat_natCast, hdec, hnn, hltd, hget, h6, h7, h8, Bool.or_true, cond_true]
    · simp [spec_l11Channel_l1_a0, spec_l11Channel_l1_a1, spec_l11Channel_l1_0, spec_l11Channel_l1_1, spec_l11Channel_l1_2, spec_l11Channel_l1_3, spec_l11Channel_l1_4, spec_l11Channel_l1_5, spec_l11Channel_l1_6, spec_l11Channel_l1_7, spec_l11Channel_l1_8, spec_l11Channel_l1_9, spec_l11Channel_l1_10, lt_spec_l11Channel_l1, lp_spec_l11Channel_l1, LT.each, st_spec_l11Channel_l1, pr_spec_l11Channel_l1, hw]
    · simp only [spec_l11Channel_l1_a0, spec_l11Channel_l1_a1, spec_l11Channel_l1_0, spec_l11Channel_l1_1, spec_l11Channel_l1_2, spec_l11Channel_l1_3, spec_l11Channel_l1_4, spec_l11Channel_l1_5, spec_l11Channel_l1_6, spec_l11Channel_l1_7, spec_l11Channel_l1_8, spec_l11Channel_l1_9, spec_l11Channel_l1_10, lt_spec_l11Channel_l1, lp_spec_l11Channel_l1, LT.fn, st_spec_l11Channel_l1, pr_spec_l11Channel_l1, f_spec_l11Channel_l1, Int.toNat_natCast, hdec, hnn, hltd, hget, cond_true, Bool.cond_self]
    · intro a' hf; simp only [f_spec_l11Channel_l1, Sum.inr.injEq] at hf; subst hf; cases b.2.1 == y1 <;> simpa using hI
  · obtain y3 := a
    simp [spec_l11Channel_l1_a0, spec_l11Channel_l1_a1, spec_l11Channel_l1_0, spec_l11Channel_l1_1, spec_l11Channel_l1_2, spec_l11Channel_l1_3, spec_l11Channel_l1_4, spec_l11Channel_l1_5, spec_l11Channel_l1_6, spec_l11Channel_l1_7, spec_l11Channel_l1_8, spec_l11Channel_l1_9, spec_l11Channel_l1_10, lt_spec_l11Channel_l1, lp_spec_l11Channel_l1, LT.out, st_spec_l11Channel_l1]

theorem specChan_ok (n ch : Int) (ps : List Int) (fs : List (Int × Int × Int)) (hT : isT n ps = true) (hF : inFs n fs = true) :
    spec_l11Channel_0 n ch ps fs = chanL n ps fs ch ∧ spec_l11Channel_1 n ch ps fs = true := by
  have h2 := (isT_iff.1 hT).1
  obtain ⟨hl, hf⟩ := inFs_in hF
  obtain ⟨w1, w2⟩ := w_spec_l11Channel_l0 n ps [] (by omega) hT rfl
  rw [walk_gather (f := f_spec_l11Channel_l0 n ps) (g := fun a b => a ++ [occ (cntB n ps ((b : Nat) : Int) : Int)]) (fun b a => by simp only [f_spec_l11Channel_l0, occ1]), fold_snoc] at w2
  have e1 : Prod.fst (Prod.snd (Prod.snd (Prod.snd (Lp.res lp_spec_l11Channel_l0 (spec_l11Channel_a0 n ps))))) = baseL n ps := by
    simp only [spec_l11Channel_a0, w2, st_spec_l11Channel_l0, List.nil_append]; rfl
  obtain ⟨v1, v2⟩ := w_spec_l11Channel_l1 ch fs (baseL n ps) (by omega) n.toNat (baseL_length n ps) (fun f hm => by have := (hf f hm).1; omega)
  rw [walk_gather (f := f_spec_l11Channel_l1 ch) (g := setF ch) (fun b a => rfl)] at v2
  refine ⟨?_, ?_⟩
  · simp only [spec_l11Channel_0, spec_l11Channel_a1, e1, v2, st_spec_l11Channel_l1]; rfl
  · have v3 : Lp.fin lp_spec_l11Channel_l1 (spec_l11Channel_a1 n ch ps fs) = true := by rw [spec_l11Channel_a1, e1]; exact v1
    have w3 : Lp.fin lp_spec_l11Channel_l0 (spec_l11Channel_a0 n ps) = true := w1
    simp only [spec_l11Channel_1, v3, w3, allT, cond_true]

theorem specReport_ok (n : Int) (ps : List Int) (fs : List (Int × Int × Int)) (h : (isT n ps && inFs n fs) = true) :
    spec_l11Report_0 n ps fs = chanL n ps fs 0 ∧ spec_l11Report_1 n ps fs = chanL n ps fs 1 ∧ spec_l11Report_2 n ps fs = true := by
  simp only [Bool.and_eq_true] at h
  obtain ⟨a1, a2⟩ := specChan_ok n 0 ps fs h.1 h.2
  obtain ⟨b1, b2⟩ := specChan_ok n 1 ps fs h.1 h.2
  exact ⟨a1, b1, by simp only [spec_l11Report_2, a2, b2, allT, cond_true]⟩

def N_spec_l11Report : List SV → List Entry → Option Out
  | [.one ⟨true, [.val (.int .i64 x0), .ref 0]⟩, .one ⟨false, [.ref 1]⟩], [.row false 2 (.int .i64) x1, .row false 118 (.pair (.int .i64) (.pair (.int .i64) (.int .i64))) x2] => some ⟨(.one ⟨true, [(.ref 2), (.ref 3)]⟩), [(.row false 2 (CTy.int IntKind.i64) x1), (.row false 118 (CTy.pair (CTy.int IntKind.i64) (CTy.pair (CTy.int IntKind.i64) (CTy.int IntKind.i64))) x2)], [(.row true 2 (CTy.int IntKind.i64) (chanL x0 x1 x2 0)), (.row true 2 (CTy.int IntKind.i64) (chanL x0 x1 x2 1))], [isT x0 x1 && inFs x0 x2]⟩
  | _, _ => none

def n_spec_l11Report : PF Try.prog := PF.alt p_spec_l11Report N_spec_l11Report (by
  intro args es o h hnd; unfold N_spec_l11Report at h; split at h
  · rename_i x0 x1 x2
    cases h
    have hnd := nd_fst hnd
    have hh := specReport_ok x0 x1 x2 hnd
    obtain ⟨e0, e1, en⟩ := hh
    exact altok rfl (nd_one en) rfl rfl (by simp only [e0, e1] <;> rfl)
  · cases h)

def f_impl_reportOf_l0 (y2 : List Int) (b : Nat) : (List Int) → Nat ⊕ (List Int)
  | y3 => (.inr ((List.set y3 (b) (ifLt (1 : Int) ((Option.getD y2[b]? (0 : Int))) (1 : Int) ((Option.getD y2[b]? (0 : Int)))))))

def st_impl_reportOf_l0 (y2 : List Int) (i : Nat) : (List Int) → X_impl_reportOf_l0
  | y3 => ((i : Int), (↑(List.length y2) : Int), y2, y3)

def pr_impl_reportOf_l0 : X_impl_reportOf_l0 → List Int
  | (_, _, _, y3) => y3

theorem w_impl_reportOf_l0 (y2 : List Int) (y3 : List Int) (hn : y2.length ≤ 9223372036854775807) (hl : y3.length = y2.length) :
    lp_impl_reportOf_l0.fin ((0 : Int), (↑(List.length y2) : Int), y2, y3) = true ∧ lp_impl_reportOf_l0.res ((0 : Int), (↑(List.length y2) : Int), y2, y3) = ((walkL (f_impl_reportOf_l0 y2) 0 (List.range y2.length) 0 y3).1, (st_impl_reportOf_l0 y2) (walkL (f_impl_reportOf_l0 y2) 0 (List.range y2.length) 0 y3).2.1 (walkL (f_impl_reportOf_l0 y2) 0 (List.range y2.length) 0 y3).2.2) := by
  have key := lp_impl_reportOf_l0.along (st_impl_reportOf_l0 y2) pr_impl_reportOf_l0 (f_impl_reportOf_l0 y2) 0 (fun _ a => a.length = y2.length) (List.range y2.length) y3 hl (by simp only [lp_impl_reportOf_l0, st_impl_reportOf_l0, List.length_range]; omega) (fun i b a hb hI => ?_) (fun a hI => ?_)
  · exact key
  · obtain y3 := a
    obtain ⟨rfl, hlt⟩ := range_get hb
    have hw : IntKind.i64.wrap ((b : Int) + 1) = ((b + 1 : Nat) : Int) := by rw [wrap_i64 (by omega) (by omega)]; omega
    have hdec : ltI (b : Int) (y2.length : Int) = true := ltI_t (by omega)
    have hnn : leI (0 : Int) (b : Int) = true := leI_t (by omega)
    have hltd : ltN b y2.length = true := ltN_t (by omega)
    refine ⟨?_, ?_, ?_, ?_⟩
    · simp [impl_reportOf_l0_a0, impl_reportOf_l0_0, impl_reportOf_l0_1, impl_reportOf_l0_2, impl_reportOf_l0_3, impl_reportOf_l0_4, impl_reportOf_l0_5, impl_reportOf_l0_6, impl_reportOf_l0_7, lt_impl_reportOf_l0, lp_impl_reportOf_l0, LT.nds, allT, st_impl_reportOf_l0, hdec, hnn, hltd, hI]
    · simp [impl_reportOf_l0_a0, impl_reportOf_l0_0, impl_reportOf_l0_1, impl_reportOf_l0_2, impl_reportOf_l0_3, impl_reportOf_l0_4, impl_reportOf_l0_5, impl_reportOf_l0_6, impl_reportOf_l0_7, lt_impl_reportOf_l0, lp_impl_reportOf_l0, LT.each, st_impl_reportOf_l0, pr_impl_reportOf_l0, hw, hI]
    · simp only [impl_reportOf_l0_a0, impl_reportOf_l0_0, impl_reportOf_l0_1, impl_reportOf_l0_2, impl_reportOf_l0_3, impl_reportOf_l0_4, impl_reportOf_l0_5, impl_reportOf_l0_6, impl_reportOf_l0_7, lt_impl_reportOf_l0, lp_impl_reportOf_l0, LT.fn, st_impl_reportOf_l0, pr_impl_reportOf_l0, f_impl_reportOf_l0, Int.toNat_natCast, hdec, cond_true]
    · intro a' hf; simp only [f_impl_reportOf_l0, Sum.inr.injEq] at hf; subst hf; simpa using hI
  · obtain y3 := a
    simp [impl_reportOf_l0_a0, impl_reportOf_l0_0, impl_reportOf_l0_1, impl_reportOf_l0_2, impl_reportOf_l0_3, impl_reportOf_l0_4, impl_reportOf_l0_5, impl_reportOf_l0_6, impl_reportOf_l0_7, lt_impl_reportOf_l0, lp_impl_reportOf_l0, LT.out, st_impl_reportOf_l0, List.length_range]

def f_impl_reportOf_l1  (b : Int × (Int × Int)) : (List Int × List Int) → Nat ⊕ (List Int × List Int)
  | (y3, y4) => (.inr (((bif (Prod.fst (Prod.snd ((b))) == (0 : Int)) then List.set y3 (Int.toNat (Prod.fst ((b)))) (Prod.snd (Prod.snd ((b)))) else y3)), ((bif (Prod.fst (Prod.snd ((b))) == (0 : Int)) then y4 else List.set y4 (Int.toNat (Prod.fst ((b)))) (Prod.snd (Prod.snd ((b))))))))

def st_impl_reportOf_l1 (y2 : List (Int × (Int × Int))) (i : Nat) : (List Int × List Int) → X_impl_reportOf_l1
  | (y3, y4) => ((i : Int), (↑(List.length y2) : Int), y2, y3, y4)

def pr_impl_reportOf_l1 : X_impl_reportOf_l1 → List Int × List Int
  | (_, _, _, y3, y4) => (y3, y4)

theorem w_impl_reportOf_l1 (y2 : List (Int × (Int × Int))) (y3 : List Int) (y4 : List Int) (hn : y2.length ≤ 9223372036854775807) (n : Nat) (h3 : y3.length = n) (h4 : y4.length = n) (hf : ∀ f ∈ y2, 0 ≤ f.1 ∧ f.1 < (n : Int)) :
    lp_impl_reportOf_l1.fin ((0 : Int), (↑(List.length y2) : Int), y2, y3, y4) = true ∧ lp_impl_reportOf_l1.res ((0 : Int), (↑(List.length y2) : Int), y2, y3, y4) = ((walkL (f_impl_reportOf_l1) 0 y2 0 (y3, y4)).1, (st_impl_reportOf_l1 y2) (walkL (f_impl_reportOf_l1) 0 y2 0 (y3, y4)).2.1 (walkL (f_impl_reportOf_l1) 0 y2 0 (y3, y4)).2.2) := by
  have key := lp_impl_reportOf_l1.along (st_impl_reportOf_l1 y2) pr_impl_reportOf_l1 (f_impl_reportOf_l1) 0 (fun _ a => a.1.length = n ∧ a.2.length = n) y2 (y3, y4) ⟨h3, h4⟩ (by simp only [lp_impl_reportOf_l1, st_impl_reportOf_l1]; omega) (fun i b a hb hI => ?_) (fun a hI => ?_)
  · exact key
  · obtain ⟨y3, y4⟩ := a
    have hlt := (List.getElem?_eq_some_iff.1 hb).1
    have hget : ∀ d, Option.getD y2[i]? d = b := fun d => by rw [hb]; rfl
    have hw := wrap64 hlt hn
    have hdec : ltI (i : Int) (y2.length : Int) = true := ltI_t (by omega)
    have hnn : leI (0 : Int) (i : Int) = true := leI_t (by omega)
    have hltd : ltN i y2.length = true := ltN_t hlt
    refine ⟨?_, ?_, ?_, ?_⟩
    · have h5 := hf b (List.mem_of_getElem? hb)
      have hI1 := hI.1
      have hI2 := hI.2
      have h6 : leI 0 b.1 = true := leI_t h5.1
      have h7 : ltI b.1 (n : Int) = true := ltI_t (by omega)
      have h8 : ltN b.1.toNat n = true := ltN_t (by omega)
      simp only at hI1 hI2
      simp [impl_reportOf_l1_a0, impl_reportOf_l1_a1, impl_reportOf_l1_a2, impl_reportOf_l1_0, impl_reportOf_l1_1, impl_reportOf_l1_2, impl_reportOf_l1_3, impl_reportOf_l1_4, impl_reportOf_l1_5, impl_reportOf_l1_6, impl_reportOf_l1_7, impl_reportOf_l1_8, impl_reportOf_l1_9, impl_reportOf_l1_10, impl_reportOf_l1_11, impl_reportOf_l1_12, lt_impl_reportOf_l1, lp_impl_reportOf_l1, LT.nds, allT, st_impl_reportOf_l1, hdec, hnn, hltd, hget, h6, h7, h8, hI1, hI2]
    · simp [impl_reportOf_l1_a0, impl_reportOf_l1_a1, impl_reportOf_l1_a2, impl_reportOf_l1_0, impl_reportOf_l1_1, impl_reportOf_l1_2, impl_reportOf_l1_3, impl_reportOf_l1_4, impl_reportOf_l1_5, impl_reportOf_l1_6, impl_reportOf_l1_7, impl_reportOf_l1_8, impl_reportOf_l1_9, impl_reportOf_l1_10, impl_reportOf_l1_11, impl_reportOf_l1_12, lt_impl_reportOf_l1, lp_impl_reportOf_l1, LT.each, st_impl_reportOf_l1, pr_impl_reportOf_l1, hw]
    · simp only [impl_reportOf_l1_a0, impl_reportOf_l1_a1, impl_reportOf_l1_a2, impl_reportOf_l1_0, impl_reportOf_l1_1, impl_reportOf_l1_2, impl_reportOf_l1_3, impl_reportOf_l1_4, impl_reportOf_l1_5, impl_reportOf_l1_6, impl_reportOf_l1_7, impl_reportOf_l1_8, impl_reportOf_l1_9, impl_reportOf_l1_10, impl_reportOf_l1_11, impl_reportOf_l1_12, lt_impl_reportOf_l1, lp_impl_reportOf_l1, LT.fn, st_impl_reportOf_l1, pr_impl_reportOf_l1, f_impl_reportOf_l1, Int.toNat_natCast, hdec, hnn, hltd, hget, cond_true, Bool.cond_self]
    · intro a' hf; simp only [f_impl_reportOf_l1, Sum.inr.injEq] at hf; subst hf; have hI1 := hI.1; have hI2 := hI.2; cases b.2.1 == 0 <;> simpa using ⟨hI1, hI2⟩
  · obtain ⟨y3, y4⟩ := a
    simp [impl_reportOf_l1_a0, impl_reportOf_l1_a1, impl_reportOf_l1_a2, impl_reportOf_l1_0, impl_reportOf_l1_1, impl_reportOf_l1_2, impl_reportOf_l1_3, impl_reportOf_l1_4, impl_reportOf_l1_5, impl_reportOf_l1_6, impl_reportOf_l1_7, impl_reportOf_l1_8, impl_reportOf_l1_9, impl_reportOf_l1_10, impl_reportOf_l1_11, impl_reportOf_l1_12, lt_impl_reportOf_l1, lp_impl_reportOf_l1, LT.out, st_impl_reportOf_l1]

theorem fold_pair : ∀ (fs : List (Int × Int × Int)) (a : List Int × List Int), (∀ f ∈ fs, f.2.1 = 0 ∨ f.2.1 = 1) →
    fs.foldl (fun a f => (bif f.2.1 == 0 then a.1.set f.1.toNat f.2.2 else a.1, bif f.2.1 == 0 then a.2 else a.2.set f.1.toNat f.2.2)) a = (fs.foldl (setF 0) a.1, fs.foldl (setF 1) a.2)
  | [], a, _ => rfl
  | f :: fs, a, h => by
    simp only [List.foldl_cons]
    rw [fold_pair fs _ (fun g hg => h g (by simp [hg]))]
    rcases h f (by simp) with e | e <;> simp [setF, e]

theorem implReport_ok (n : Int) (ps : List Int) (fs : List (Int × Int × Int)) (h : (isT n ps && inFs n fs) = true) :
    impl_reportOf_0 n ps fs = chanL n ps fs 0 ∧ impl_reportOf_1 n ps fs = chanL n ps fs 1 ∧ impl_reportOf_2 n ps fs = true := by
  simp only [Bool.and_eq_true] at h
  have h2 := (isT_iff.1 h.1).1
  obtain ⟨hl, hf⟩ := inFs_in h.2
  have hr : (List.replicate n.toNat (0 : Int)).length = (usesTo n ps).length := by rw [usesTo_length]; simp
  obtain ⟨w1, w2⟩ := w_impl_reportOf_l0 (usesTo n ps) (List.replicate n.toNat (0 : Int)) (by rw [usesTo_length]; omega) hr
  rw [walk_copy (xs := usesTo n ps) (d := (0 : Int)) (g := occ) (f := f_impl_reportOf_l0 (usesTo n ps)) (e := 0) (fun b a => by simp only [f_impl_reportOf_l0, occ2]) hr] at w2
  have e1 : impl_reportOf_a1 n ps = baseL n ps := by
    rw [impl_reportOf_a1, impl_reportOf_a0, w2]
    simp only [st_impl_reportOf_l0, usesTo, baseL, List.map_map]; rfl
  obtain ⟨v1, v2⟩ := w_impl_reportOf_l1 fs (baseL n ps) (baseL n ps) (by omega) n.toNat (baseL_length n ps) (baseL_length n ps) (fun f hm => by have := (hf f hm).1; omega)
  rw [walk_gather (f := f_impl_reportOf_l1) (g := fun a f => (bif f.2.1 == 0 then a.1.set f.1.toNat f.2.2 else a.1, bif f.2.1 == 0 then a.2 else a.2.set f.1.toNat f.2.2)) (fun b a => rfl), fold_pair _ _ (fun f hm => (hf f hm).2.1)] at v2
  have e3 : impl_reportOf_a3 n ps fs = (chanL n ps fs 0, chanL n ps fs 1) := by
    simp only [impl_reportOf_a3, impl_reportOf_a2, e1, v2, st_impl_reportOf_l1]; rfl
  refine ⟨by rw [impl_reportOf_0, e3], by rw [impl_reportOf_1, e3], ?_⟩
  have e4 : Lp.fin lp_impl_reportOf_l1 (impl_reportOf_a2 n ps fs) = true := by simp only [impl_reportOf_a2, e1]; exact v1
  have e5 : Lp.fin lp_impl_reportOf_l0 (impl_reportOf_a0 n ps) = true := w1
  simp only [impl_reportOf_2, e4, e5, e1, h.1, baseL_length, allT]
  simp; omega

def N_impl_reportOf : List SV → List Entry → Option Out
  | [.one ⟨true, [.val (.int .i64 x0), .ref 0]⟩, .one ⟨false, [.ref 1]⟩], [.row false 2 (.int .i64) x1, .row false 118 (.pair (.int .i64) (.pair (.int .i64) (.int .i64))) x2] => some ⟨(.one ⟨true, [(.ref 2), (.ref 3)]⟩), [(.row false 2 (CTy.int IntKind.i64) x1), (.row false 118 (CTy.pair (CTy.int IntKind.i64) (CTy.pair (CTy.int IntKind.i64) (CTy.int IntKind.i64))) x2)], [(.row true 2 (CTy.int IntKind.i64) (chanL x0 x1 x2 0)), (.row true 2 (CTy.int IntKind.i64) (chanL x0 x1 x2 1))], [isT x0 x1 && inFs x0 x2]⟩
  | _, _ => none

def n_impl_reportOf : PF Try.prog := PF.alt p_impl_reportOf N_impl_reportOf (by
  intro args es o h hnd; unfold N_impl_reportOf at h; split at h
  · rename_i x0 x1 x2
    cases h
    have hnd := nd_fst hnd
    have hh := implReport_ok x0 x1 x2 hnd
    obtain ⟨e0, e1, en⟩ := hh
    exact altok rfl (nd_one en) rfl rfl (by simp only [e0, e1] <;> rfl)
  · cases h)

/-! ### Permitted moves -/

def nextB (n : Int) (ps : List Int) (t : Int) : Int := Int.tmod (blk (ps[t.toNat]?.getD 0) + 1) n
/-- A move is permitted by a report. -/
def permB (n : Int) (ps : List Int) (a b : List Int) (t : Int) : Bool :=
  phs (ps[t.toNat]?.getD 0) != 1 || (a[(nextB n ps t).toNat]?.getD 0 == 0 && b[(nextB n ps t).toNat]?.getD 0 == 0)
def permOk (n : Int) (ps : List Int) (a b : List Int) (t : Int) : Bool := mvOk n ps t && (repOk n a && repOk n b)

theorem perm_facts {n t : Int} {ps a b : List Int} (h : permOk n ps a b t = true) :
    (0 ≤ t ∧ t < ps.length) ∧ (2 ≤ n ∧ n ≤ 8) ∧ (0 ≤ nextB n ps t ∧ nextB n ps t < n) ∧ ((a.length : Int) = n ∧ (b.length : Int) = n) ∧
      IntKind.i64.wrap (IntKind.i64.wrap (Int.tdiv (ps[t.toNat]?.getD 0) 3) + 1) = blk (ps[t.toNat]?.getD 0) + 1 ∧
      (0 ≤ a[(nextB n ps t).toNat]?.getD 0 ∧ a[(nextB n ps t).toNat]?.getD 0 ≤ 1) ∧ (0 ≤ b[(nextB n ps t).toNat]?.getD 0 ∧ b[(nextB n ps t).toNat]?.getD 0 ≤ 1) := by
  simp only [permOk, Bool.and_eq_true, mvOk_iff, repOk, eqI_iff, List.all_eq_true, inR_iff, hasT_iff] at h
  obtain ⟨⟨hT, ht⟩, ⟨ha, ha2⟩, hb, hb2⟩ := h
  have h1 := isT_iff.1 hT
  have hlt : t.toNat < ps.length := by omega
  have hp := h1.2.2 (ps[t.toNat]) (List.getElem_mem hlt)
  have e0 : ps[t.toNat]?.getD 0 = ps[t.toNat] := by rw [List.getElem?_eq_getElem hlt]; rfl
  rw [nextB, e0]
  have hb3 : blk ps[t.toNat] = ps[t.toNat] / 3 := blk_eq hp.1
  have hb4 : Int.tdiv ps[t.toNat] 3 = ps[t.toNat] / 3 := Int.tdiv_eq_ediv_of_nonneg hp.1
  have hq : Int.tmod (blk ps[t.toNat] + 1) n = (ps[t.toNat] / 3 + 1) % n := by rw [hb3, Int.tmod_eq_emod_of_nonneg (by omega)]
  have hm0 : 0 ≤ (ps[t.toNat] / 3 + 1) % n := Int.emod_nonneg _ (by omega)
  have hm1 : (ps[t.toNat] / 3 + 1) % n < n := Int.emod_lt_of_pos _ (by omega)
  rw [hq]
  have la : ((ps[t.toNat] / 3 + 1) % n).toNat < a.length := by omega
  have lb : ((ps[t.toNat] / 3 + 1) % n).toNat < b.length := by omega
  rw [List.getElem?_eq_getElem la, List.getElem?_eq_getElem lb]
  refine ⟨ht, h1.1, ⟨hm0, hm1⟩, ⟨ha, hb⟩, ?_, ha2 _ (List.getElem_mem la), hb2 _ (List.getElem_mem lb)⟩
  rw [hb4, wrap_i64 (x := ps[t.toNat] / 3) (by omega) (by omega), wrap_i64 (by omega) (by omega), hb3]

theorem specPerm_ok (n t : Int) (ps a b : List Int) (h : permOk n ps a b t = true) : spec_l11Permits_0 n t ps a b = permB n ps a b t ∧ spec_l11Permits_1 n t ps a b = true := by
  obtain ⟨ht, hn, hx, hl, hw, ha, hb⟩ := perm_facts h
  have e2 : spec_l11Permits_a2 n t ps = nextB n ps t := by
    simp only [spec_l11Permits_a2, spec_l11Permits_a0, hw]; rfl
  refine ⟨?_, ?_⟩
  · simp only [spec_l11Permits_0, e2, spec_l11Permits_a1, spec_l11Permits_a0, permB, phs]
    rw [wrap_i64 (by omega) (by omega)]
    cases Int.tmod (ps[t.toNat]?.getD 0) 3 != 1 with
    | true => rfl
    | false =>
      rw [cond_false, Bool.false_or, Bool.eq_iff_iff]
      simp only [beq_iff_eq, Bool.and_eq_true]
      omega
  · have t1 : leI 0 t = true := leI_t ht.1
    have t2 : ltI t (ps.length : Int) = true := ltI_t ht.2
    have t3 : ltN t.toNat ps.length = true := ltN_t (by omega)
    have t4 : neI n 0 = true := neI_t (by omega)
    have t5 : leI 0 (nextB n ps t) = true := leI_t hx.1
    have t6 : ltI (nextB n ps t) (a.length : Int) = true := ltI_t (by omega)
    have t7 : ltN (nextB n ps t).toNat a.length = true := ltN_t (by omega)
    have t8 : ltI (nextB n ps t) (b.length : Int) = true := ltI_t (by omega)
    have t9 : ltN (nextB n ps t).toNat b.length = true := ltN_t (by omega)
    simp only [spec_l11Permits_1, spec_l11Permits_a3, e2, t1, t2, t3, t4, t5, t6, t7, t8, t9, allT, cond_true, Bool.or_true]

def N_spec_l11Permits : List SV → List Entry → Option Out
  | [.one ⟨true, [.val (.int .i64 x0), .ref 0]⟩, .one ⟨true, [.ref 1, .ref 2]⟩, .one ⟨false, [.val (.int .i64 x1)]⟩], [.row false 2 (.int .i64) x2, .row false 2 (.int .i64) x3, .row false 2 (.int .i64) x4] => some ⟨(.one ⟨false, [(.val (.bool (permB x0 x2 x3 x4 x1)))]⟩), [(.row false 2 (CTy.int IntKind.i64) x2), (.row false 2 (CTy.int IntKind.i64) x3), (.row false 2 (CTy.int IntKind.i64) x4)], [], [permOk x0 x2 x3 x4 x1]⟩
  | _, _ => none

def n_spec_l11Permits : PF Try.prog := PF.alt p_spec_l11Permits N_spec_l11Permits (by
  intro args es o h hnd; unfold N_spec_l11Permits at h; split at h
  · rename_i x0 x1 x2 x3 x4
    cases h
    have hnd := nd_fst hnd
    have hh := specPerm_ok x0 x1 x2 x3 x4 hnd
    obtain ⟨e0, en⟩ := hh
    exact altok rfl (nd_one en) (by simp only [e0] <;> rfl) rfl rfl
  · cases h)

theorem implPerm_ok (n t : Int) (a b ps : List Int) (h : permOk n ps a b t = true) : loop_example_g00916_impl_Report_permits_0 n t a b ps = permB n ps a b t ∧ loop_example_g00916_impl_Report_permits_1 n t a b ps = true := by
  obtain ⟨ht, hn, hx, hl, hw, ha, hb⟩ := perm_facts h
  have e2 : loop_example_g00916_impl_Report_permits_a2 n t ps = nextB n ps t := by
    simp only [loop_example_g00916_impl_Report_permits_a2, loop_example_g00916_impl_Report_permits_a0, hw]; rfl
  refine ⟨?_, ?_⟩
  · simp only [loop_example_g00916_impl_Report_permits_0, e2, loop_example_g00916_impl_Report_permits_a1, loop_example_g00916_impl_Report_permits_a0, loop_example_g00916_impl_Report_isClear_0, loop_example_g00916_impl_Report_isClear_a0, permB, phs]
    cases Int.tmod (ps[t.toNat]?.getD 0) 3 != 1 with
    | true => rfl
    | false =>
      rw [cond_false, Bool.false_or]
      cases a[(nextB n ps t).toNat]?.getD 0 == 0 <;> rfl
  · have t1 : leI 0 t = true := leI_t ht.1
    have t2 : ltI t (ps.length : Int) = true := ltI_t ht.2
    have t3 : ltN t.toNat ps.length = true := ltN_t (by omega)
    have t4 : neI n 0 = true := neI_t (by omega)
    have t4' : neI (3 : Int) 0 = true := neI_t (by omega)
    have t5 : leI 0 (nextB n ps t) = true := leI_t hx.1
    have t6 : ltI (nextB n ps t) (a.length : Int) = true := ltI_t (by omega)
    have t7 : ltN (nextB n ps t).toNat a.length = true := ltN_t (by omega)
    have t8 : ltI (nextB n ps t) (b.length : Int) = true := ltI_t (by omega)
    have t9 : ltN (nextB n ps t).toNat b.length = true := ltN_t (by omega)
    simp only [loop_example_g00916_impl_Report_permits_1, loop_example_g00916_impl_Report_isClear_1, e2, t1, t2, t3, t4, t4', t5, t6, t7, t8, t9, allT, cond_true, Bool.or_true]

def N_loop_example_g00916_impl_Report_permits : List SV → List Entry → Option Out
  | [.one ⟨true, [.ref 0, .ref 1]⟩, .one ⟨true, [.val (.int .i64 x0), .ref 2]⟩, .one ⟨false, [.val (.int .i64 x1)]⟩], [.row false 2 (.int .i64) x2, .row false 2 (.int .i64) x3, .row false 2 (.int .i64) x4] => some ⟨(.one ⟨false, [(.val (.bool (permB x0 x4 x2 x3 x1)))]⟩), [(.row false 2 (CTy.int IntKind.i64) x2), (.row false 2 (CTy.int IntKind.i64) x3), (.row false 2 (CTy.int IntKind.i64) x4)], [], [permOk x0 x4 x2 x3 x1]⟩
  | _, _ => none

def n_loop_example_g00916_impl_Report_permits : PF Try.prog := PF.alt p_loop_example_g00916_impl_Report_permits N_loop_example_g00916_impl_Report_permits (by
  intro args es o h hnd; unfold N_loop_example_g00916_impl_Report_permits at h; split at h
  · rename_i x0 x1 x2 x3 x4
    cases h
    have hnd := nd_fst hnd
    have hh := implPerm_ok x0 x1 x2 x3 x4 hnd
    obtain ⟨e0, en⟩ := hh
    exact altok rfl (nd_one en) (by simp only [e0] <;> rfl) rfl rfl
  · cases h)

theorem cnt_occ (n : Int) (ps : List Int) (b : Int) : inR (occ (cntB n ps b : Int)) 0 1 = true := by
  rw [inR_iff, occ]; cases h : ltI (cntB n ps b : Int) 1 <;> simp at h ⊢; omega

theorem chan_rep (n : Int) (ps : List Int) (fs : List (Int × Int × Int)) (ch : Int) (hT : isT n ps = true) (hF : inFs n fs = true) : repOk n (chanL n ps fs ch) = true := by
  have h2 := (isT_iff.1 hT).1
  obtain ⟨hl, hf⟩ := inFs_in hF
  simp only [repOk, Bool.and_eq_true, eqI_iff, chanL_length]
  refine ⟨by omega, ?_⟩
  have key : ∀ (fs : List (Int × Int × Int)) (l : List Int), (∀ f ∈ fs, 0 ≤ f.2.2 ∧ f.2.2 ≤ 1) → (l.all fun v => inR v 0 1) = true → ((fs.foldl (setF ch) l).all fun v => inR v 0 1) = true := by
    intro fs
    induction fs with
    | nil => intro l _ h; exact h
    | cons f fs ih =>
      intro l hv h
      rw [List.foldl_cons]
      refine ih _ (fun g hg => hv g (by simp [hg])) ?_
      unfold setF
      cases f.2.1 == ch with
      | false => exact h
      | true =>
        simp only [cond_true, List.all_eq_true] at h ⊢
        intro v hm
        rcases List.mem_or_eq_of_mem_set hm with h3 | rfl
        · exact h v h3
        · exact inR_iff.2 (hv f (by simp))
  refine key fs _ (fun f hm => (hf f hm).2.2) ?_
  simp only [baseL, List.all_map, List.all_eq_true, Function.comp]
  intro b _; exact cnt_occ n ps b

end Go.SX

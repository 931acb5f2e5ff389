/- Controlled runs, in plain words. -/
import Derived.Test.YtjncnnpdaeociaaRm
namespace Go.SX
open Go.Proofs
set_option maxRecDepth 100000

/-- A move is permitted by what the channels say. -/
def okMv (n : Int) (fs : List (Int × Int × Int)) (ps : List Int) (t : Int) : Bool := permB n ps (chanL n ps fs 0) (chanL n ps fs 1) t
/-- All moves are permitted. -/
def okL (n : Int) (fs : List (Int × Int × Int)) : List Int → List Int → Bool
  | [], _ => true
  | t :: ts, ps => okMv n fs ps t && okL n fs ts (movL n ps t)
/-- The places before, between and behind moves. -/
def trL (n : Int) : List Int → List Int → List (List Int)
  | [], ps => [ps]
  | t :: ts, ps => ps :: trL n ts (movL n ps t)
def endL (n : Int) (ts ps : List Int) : List Int := ts.foldl (movL n) ps
def updF (n : Int) (j : Int) (ps : List Int) (f : Int) : Int := bif bif ltI f 0 then !isSf n ps else false then j else f
/-- After how many moves they are unsafe first. -/
def fstL (n : Int) : List (List Int) → Int → Int → Int
  | [], _, f => f
  | p :: r, j, f => fstL n r (j + 1) (updF n j p f)
/-- The code of a controlled run. -/
def ctCode (n : Int) (ps : List Int) (fs : List (Int × Int × Int)) (ts : List Int) : Int :=
  bif isT n ps then (bif leN ts.length 200 then (bif okFs n fs && ts.all (hasT ps) then (bif okL n fs ts ps then 0 else 5) else 2) else 3) else 1
def ctOk (n : Int) (ps : List Int) (fs : List (Int × Int × Int)) (ts : List Int) : Bool := eqI (ctCode n ps fs ts) 0

theorem permOk_of {n t : Int} {ps : List Int} {fs : List (Int × Int × Int)} (hT : isT n ps = true) (hF : inFs n fs = true) (ht : hasT ps t = true) :
    permOk n ps (chanL n ps fs 0) (chanL n ps fs 1) t = true := by
  simp only [permOk, Bool.and_eq_true]
  exact ⟨mvOk_iff.2 ⟨hT, ht⟩, chan_rep n ps fs 0 hT hF, chan_rep n ps fs 1 hT hF⟩

def f_spec_l11Run_l0 (y4 : List Int) (b : Int) : (Unit) → Nat ⊕ (Unit)
  | _ => (bif ((!spec_l01In_0 (b) (0 : Int) (IntKind.wrap IntKind.i64 ((↑(List.length y4) : Int) - (1 : Int))))) then (.inl 0) else (.inr ()))

def st_spec_l11Run_l0 (y1 : List Int) (y2 : Int) (y3 : Int) (y4 : List Int) (y5 : List Int) (i : Nat) : (Unit) → X_spec_l11Run_l0
  | _ => ((i : Int), y1, y2, y3, y4, y5)

def pr_spec_l11Run_l0 : X_spec_l11Run_l0 → Unit
  | (_, _, _, _, _, _) => ()

theorem w_spec_l11Run_l0 (y1 : List Int) (y2 : Int) (y3 : Int) (y4 : List Int) (y5 : List Int)  (hn : y1.length ≤ 9223372036854775807)  :
    lp_spec_l11Run_l0.fin ((0 : Int), y1, y2, y3, y4, y5) = true ∧ lp_spec_l11Run_l0.res ((0 : Int), y1, y2, y3, y4, y5) = ((walkL (f_spec_l11Run_l0 y4) 1 y1 0 ()).1, (st_spec_l11Run_l0 y1 y2 y3 y4 y5) (walkL (f_spec_l11Run_l0 y4) 1 y1 0 ()).2.1 (walkL (f_spec_l11Run_l0 y4) 1 y1 0 ()).2.2) := by
  have key := lp_spec_l11Run_l0.along (st_spec_l11Run_l0 y1 y2 y3 y4 y5) pr_spec_l11Run_l0 (f_spec_l11Run_l0 y4) 1 (fun _ _ => True) y1 () (by trivial) (by simp only [lp_spec_l11Run_l0, st_spec_l11Run_l0]; omega) (fun i b a hb hI => ?_) (fun a hI => ?_)
  · exact key
  · obtain ⟨⟩ := a
    have hlt := (List.getElem?_eq_some_iff.1 hb).1
    have hget : ∀ d, Option.getD y1[i]? d = b := fun d => by rw [hb]; rfl
    have hw := wrap64 hlt hn
    have hdec : ltI (i : Int) (y1.length : Int) = true := ltI_t (by omega)
    have hnn : leI (0 : Int) (i : Int) = true := leI_t (by omega)
    have hltd : ltN i y1.length = true := ltN_t hlt
    refine ⟨?_, ?_, ?_, ?_⟩
    · simp [spec_l11Run_l0_0, spec_l11Run_l0_1, spec_l11Run_l0_2, spec_l11Run_l0_3, spec_l11Run_l0_4, lt_spec_l11Run_l0, lp_spec_l11Run_l0, LT.nds, allT, st_spec_l11Run_l0, hdec, hnn, hltd, hget]
    · simp [spec_l11Run_l0_0, spec_l11Run_l0_1, spec_l11Run_l0_2, spec_l11Run_l0_3, spec_l11Run_l0_4, lt_spec_l11Run_l0, lp_spec_l11Run_l0, LT.each, st_spec_l11Run_l0, pr_spec_l11Run_l0, hw]
    · simp only [spec_l11Run_l0_0, spec_l11Run_l0_1, spec_l11Run_l0_2, spec_l11Run_l0_3, spec_l11Run_l0_4, lt_spec_l11Run_l0, lp_spec_l11Run_l0, LT.fn, st_spec_l11Run_l0, pr_spec_l11Run_l0, f_spec_l11Run_l0, Int.toNat_natCast, hdec, hnn, hltd, hget, cond_true, Bool.cond_self]
    · exact fun _ _ => trivial
  · obtain ⟨⟩ := a
    simp [spec_l11Run_l0_0, spec_l11Run_l0_1, spec_l11Run_l0_2, spec_l11Run_l0_3, spec_l11Run_l0_4, lt_spec_l11Run_l0, lp_spec_l11Run_l0, LT.out, st_spec_l11Run_l0]

def fR (n : Int) (fs : List (Int × Int × Int)) (t : Int) (a : Int × Int × List Int) : Nat ⊕ (Int × Int × List Int) :=
  bif okMv n fs a.2.2 t then .inr (IntKind.i64.wrap (a.1 + 1), updF n a.1 a.2.2 a.2.1, movL n a.2.2 t) else .inl 1

theorem same6 (y1 : Int) (y6 : List Int) : spec_l11Run_l1_a0 y1 y6 = y6 := by
  unfold spec_l11Run_l1_a0; cases (ltI y1 0 && true) <;> rfl

theorem w_specRun (n y5 : Int) (ps y7 : List Int) (fs : List (Int × Int × Int)) (ts : List Int) (hT : isT n ps = true) (hF : okFs n fs = true) (hl : ts.length ≤ 200) (ht : ∀ t ∈ ts, hasT ps t = true) (f0 : Int) :
    lp_spec_l11Run_l1.fin ((0 : Int), f0, ts, n, fs, y5, ps, y7) = true ∧ lp_spec_l11Run_l1.res ((0 : Int), f0, ts, n, fs, y5, ps, y7) =
      ((walkL (fR n fs) 0 ts 0 (0, f0, ps)).1, ((walkL (fR n fs) 0 ts 0 (0, f0, ps)).2.2.1, (walkL (fR n fs) 0 ts 0 (0, f0, ps)).2.2.2.1, ts, n, fs, y5, (walkL (fR n fs) 0 ts 0 (0, f0, ps)).2.2.2.2, y7)) := by
  have key := lp_spec_l11Run_l1.along (fun _ a => (a.1, a.2.1, ts, n, fs, y5, a.2.2, y7)) (fun x => (x.1, x.2.1, x.2.2.2.2.2.2.1)) (fR n fs) 0 (fun i a => a.1 = (i : Int) ∧ isT n a.2.2 = true ∧ a.2.2.length = ps.length) ts (0, f0, ps) ⟨rfl, hT, rfl⟩ (by simp only [lp_spec_l11Run_l1]; omega) (fun i t a hb hI => ?_) (fun a hI => ?_)
  · exact key
  · obtain ⟨j, f, qs⟩ := a
    obtain ⟨rfl, hQ, hq⟩ := hI
    simp only at hQ hq
    have hlt := (List.getElem?_eq_some_iff.1 hb).1
    have hget : ∀ d, Option.getD ts[i]? d = t := fun d => by rw [hb]; rfl
    have hw := wrap64 hlt (by omega)
    have hle : leI (i : Int) (ts.length : Int) = true := leI_t (by omega)
    have hne : ((i : Int) == (ts.length : Int)) = false := by simp; omega
    have hdec : ltI (i : Int) (ts.length : Int) = true := ltI_t (by omega)
    have hnn : leI (0 : Int) (i : Int) = true := leI_t (by omega)
    have hltd : ltN i ts.length = true := ltN_t hlt
    have hh : hasT qs t = true := by
      have := hasT_iff.1 (ht t (List.mem_of_getElem? hb)); exact hasT_iff.2 (by omega)
    have hF2 := inFs_of (isT_iff.1 hT).1 hF
    have hp := permOk_of (fs := fs) hQ hF2 hh
    have hm : mvOk n qs t = true := mvOk_iff.2 ⟨hQ, hh⟩
    refine ⟨?_, ?_, ?_, ?_⟩
    · simp [spec_l11Run_l1_a0, spec_l11Run_l1_a1, spec_l11Run_l1_0, spec_l11Run_l1_1, spec_l11Run_l1_2, spec_l11Run_l1_3, spec_l11Run_l1_4, spec_l11Run_l1_5, spec_l11Run_l1_6, spec_l11Run_l1_7, spec_l11Run_l1_8, spec_l11Run_l1_9, spec_l11Run_l1_10, spec_l11Run_l1_11, spec_l11Run_l1_12, lt_spec_l11Run_l1, lp_spec_l11Run_l1, LT.nds, allT, same6, hle, hne, hdec, hnn, hltd, hget, hp, hm, hQ, hF2]
    · simp [spec_l11Run_l1_a0, spec_l11Run_l1_a1, spec_l11Run_l1_0, spec_l11Run_l1_1, spec_l11Run_l1_2, spec_l11Run_l1_3, spec_l11Run_l1_4, spec_l11Run_l1_5, spec_l11Run_l1_6, spec_l11Run_l1_7, spec_l11Run_l1_8, spec_l11Run_l1_9, spec_l11Run_l1_10, spec_l11Run_l1_11, spec_l11Run_l1_12, lt_spec_l11Run_l1, lp_spec_l11Run_l1, LT.each, same6, hle, hne]
    · simp only [spec_l11Run_l1_a0, spec_l11Run_l1_a1, spec_l11Run_l1_0, spec_l11Run_l1_1, spec_l11Run_l1_2, spec_l11Run_l1_3, spec_l11Run_l1_4, spec_l11Run_l1_5, spec_l11Run_l1_6, spec_l11Run_l1_7, spec_l11Run_l1_8, spec_l11Run_l1_9, spec_l11Run_l1_10, spec_l11Run_l1_11, spec_l11Run_l1_12, lt_spec_l11Run_l1, lp_spec_l11Run_l1, LT.fn, Bool.cond_self, hle, hne, hget, Int.toNat_natCast, cond_true, cond_false, fR, okMv, updF]
      cases permB n qs (chanL n qs fs 0) (chanL n qs fs 1) t <;> rfl
    · intro a' hf
      simp only [fR] at hf
      cases hk : okMv n fs qs t <;> rw [hk] at hf <;> simp at hf
      subst hf
      exact ⟨hw, isT_mov hQ t, by simp only [movL_length]; exact hq⟩
  · obtain ⟨j, f, qs⟩ := a
    obtain ⟨rfl, _⟩ := hI
    simp [spec_l11Run_l1_a0, spec_l11Run_l1_a1, spec_l11Run_l1_0, spec_l11Run_l1_1, spec_l11Run_l1_2, spec_l11Run_l1_3, spec_l11Run_l1_4, spec_l11Run_l1_5, spec_l11Run_l1_6, spec_l11Run_l1_7, spec_l11Run_l1_8, spec_l11Run_l1_9, spec_l11Run_l1_10, spec_l11Run_l1_11, spec_l11Run_l1_12, lt_spec_l11Run_l1, lp_spec_l11Run_l1, LT.out]

theorem walk_fR (n : Int) (fs : List (Int × Int × Int)) : ∀ (ts ps : List Int) (i : Nat) (j f : Int), 0 ≤ j → j + ts.length ≤ 1000 →
    ∃ m a, walkL (fR n fs) 0 ts i (j, f, ps) = (bif okL n fs ts ps then 0 else 1, m, a) ∧ (okL n fs ts ps = true → a.2.2 = endL n ts ps ∧ fstL n [a.2.2] a.1 a.2.1 = fstL n (trL n ts ps) j f)
  | [], ps, i, j, f, _, _ => ⟨i, (j, f, ps), rfl, fun _ => ⟨rfl, rfl⟩⟩
  | t :: ts, ps, i, j, f, h0, h1 => by
    simp only [List.length_cons] at h1
    have hw : IntKind.i64.wrap (j + 1) = j + 1 := wrap_i64 (by omega) (by omega)
    cases hk : okMv n fs ps t with
    | false => exact ⟨i, (j, f, ps), by simp only [walkL, fR, hk, okL, Bool.false_and, cond_false], fun h => by simp [okL, hk] at h⟩
    | true =>
      obtain ⟨m, a, e, h⟩ := walk_fR n fs ts (movL n ps t) (i + 1) (j + 1) (updF n j ps f) (by omega) (by omega)
      refine ⟨m, a, ?_, ?_⟩
      · simp only [walkL, fR, hk, okL, Bool.true_and, cond_true, hw]; exact e
      · intro hok
        simp only [okL, hk, Bool.true_and] at hok
        exact h hok

def ctN (n : Int) (ps : List Int) (fs : List (Int × Int × Int)) (ts : List Int) : Int := bif ctOk n ps fs ts then n else 0
def ctF (n : Int) (ps : List Int) (fs : List (Int × Int × Int)) (ts : List Int) : Int := bif ctOk n ps fs ts then fstL n (trL n ts ps) 0 (-1) else 0
def ctP (n : Int) (ps : List Int) (fs : List (Int × Int × Int)) (ts : List Int) : List Int := bif ctOk n ps fs ts then endL n ts ps else []
def ctL (n : Int) (ps : List Int) (fs : List (Int × Int × Int)) (ts : List Int) : List (Int × List Int) := bif ctOk n ps fs ts then (trL n ts ps).map fun p => (n, p) else []

theorem specRunC_ok (n : Int) (ps : List Int) (fs : List (Int × Int × Int)) (ts : List Int) (hn : leN fs.length 9223372036854775807 = true) :
    spec_l11Run_0 n ps fs ts = ctN n ps fs ts ∧ spec_l11Run_1 n ps fs ts = ctF n ps fs ts ∧ spec_l11Run_2 n ps fs ts = ctCode n ps fs ts ∧ spec_l11Run_3 n ps fs ts = ctP n ps fs ts ∧ spec_l11Run_4 n ps fs ts = true := by
  simp only [spec_l11Run_0, spec_l11Run_1, spec_l11Run_2, spec_l11Run_3, spec_l11Run_4, spec_l11Run_a0, ltI_200, ctN, ctF, ctP, ctOk, ctCode]
  cases hT : isT n ps with
  | false => simp [allT, eqI]
  | true =>
    have h1 := isT_iff.1 hT
    have hin : inR n 2 8 = true := inR_iff.2 h1.1
    cases hl : leN ts.length 200 with
    | false => simp [allT, eqI]
    | true =>
      have hl' := leN_iff.1 hl
      cases hF : okFs n fs with
      | false => simp [allT, eqI, hn]
      | true =>
        obtain ⟨w1, w2⟩ := w_spec_l11Run_l0 ts n 0 ps [] (by omega)
        rw [walk_stop (P := fun t => !hasT ps t) (j := 0) (fun t => by
          simp only [f_spec_l11Run_l0, spec_l01In_0, inR_eq, hasT]; rw [wrap_i64 (by omega) (by omega)])] at w2
        have e5 : (ts.any fun t => !hasT ps t) = !ts.all (hasT ps) := by simp [List.all_eq_not_any_not]
        rw [e5] at w2
        have f3 : Lp.fin lp_spec_l11Run_l0 (spec_l11Run_a2 n ps ts) = true := w1
        have e3 : spec_l11Run_a3 n ps ts = !ts.all (hasT ps) := by
          have : lp_spec_l11Run_l0.res (spec_l11Run_a2 n ps ts) = lp_spec_l11Run_l0.res ((0 : Int), ts, n, 0, ps, []) := rfl
          rw [spec_l11Run_a3, this, w2]
          cases ts.all (hasT ps) <;> rfl
        cases ha : ts.all (hasT ps) with
        | false =>
          rw [ha] at e3
          simp [allT, eqI, hn, e3, f3, hin]
        | true =>
          rw [ha] at e3
          obtain ⟨v1, v2⟩ := w_specRun n 0 ps [] fs ts hT hF hl' (fun t ht => List.all_eq_true.1 ha t ht) (-1)
          obtain ⟨m, a, e, h⟩ := walk_fR n fs ts ps 0 0 (-1) (by omega) (by omega)
          rw [e] at v2
          have g1 : Lp.fin lp_spec_l11Run_l1 (spec_l11Run_a4 n ps fs ts) = true := v1
          have g2 : lp_spec_l11Run_l1.res (spec_l11Run_a4 n ps fs ts) = _ := v2
          simp only [spec_l11Run_a5, spec_l11Run_a6, spec_l11Run_a8, spec_l11Run_a9, spec_l11Run_a7, g2]
          have hp4 : leN ps.length 1048576 = true := leN_t (by omega)
          cases hk : okL n fs ts ps with
          | false => simp [allT, eqI, hn, e3, f3, hin, g1, hp4, Nat.beq]
          | true =>
            obtain ⟨h5, h6⟩ := h hk
            have h6' : spec_l11Run_l1_2 a.1 a.2.1 n a.2.2 = fstL n (trL n ts ps) 0 (-1) := h6
            rw [h5] at h6'
            simp [allT, eqI, hn, e3, f3, hin, g1, hp4, spec_l11Run_l1_3, same6, h6', h5]

def N_spec_l11Run : List SV → List Entry → Option Out
  | [.one ⟨true, [.val (.int .i64 x0), .ref 0]⟩, .one ⟨false, [.ref 1]⟩, .one ⟨false, [.ref 2]⟩], [.row false 2 (.int .i64) x1, .row false 118 (.pair (.int .i64) (.pair (.int .i64) (.int .i64))) x2, .row false 2 (.int .i64) x3] => some ⟨(.tup [⟨true, [(.val (.int IntKind.i64 (ctN x0 x1 x2 x3))), (.ref 3)]⟩, ⟨false, [(.val (.int IntKind.i64 (ctF x0 x1 x2 x3)))]⟩, ⟨false, [(.val (.int IntKind.i64 (ctCode x0 x1 x2 x3)))]⟩]), [(.row false 2 (CTy.int IntKind.i64) x1), (.row false 118 (CTy.pair (CTy.int IntKind.i64) (CTy.pair (CTy.int IntKind.i64) (CTy.int IntKind.i64))) x2), (.row false 2 (CTy.int IntKind.i64) x3)], [(.row true 2 (CTy.int IntKind.i64) (ctP x0 x1 x2 x3))], [leN x2.length 9223372036854775807]⟩
  | _, _ => none

def n_spec_l11Run : PF Try.prog := PF.alt p_spec_l11Run N_spec_l11Run (by
  intro args es o h hnd; unfold N_spec_l11Run at h; split at h
  · rename_i x0 x1 x2 x3
    cases h
    have hnd := nd_fst hnd
    have hh := specRunC_ok x0 x1 x2 x3 hnd
    obtain ⟨e0, e1, e2, e3, en⟩ := hh
    exact altok rfl (nd_one en) (by simp only [e0, e1, e2] <;> rfl) rfl (by simp only [e3] <;> rfl)
  · cases h)

def fC (n : Int) (fs : List (Int × Int × Int)) (t : Int) (a : List (Int × List Int) × List Int) : Nat ⊕ (List (Int × List Int) × List Int) :=
  bif okMv n fs a.2 t then .inr (a.1 ++ [(n, movL n a.2 t)], movL n a.2 t) else .inl 0

theorem w_implCtl (n : Int) (ps : List Int) (fs : List (Int × Int × Int)) (ts : List Int) (hT : isT n ps = true) (hF : okFs n fs = true) (hl : ts.length ≤ 200) (ht : ∀ t ∈ ts, hasT ps t = true) (l0 : List (Int × List Int)) (h0 : l0.length = 1) :
    lp_impl_controlled_l0.fin ((0 : Int), (ts.length : Int), ts, n, fs, l0, ps) = true ∧ lp_impl_controlled_l0.res ((0 : Int), (ts.length : Int), ts, n, fs, l0, ps) =
      ((walkL (fC n fs) 1 ts 0 (l0, ps)).1, (((walkL (fC n fs) 1 ts 0 (l0, ps)).2.1 : Int), (ts.length : Int), ts, n, fs, (walkL (fC n fs) 1 ts 0 (l0, ps)).2.2.1, (walkL (fC n fs) 1 ts 0 (l0, ps)).2.2.2)) := by
  have key := lp_impl_controlled_l0.along (fun i a => ((i : Int), (ts.length : Int), ts, n, fs, a.1, a.2)) (fun x => (x.2.2.2.2.2.1, x.2.2.2.2.2.2)) (fC n fs) 1 (fun i a => a.1.length = i + 1 ∧ isT n a.2 = true ∧ a.2.length = ps.length) ts (l0, ps) ⟨h0, hT, rfl⟩ (by simp only [lp_impl_controlled_l0]; omega) (fun i t a hb hI => ?_) (fun a hI => ?_)
  · exact key
  · obtain ⟨l, qs⟩ := a
    obtain ⟨hL, hQ, hq⟩ := hI
    simp only at hL hQ hq
    have hlt := (List.getElem?_eq_some_iff.1 hb).1
    have hget : ∀ d, Option.getD ts[i]? d = t := fun d => by rw [hb]; rfl
    have hw := wrap64 hlt (by omega)
    have hdec : ltI (i : Int) (ts.length : Int) = true := ltI_t (by omega)
    have hnn : leI (0 : Int) (i : Int) = true := leI_t (by omega)
    have hltd : ltN i ts.length = true := ltN_t hlt
    have hh : hasT qs t = true := by
      have := hasT_iff.1 (ht t (List.mem_of_getElem? hb)); exact hasT_iff.2 (by omega)
    have hF2 := inFs_of (isT_iff.1 hT).1 hF
    have hp := permOk_of (fs := fs) hQ hF2 hh
    have hm : mvOk n qs t = true := mvOk_iff.2 ⟨hQ, hh⟩
    refine ⟨?_, ?_, ?_, ?_⟩
    · simp [impl_controlled_l0_a0, impl_controlled_l0_a1, impl_controlled_l0_0, impl_controlled_l0_1, impl_controlled_l0_2, impl_controlled_l0_3, impl_controlled_l0_4, impl_controlled_l0_5, impl_controlled_l0_6, impl_controlled_l0_7, impl_controlled_l0_8, impl_controlled_l0_9, impl_controlled_l0_10, impl_controlled_l0_11, impl_controlled_l0_12, lt_impl_controlled_l0, lp_impl_controlled_l0, LT.nds, allT, hdec, hnn, hltd, hget, hp, hm, hQ, hF2]
      exact .inr (by omega)
    · simp [impl_controlled_l0_a0, impl_controlled_l0_a1, impl_controlled_l0_0, impl_controlled_l0_1, impl_controlled_l0_2, impl_controlled_l0_3, impl_controlled_l0_4, impl_controlled_l0_5, impl_controlled_l0_6, impl_controlled_l0_7, impl_controlled_l0_8, impl_controlled_l0_9, impl_controlled_l0_10, impl_controlled_l0_11, impl_controlled_l0_12, lt_impl_controlled_l0, lp_impl_controlled_l0, LT.each, hw]
    · simp only [impl_controlled_l0_a0, impl_controlled_l0_a1, impl_controlled_l0_0, impl_controlled_l0_1, impl_controlled_l0_2, impl_controlled_l0_3, impl_controlled_l0_4, impl_controlled_l0_5, impl_controlled_l0_6, impl_controlled_l0_7, impl_controlled_l0_8, impl_controlled_l0_9, impl_controlled_l0_10, impl_controlled_l0_11, impl_controlled_l0_12, lt_impl_controlled_l0, lp_impl_controlled_l0, LT.fn, hdec, hget, Int.toNat_natCast, cond_true, fC, okMv]
      cases permB n qs (chanL n qs fs 0) (chanL n qs fs 1) t <;> rfl
    · intro a' hf
      simp only [fC] at hf
      cases hk : okMv n fs qs t <;> rw [hk] at hf <;> simp at hf
      subst hf
      exact ⟨by simp [hL], isT_mov hQ t, by simp only [movL_length]; exact hq⟩
  · obtain ⟨l, qs⟩ := a
    simp [impl_controlled_l0_a0, impl_controlled_l0_a1, impl_controlled_l0_0, impl_controlled_l0_1, impl_controlled_l0_2, impl_controlled_l0_3, impl_controlled_l0_4, impl_controlled_l0_5, impl_controlled_l0_6, impl_controlled_l0_7, impl_controlled_l0_8, impl_controlled_l0_9, impl_controlled_l0_10, impl_controlled_l0_11, impl_controlled_l0_12, lt_impl_controlled_l0, lp_impl_controlled_l0, LT.out]

theorem walk_fC (n : Int) (fs : List (Int × Int × Int)) : ∀ (ts ps : List Int) (i : Nat) (l : List (Int × List Int)),
    ∃ m a, walkL (fC n fs) 1 ts i (l ++ [(n, ps)], ps) = (bif okL n fs ts ps then 1 else 0, m, a) ∧ (okL n fs ts ps = true → a.1 = l ++ (trL n ts ps).map fun p => (n, p))
  | [], ps, i, l => ⟨i, (l ++ [(n, ps)], ps), rfl, fun _ => rfl⟩
  | t :: ts, ps, i, l => by
    cases hk : okMv n fs ps t with
    | false => exact ⟨i, (l ++ [(n, ps)], ps), by simp only [walkL, fC, hk, okL, Bool.false_and, cond_false], fun h => by simp [okL, hk] at h⟩
    | true =>
      obtain ⟨m, a, e, h⟩ := walk_fC n fs ts (movL n ps t) (i + 1) (l ++ [(n, ps)])
      refine ⟨m, a, ?_, ?_⟩
      · simp only [walkL, fC, hk, okL, Bool.true_and, cond_true]; exact e
      · intro hok
        simp only [okL, hk, Bool.true_and] at hok
        rw [h hok]; simp [trL]

theorem implCtl_ok (n : Int) (ps : List Int) (fs : List (Int × Int × Int)) (ts : List Int) (hn : leN fs.length 9223372036854775807 = true) :
    impl_controlled_0 n ps fs ts = ctCode n ps fs ts ∧ impl_controlled_1 n ps fs ts = ctL n ps fs ts ∧ impl_controlled_2 n ps fs ts = true := by
  simp only [impl_controlled_0, impl_controlled_1, impl_controlled_2, impl_controlled_a0, impl_controlled_a1, mcCode, ctL, ctOk, ctCode]
  cases hT : isT n ps with
  | false => simp [allT, eqI]
  | true =>
    have h1 := isT_iff.1 hT
    cases hl : leN ts.length 200 with
    | false => simp [allT, eqI]
    | true =>
      have hl' := leN_iff.1 hl
      cases ha : ts.all (hasT ps) with
      | false => simp [allT, eqI, hn]
      | true =>
        cases hF : okFs n fs with
        | false => simp [allT, eqI, hn]
        | true =>
          obtain ⟨v1, v2⟩ := w_implCtl n ps fs ts hT hF hl' (fun t ht => List.all_eq_true.1 ha t ht) [(n, ps)] rfl
          obtain ⟨m, a, e, h⟩ := walk_fC n fs ts ps 0 []
          rw [List.nil_append] at e
          rw [e] at v2
          have g1 : Lp.fin lp_impl_controlled_l0 (impl_controlled_a2 n ps fs ts) = true := v1
          have g2 : lp_impl_controlled_l0.res (impl_controlled_a2 n ps fs ts) = _ := v2
          have e4 : loop_example_g00916_impl_Traffic_clone_0 ps = true := by
            simp [loop_example_g00916_impl_Traffic_clone_0, allT]; omega
          simp only [impl_controlled_a3, g2]
          cases hk : okL n fs ts ps with
          | false => simp [allT, eqI, hn, g1, e4, Nat.beq]
          | true =>
            have h6 := h hk
            rw [List.nil_append] at h6
            simp [allT, eqI, hn, g1, e4, Nat.beq, h6]

def N_impl_controlled : List SV → List Entry → Option Out
  | [.one ⟨true, [.val (.int .i64 x0), .ref 0]⟩, .one ⟨false, [.ref 1]⟩, .one ⟨false, [.ref 2]⟩], [.row false 2 (.int .i64) x1, .row false 118 (.pair (.int .i64) (.pair (.int .i64) (.int .i64))) x2, .row false 2 (.int .i64) x3] => some ⟨(.tup [⟨false, [(.ref 3)]⟩, ⟨false, [(.val (.int IntKind.i64 (ctCode x0 x1 x2 x3)))]⟩]), [(.row false 2 (CTy.int IntKind.i64) x1), (.row false 118 (CTy.pair (CTy.int IntKind.i64) (CTy.pair (CTy.int IntKind.i64) (CTy.int IntKind.i64))) x2), (.row false 2 (CTy.int IntKind.i64) x3)], [(.row true 26 (CTy.pair (CTy.int IntKind.i64) (CTy.sl (2 : Nat) (CTy.int IntKind.i64))) (ctL x0 x1 x2 x3))], [leN x2.length 9223372036854775807]⟩
  | _, _ => none

def n_impl_controlled : PF Try.prog := PF.alt p_impl_controlled N_impl_controlled (by
  intro args es o h hnd; unfold N_impl_controlled at h; split at h
  · rename_i x0 x1 x2 x3
    cases h
    have hnd := nd_fst hnd
    have hh := implCtl_ok x0 x1 x2 x3 hnd
    obtain ⟨e0, e1, en⟩ := hh
    exact altok rfl (nd_one en) (by simp only [e0] <;> rfl) rfl (by simp only [e1] <;> rfl)
  · cases h)

end Go.SX

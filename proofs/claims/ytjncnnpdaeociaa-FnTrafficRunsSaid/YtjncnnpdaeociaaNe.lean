/- Traffic, in plain words: the reference's moves. -/
import Derived.Test.YtjncnnpdaeociaaRe
namespace Go.SX
open Go.Proofs
set_option maxRecDepth 100000

def f_spec_l10Allowed_l0 (y1 : Int) (y3 : List Int) (b : Nat) : (List Int) → Nat ⊕ (List Int)
  | y2 => (bif ((isSf y1 (movL y1 y3 (↑b : Int)))) then (.inr ((y2 ++ [(↑b : Int)]))) else (.inr y2))

def st_spec_l10Allowed_l0 (y1 : Int) (y3 : List Int) (i : Nat) : (List Int) → X_spec_l10Allowed_l0
  | y2 => ((i : Int), y1, y2, y3)

def pr_spec_l10Allowed_l0 : X_spec_l10Allowed_l0 → List Int
  | (_, _, y2, _) => y2

theorem w_spec_l10Allowed_l0 (y1 : Int) (y3 : List Int) (y2 : List Int) (hn : y3.length ≤ 9223372036854775807) (hT : isT y1 y3 = true) (h2 : y2 = []) :
    lp_spec_l10Allowed_l0.fin ((0 : Int), y1, y2, y3) = true ∧ lp_spec_l10Allowed_l0.res ((0 : Int), y1, y2, y3) = ((walkL (f_spec_l10Allowed_l0 y1 y3) 0 (List.range y3.length) 0 y2).1, (st_spec_l10Allowed_l0 y1 y3) (walkL (f_spec_l10Allowed_l0 y1 y3) 0 (List.range y3.length) 0 y2).2.1 (walkL (f_spec_l10Allowed_l0 y1 y3) 0 (List.range y3.length) 0 y2).2.2) := by
  have key := lp_spec_l10Allowed_l0.along (st_spec_l10Allowed_l0 y1 y3) pr_spec_l10Allowed_l0 (f_spec_l10Allowed_l0 y1 y3) 0 (fun i a => a.length ≤ i) (List.range y3.length) y2 (by subst h2; simp) (by simp only [lp_spec_l10Allowed_l0, st_spec_l10Allowed_l0, List.length_range]; omega) (fun i b a hb hI => ?_) (fun a hI => ?_)
  · exact key
  · obtain y2 := a
    obtain ⟨rfl, hlt⟩ := range_get hb
    have hw : IntKind.i64.wrap ((b : Int) + 1) = ((b + 1 : Nat) : Int) := by rw [wrap_i64 (by omega) (by omega)]; omega
    have hdec : ltI (b : Int) (y3.length : Int) = true := ltI_t (by omega)
    have hnn : leI (0 : Int) (b : Int) = true := leI_t (by omega)
    have hltd : ltN b y3.length = true := ltN_t (by omega)
    refine ⟨?_, ?_, ?_, ?_⟩
    · have h4 := (isT_iff.1 hT).2.1
      have hm : mvOk y1 y3 (b : Int) = true := mvOk_iff.2 ⟨hT, hasT_iff.2 (by omega)⟩
      simp [spec_l10Allowed_l0_0, spec_l10Allowed_l0_1, spec_l10Allowed_l0_2, spec_l10Allowed_l0_3, spec_l10Allowed_l0_4, spec_l10Allowed_l0_5, spec_l10Allowed_l0_6, lt_spec_l10Allowed_l0, lp_spec_l10Allowed_l0, LT.nds, allT, st_spec_l10Allowed_l0, hdec, hm]
      omega
    · simp [spec_l10Allowed_l0_0, spec_l10Allowed_l0_1, spec_l10Allowed_l0_2, spec_l10Allowed_l0_3, spec_l10Allowed_l0_4, spec_l10Allowed_l0_5, spec_l10Allowed_l0_6, lt_spec_l10Allowed_l0, lp_spec_l10Allowed_l0, LT.each, st_spec_l10Allowed_l0, pr_spec_l10Allowed_l0, hw]
    · simp only [spec_l10Allowed_l0_0, spec_l10Allowed_l0_1, spec_l10Allowed_l0_2, spec_l10Allowed_l0_3, spec_l10Allowed_l0_4, spec_l10Allowed_l0_5, spec_l10Allowed_l0_6, lt_spec_l10Allowed_l0, lp_spec_l10Allowed_l0, LT.fn, st_spec_l10Allowed_l0, pr_spec_l10Allowed_l0, f_spec_l10Allowed_l0, Int.toNat_natCast, hdec, hnn, hltd, cond_true, Bool.cond_self]
    · intro a' hf; simp only [f_spec_l10Allowed_l0] at hf; cases hs : isSf y1 (movL y1 y3 (b : Int)) <;> rw [hs] at hf <;> simp at hf <;> subst hf <;> first | omega | (simp; omega)
  · obtain y2 := a
    simp [spec_l10Allowed_l0_0, spec_l10Allowed_l0_1, spec_l10Allowed_l0_2, spec_l10Allowed_l0_3, spec_l10Allowed_l0_4, spec_l10Allowed_l0_5, spec_l10Allowed_l0_6, lt_spec_l10Allowed_l0, lp_spec_l10Allowed_l0, LT.out, st_spec_l10Allowed_l0, List.length_range]

def f_spec_RunMoves_l0 (y4 : List Int) (b : Int) : (Unit) → Nat ⊕ (Unit)
  | _ => (bif ((!spec_l01In_0 (b) (0 : Int) (IntKind.wrap IntKind.i64 ((↑(List.length y4) : Int) - (1 : Int))))) then (.inl 0) else (.inr ()))

def st_spec_RunMoves_l0 (y1 : List Int) (y2 : Int) (y3 : Int) (y4 : List Int) (y5 : List Int) (i : Nat) : (Unit) → X_spec_RunMoves_l0
  | _ => ((i : Int), y1, y2, y3, y4, y5)

def pr_spec_RunMoves_l0 : X_spec_RunMoves_l0 → Unit
  | (_, _, _, _, _, _) => ()

theorem w_spec_RunMoves_l0 (y1 : List Int) (y2 : Int) (y3 : Int) (y4 : List Int) (y5 : List Int)  (hn : y1.length ≤ 9223372036854775807)  :
    lp_spec_RunMoves_l0.fin ((0 : Int), y1, y2, y3, y4, y5) = true ∧ lp_spec_RunMoves_l0.res ((0 : Int), y1, y2, y3, y4, y5) = ((walkL (f_spec_RunMoves_l0 y4) 1 y1 0 ()).1, (st_spec_RunMoves_l0 y1 y2 y3 y4 y5) (walkL (f_spec_RunMoves_l0 y4) 1 y1 0 ()).2.1 (walkL (f_spec_RunMoves_l0 y4) 1 y1 0 ()).2.2) := by
  have key := lp_spec_RunMoves_l0.along (st_spec_RunMoves_l0 y1 y2 y3 y4 y5) pr_spec_RunMoves_l0 (f_spec_RunMoves_l0 y4) 1 (fun _ _ => True) y1 () (by trivial) (by simp only [lp_spec_RunMoves_l0, st_spec_RunMoves_l0]; omega) (fun i b a hb hI => ?_) (fun a hI => ?_)
  · exact key
  · obtain ⟨⟩ := a
    have hlt := (List.getElem?_eq_some_iff.1 hb).1
    have hget : ∀ d, Option.getD y1[i]? d = b := fun d => by rw [hb]; rfl
    have hw := wrap64 hlt hn
    have hdec : ltI (i : Int) (y1.length : Int) = true := ltI_t (by omega)
    have hnn : leI (0 : Int) (i : Int) = true := leI_t (by omega)
    have hltd : ltN i y1.length = true := ltN_t hlt
    refine ⟨?_, ?_, ?_, ?_⟩
    · simp [spec_RunMoves_l0_0, spec_RunMoves_l0_1, spec_RunMoves_l0_2, spec_RunMoves_l0_3, spec_RunMoves_l0_4, lt_spec_RunMoves_l0, lp_spec_RunMoves_l0, LT.nds, allT, st_spec_RunMoves_l0, hdec, hnn, hltd, hget]
    · simp [spec_RunMoves_l0_0, spec_RunMoves_l0_1, spec_RunMoves_l0_2, spec_RunMoves_l0_3, spec_RunMoves_l0_4, lt_spec_RunMoves_l0, lp_spec_RunMoves_l0, LT.each, st_spec_RunMoves_l0, pr_spec_RunMoves_l0, hw]
    · simp only [spec_RunMoves_l0_0, spec_RunMoves_l0_1, spec_RunMoves_l0_2, spec_RunMoves_l0_3, spec_RunMoves_l0_4, lt_spec_RunMoves_l0, lp_spec_RunMoves_l0, LT.fn, st_spec_RunMoves_l0, pr_spec_RunMoves_l0, f_spec_RunMoves_l0, Int.toNat_natCast, hdec, hnn, hltd, hget, cond_true, Bool.cond_self]
    · exact fun _ _ => trivial
  · obtain ⟨⟩ := a
    simp [spec_RunMoves_l0_0, spec_RunMoves_l0_1, spec_RunMoves_l0_2, spec_RunMoves_l0_3, spec_RunMoves_l0_4, lt_spec_RunMoves_l0, lp_spec_RunMoves_l0, LT.out, st_spec_RunMoves_l0]

def f_spec_RunMoves_l1 (y2 : Int) (b : Int) : (List Int) → Nat ⊕ (List Int)
  | y3 => (bif (isSf y2 y3) then (.inr ((movL y2 y3 ((b))))) else (.inl 0))

def st_spec_RunMoves_l1 (y1 : List Int) (y2 : Int) (i : Nat) : (List Int) → X_spec_RunMoves_l1
  | y3 => ((i : Int), y1, y2, y3)

def pr_spec_RunMoves_l1 : X_spec_RunMoves_l1 → List Int
  | (_, _, _, y3) => y3

theorem w_spec_RunMoves_l1 (y1 : List Int) (y2 : Int) (y3 : List Int) (hn : y1.length ≤ 9223372036854775807) (hT : isT y2 y3 = true) (ht : ∀ t ∈ y1, hasT y3 t = true) :
    lp_spec_RunMoves_l1.fin ((0 : Int), y1, y2, y3) = true ∧ lp_spec_RunMoves_l1.res ((0 : Int), y1, y2, y3) = ((walkL (f_spec_RunMoves_l1 y2) 0 y1 0 y3).1, (st_spec_RunMoves_l1 y1 y2) (walkL (f_spec_RunMoves_l1 y2) 0 y1 0 y3).2.1 (walkL (f_spec_RunMoves_l1 y2) 0 y1 0 y3).2.2) := by
  have key := lp_spec_RunMoves_l1.along (st_spec_RunMoves_l1 y1 y2) pr_spec_RunMoves_l1 (f_spec_RunMoves_l1 y2) 0 (fun _ a => isT y2 a = true ∧ a.length = y3.length) y1 y3 ⟨hT, rfl⟩ (by simp only [lp_spec_RunMoves_l1, st_spec_RunMoves_l1]; omega) (fun i b a hb hI => ?_) (fun a hI => ?_)
  · exact key
  · obtain y3 := a
    have hlt := (List.getElem?_eq_some_iff.1 hb).1
    have hget : ∀ d, Option.getD y1[i]? d = b := fun d => by rw [hb]; rfl
    have hw := wrap64 hlt hn
    have hdec : ltI (i : Int) (y1.length : Int) = true := ltI_t (by omega)
    have hnn : leI (0 : Int) (i : Int) = true := leI_t (by omega)
    have hltd : ltN i y1.length = true := ltN_t hlt
    refine ⟨?_, ?_, ?_, ?_⟩
    · have hm : mvOk y2 a b = true := mvOk_iff.2 ⟨hI.1, by have := ht b (List.mem_of_getElem? hb); rw [hasT_iff] at this ⊢; omega⟩
      simp [spec_RunMoves_l1_a0, spec_RunMoves_l1_a1, spec_RunMoves_l1_0, spec_RunMoves_l1_1, spec_RunMoves_l1_2, spec_RunMoves_l1_3, spec_RunMoves_l1_4, spec_RunMoves_l1_5, spec_RunMoves_l1_6, spec_RunMoves_l1_7, lt_spec_RunMoves_l1, lp_spec_RunMoves_l1, LT.nds, allT, st_spec_RunMoves_l1, hdec, hnn, hltd, hget, hm]
    · simp [spec_RunMoves_l1_a0, spec_RunMoves_l1_a1, spec_RunMoves_l1_0, spec_RunMoves_l1_1, spec_RunMoves_l1_2, spec_RunMoves_l1_3, spec_RunMoves_l1_4, spec_RunMoves_l1_5, spec_RunMoves_l1_6, spec_RunMoves_l1_7, lt_spec_RunMoves_l1, lp_spec_RunMoves_l1, LT.each, st_spec_RunMoves_l1, pr_spec_RunMoves_l1, hw]
    · simp only [spec_RunMoves_l1_a0, spec_RunMoves_l1_a1, spec_RunMoves_l1_0, spec_RunMoves_l1_1, spec_RunMoves_l1_2, spec_RunMoves_l1_3, spec_RunMoves_l1_4, spec_RunMoves_l1_5, spec_RunMoves_l1_6, spec_RunMoves_l1_7, lt_spec_RunMoves_l1, lp_spec_RunMoves_l1, LT.fn, st_spec_RunMoves_l1, pr_spec_RunMoves_l1, f_spec_RunMoves_l1, Int.toNat_natCast, hdec, hnn, hltd, hget, cond_true, Bool.cond_self]
    · intro a' hf; simp only [f_spec_RunMoves_l1] at hf; cases hs : isSf y2 a <;> rw [hs] at hf <;> simp at hf; subst hf; exact ⟨isT_mov hI.1 b, by rw [movL_length]; exact hI.2⟩
  · obtain y3 := a
    simp [spec_RunMoves_l1_a0, spec_RunMoves_l1_a1, spec_RunMoves_l1_0, spec_RunMoves_l1_1, spec_RunMoves_l1_2, spec_RunMoves_l1_3, spec_RunMoves_l1_4, spec_RunMoves_l1_5, spec_RunMoves_l1_6, spec_RunMoves_l1_7, lt_spec_RunMoves_l1, lp_spec_RunMoves_l1, LT.out, st_spec_RunMoves_l1]

/-- The trains that may move. -/
def allowL (n : Int) (ps : List Int) : List Int := ((List.range ps.length).filter fun (t : Nat) => isSf n (movL n ps (t : Int))).map fun (t : Nat) => (t : Int)

theorem fold_filter (p : Nat → Bool) : ∀ (r : List Nat) (a : List Int), r.foldl (fun a b => bif p b then a ++ [((b : Nat) : Int)] else a) a = a ++ (r.filter p).map fun (t : Nat) => (t : Int)
  | [], a => by simp
  | b :: r, a => by
    rw [List.foldl_cons, fold_filter p r]
    cases hb : p b <;> simp [List.filter_cons, hb]

theorem walk_allow (n : Int) (ps : List Int) : walkL (f_spec_l10Allowed_l0 n ps) 0 (List.range ps.length) 0 [] = (0, ps.length, allowL n ps) := by
  rw [walk_gather (g := fun a b => bif isSf n (movL n ps ((b : Nat) : Int)) then a ++ [((b : Nat) : Int)] else a) (fun b a => by simp only [f_spec_l10Allowed_l0]; cases isSf n (movL n ps ((b : Nat) : Int)) <;> rfl), fold_filter]
  simp [allowL]

theorem allowed_ok (n : Int) (ps : List Int) (h : isT n ps = true) : spec_l10Allowed_0 n ps = allowL n ps ∧ spec_l10Allowed_1 n ps = true := by
  have h4 := (isT_iff.1 h).2.1
  obtain ⟨w1, w2⟩ := w_spec_l10Allowed_l0 n ps [] (by omega) h rfl
  rw [walk_allow] at w2
  refine ⟨?_, ?_⟩
  · simp only [spec_l10Allowed_a0, spec_l10Allowed_0, spec_l10Allowed_1, w2, st_spec_l10Allowed_l0]
  · simp only [spec_l10Allowed_a0, spec_l10Allowed_0, spec_l10Allowed_1, w1, allT, cond_true]

/-- The places behind moves; they end where the traffic is not safe. -/
def runM (n : Int) : List Int → List Int → List Int
  | [], ps => ps
  | t :: r, ps => bif isSf n ps then runM n r (movL n ps t) else ps

theorem runM_length (n : Int) : ∀ (ts ps : List Int), (runM n ts ps).length = ps.length
  | [], ps => rfl
  | t :: r, ps => by
    simp only [runM]
    cases isSf n ps with
    | true => rw [cond_true, runM_length n r, movL_length]
    | false => rfl

theorem walk_run (n : Int) : ∀ (ts : List Int) (i : Nat) (ps : List Int), (walkL (f_spec_RunMoves_l1 n) 0 ts i ps).1 = 0 ∧ (walkL (f_spec_RunMoves_l1 n) 0 ts i ps).2.2 = runM n ts ps
  | [], i, ps => ⟨rfl, rfl⟩
  | t :: r, i, ps => by
    simp only [walkL, f_spec_RunMoves_l1, runM]
    cases isSf n ps with
    | true => exact walk_run n r (i + 1) _
    | false => exact ⟨rfl, rfl⟩

def rmOk (n : Int) (ps ts : List Int) : Bool := isT n ps && (leN ts.length 200 && (ts.all (hasT ps) && isSf n (runM n ts ps)))
def rmCode (n : Int) (ps ts : List Int) : Int := bif isT n ps then (bif leN ts.length 200 then (bif ts.all (hasT ps) then (bif isSf n (runM n ts ps) then 0 else 5) else 2) else 3) else 1
def rmN (n : Int) (ps ts : List Int) : Int := bif rmOk n ps ts then n else 0
def rmP (n : Int) (ps ts : List Int) : List Int := bif rmOk n ps ts then runM n ts ps else []

theorem ltI_200 (ts : List Int) : ltI 200 (ts.length : Int) = !leN ts.length 200 := by
  cases h : leN ts.length 200 with
  | true => have := leN_iff.1 h; exact ltI_f (by omega)
  | false => have := leN_not.1 h; exact ltI_t (by omega)

theorem specRun_ok (n : Int) (ps ts : List Int) : spec_RunMoves_0 n ps ts = rmN n ps ts ∧ spec_RunMoves_1 n ps ts = rmCode n ps ts ∧ spec_RunMoves_2 n ps ts = rmP n ps ts ∧ spec_RunMoves_3 n ps ts = true := by
  simp only [spec_RunMoves_0, spec_RunMoves_1, spec_RunMoves_2, spec_RunMoves_3, rmN, rmP, rmCode, rmOk, ltI_200]
  cases hT : isT n ps with
  | false => simp [allT]
  | true =>
    cases hl : leN ts.length 200 with
    | false => simp [allT]
    | true =>
      have h4 := (isT_iff.1 hT).2.1
      have hl' := leN_iff.1 hl
      obtain ⟨w1, w2⟩ := w_spec_RunMoves_l0 ts n 0 ps [] (by omega)
      rw [walk_stop (P := fun t => !hasT ps t) (j := 0) (fun t => by simp only [f_spec_RunMoves_l0, spec_l01In_0, inR_eq, hasT]; rw [wrap_i64 (by omega) (by omega)])] at w2
      have e5 : (ts.any fun t => !hasT ps t) = !ts.all (hasT ps) := by simp [List.all_eq_not_any_not]
      rw [e5] at w2
      have hsm : leN ps.length 1048576 = true := leN_t (by omega)
      cases ha : ts.all (hasT ps) with
      | false =>
        have e1 : spec_RunMoves_a1 n ps ts = true := by simp only [spec_RunMoves_a1, spec_RunMoves_a0, w2, ha]; rfl
        simp [allT, e1, spec_RunMoves_a0, w1]
      | true =>
        have e1 : spec_RunMoves_a1 n ps ts = false := by simp only [spec_RunMoves_a1, spec_RunMoves_a0, w2, ha]; rfl
        obtain ⟨v1, v2⟩ := w_spec_RunMoves_l1 ts n ps (by omega) hT (fun t ht => List.all_eq_true.1 ha t ht)
        have e2 : spec_RunMoves_a3 n ps ts = runM n ts ps := by
          simp only [spec_RunMoves_a3, spec_RunMoves_a2, v2, st_spec_RunMoves_l1, spec_RunMoves_l1_7, spec_RunMoves_l1_a0, Bool.cond_self]
          exact (walk_run n ts 0 ps).2
        have e3 : Lp.fin lp_spec_RunMoves_l1 (spec_RunMoves_a2 n ps ts) = true := v1
        have e4 : Lp.fin lp_spec_RunMoves_l0 (spec_RunMoves_a0 n ps ts) = true := w1
        simp only [e1, e2, e3, e4, hsm, allT]
        cases isSf n (runM n ts ps) <;> simp

def N_spec_RunMoves : List SV → List Entry → Option Out
  | [.one ⟨true, [.val (.int .i64 x0), .ref 0]⟩, .one ⟨false, [.ref 1]⟩], [.row false 2 (.int .i64) x1, .row false 2 (.int .i64) x2] => some ⟨(.tup [⟨true, [(.val (.int IntKind.i64 (rmN x0 x1 x2))), (.ref 2)]⟩, ⟨false, [(.val (.int IntKind.i64 (rmCode x0 x1 x2)))]⟩]), [(.row false 2 (CTy.int IntKind.i64) x1), (.row false 2 (CTy.int IntKind.i64) x2)], [(.row true 2 (CTy.int IntKind.i64) (rmP x0 x1 x2))], []⟩
  | _, _ => none

def n_spec_RunMoves : PF Try.prog := PF.alt p_spec_RunMoves N_spec_RunMoves (by
  intro args es o h hnd; unfold N_spec_RunMoves at h; split at h
  · rename_i x0 x1 x2
    cases h
    have hh := specRun_ok x0 x1 x2
    obtain ⟨e0, e1, e2, en⟩ := hh
    exact altok rfl (nd_one en) (by simp only [e0, e1] <;> rfl) rfl (by simp only [e2] <;> rfl)
  · cases h)

end Go.SX

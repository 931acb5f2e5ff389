/- Replays, in plain words: events, and the faults of statuses. -/
import Derived.Test.YtjncnnpdaeociaaRp
namespace Go.SX
open Go.Proofs
set_option maxRecDepth 100000

/-- A valid event. -/
def evOk (n : Int) (ps : List Int) (e : Int × Int × Int) : Bool :=
  bif e.1 == 0 then hasT ps e.2.1 && e.2.2 == 0 else bif e.1 == 1 then inR e.2.1 0 (n - 1) && inR e.2.2 1 3 else false
def rvPre (n : Int) (ps : List Int) (es : List (Int × Int × Int)) : Int :=
  bif isT n ps then (bif leN es.length 200 then (bif es.all (evOk n ps) then 0 else 2) else 3) else 1
/-- The faults that statuses stand for. -/
def stF (b s : Int) : List (Int × Int × Int) := bif s == 1 then [(b, 0, 0)] else bif s == 2 then [(b, 1, 1)] else bif s == 3 then [(b, 0, 0), (b, 1, 0)] else []
def flA : Int → List Int → List (Int × Int × Int)
  | _, [] => []
  | b, s :: r => stF b s ++ flA (b + 1) r
def flS (sts : List Int) : List (Int × Int × Int) := flA 0 sts

theorem ltI_200e (es : List (Int × Int × Int)) : ltI 200 (es.length : Int) = !leN es.length 200 := by
  cases h : leN es.length 200 with
  | true => have := leN_iff.1 h; exact ltI_f (by omega)
  | false => have := leN_not.1 h; exact ltI_t (by omega)

theorem specEv_ok (n k i v : Int) (ps : List Int) : spec_IsReplayEvent_0 n k i v ps = (isT n ps && evOk n ps (k, i, v)) := by
  simp only [spec_IsReplayEvent_0, spec_l01In_0, inR_eq, evOk, hasT]
  cases hT : isT n ps with
  | false => rfl
  | true =>
    have h1 := isT_iff.1 hT
    rw [wrap_i64 (by omega) (by omega), wrap_i64 (x := n - 1) (by omega) (by omega)]
    cases k == 0 <;> cases k == 1 <;> cases inR i 0 ((ps.length : Int) - 1) <;> cases inR i 0 (n - 1) <;> rfl

theorem implEv_ok (n k i v : Int) (ps : List Int) (hT : isT n ps = true) : loop_example_g00916_impl_Traffic_isEvent_q1603_0 n k i v ps = evOk n ps (k, i, v) ∧ loop_example_g00916_impl_Traffic_isEvent_q1603_1 k ps = true := by
  have h1 := isT_iff.1 hT
  have hl : leN ps.length 9223372036854775807 = true := leN_t (by omega)
  refine ⟨?_, by simp [loop_example_g00916_impl_Traffic_isEvent_q1603_1, allT, hl]⟩
  simp only [loop_example_g00916_impl_Traffic_isEvent_q1603_0, impl_within_0, inR_eq, evOk]
  rw [wrap_i64 (x := n - 1) (by omega) (by omega)]
  cases k == 0 <;> cases k == 1 <;> cases hasT ps i <;> cases inR i 0 (n - 1) <;> rfl

def f_spec_l25Code_l0 (y2 : Int) (y3 : List Int) (b : Int × (Int × Int)) : (Unit) → Nat ⊕ (Unit)
  | _ => (bif ((!spec_IsReplayEvent_0 y2 (Prod.fst ((b))) (Prod.fst (Prod.snd ((b)))) (Prod.snd (Prod.snd ((b)))) y3)) then (.inl 0) else (.inr ()))

def st_spec_l25Code_l0 (y1 : List (Int × (Int × Int))) (y2 : Int) (y3 : List Int) (i : Nat) : (Unit) → X_spec_l25Code_l0
  | _ => ((i : Int), y1, y2, y3)

def pr_spec_l25Code_l0 : X_spec_l25Code_l0 → Unit
  | (_, _, _, _) => ()

theorem w_spec_l25Code_l0 (y1 : List (Int × (Int × Int))) (y2 : Int) (y3 : List Int)  (hn : y1.length ≤ 9223372036854775807)  :
    lp_spec_l25Code_l0.fin ((0 : Int), y1, y2, y3) = true ∧ lp_spec_l25Code_l0.res ((0 : Int), y1, y2, y3) = ((walkL (f_spec_l25Code_l0 y2 y3) 1 y1 0 ()).1, (st_spec_l25Code_l0 y1 y2 y3) (walkL (f_spec_l25Code_l0 y2 y3) 1 y1 0 ()).2.1 (walkL (f_spec_l25Code_l0 y2 y3) 1 y1 0 ()).2.2) := by
  have key := lp_spec_l25Code_l0.along (st_spec_l25Code_l0 y1 y2 y3) pr_spec_l25Code_l0 (f_spec_l25Code_l0 y2 y3) 1 (fun _ _ => True) y1 () (by trivial) (by simp only [lp_spec_l25Code_l0, st_spec_l25Code_l0]; omega) (fun i b a hb hI => ?_) (fun a hI => ?_)
  · exact key
  · obtain ⟨⟩ := a
    have hlt := (List.getElem?_eq_some_iff.1 hb).1
    have hget : ∀ d, Option.getD y1[i]? d = b := fun d => by rw [hb]; rfl
    have hw := wrap64 hlt hn
    have hdec : ltI (i : Int) (y1.length : Int) = true := ltI_t (by omega)
    have hnn : leI (0 : Int) (i : Int) = true := leI_t (by omega)
    have hltd : ltN i y1.length = true := ltN_t hlt
    refine ⟨?_, ?_, ?_, ?_⟩
    · simp [spec_l25Code_l0_a0, spec_l25Code_l0_0, spec_l25Code_l0_1, spec_l25Code_l0_2, spec_l25Code_l0_3, spec_l25Code_l0_4, lt_spec_l25Code_l0, lp_spec_l25Code_l0, LT.nds, allT, st_spec_l25Code_l0, hdec, hnn, hltd, hget]
    · simp [spec_l25Code_l0_a0, spec_l25Code_l0_0, spec_l25Code_l0_1, spec_l25Code_l0_2, spec_l25Code_l0_3, spec_l25Code_l0_4, lt_spec_l25Code_l0, lp_spec_l25Code_l0, LT.each, st_spec_l25Code_l0, pr_spec_l25Code_l0, hw]
    · simp only [spec_l25Code_l0_a0, spec_l25Code_l0_0, spec_l25Code_l0_1, spec_l25Code_l0_2, spec_l25Code_l0_3, spec_l25Code_l0_4, lt_spec_l25Code_l0, lp_spec_l25Code_l0, LT.fn, st_spec_l25Code_l0, pr_spec_l25Code_l0, f_spec_l25Code_l0, Int.toNat_natCast, hdec, hnn, hltd, hget, cond_true, Bool.cond_self]
    · exact fun _ _ => trivial
  · obtain ⟨⟩ := a
    simp [spec_l25Code_l0_a0, spec_l25Code_l0_0, spec_l25Code_l0_1, spec_l25Code_l0_2, spec_l25Code_l0_3, spec_l25Code_l0_4, lt_spec_l25Code_l0, lp_spec_l25Code_l0, LT.out, st_spec_l25Code_l0]

def f_slices_IndexFunc_impl_ReplayEvent_q1601_l0 (y2 : Int) (y4 : List Int) (b : Int × (Int × Int)) : (Unit) → Nat ⊕ (Unit)
  | _ => (bif ((impl_replayCode_1_q1602_0 (Prod.fst ((b))) (Prod.fst (Prod.snd ((b)))) (Prod.snd (Prod.snd ((b)))) y2 y4)) then (.inl 0) else (.inr ()))

def st_slices_IndexFunc_impl_ReplayEvent_q1601_l0 (y2 : Int) (y3 : List (Int × (Int × Int))) (y4 : List Int) (i : Nat) : (Unit) → X_slices_IndexFunc_impl_ReplayEvent_q1601_l0
  | _ => ((i : Int), (↑(List.length y3) : Int), y2, y3, y4)

def pr_slices_IndexFunc_impl_ReplayEvent_q1601_l0 : X_slices_IndexFunc_impl_ReplayEvent_q1601_l0 → Unit
  | (_, _, _, _, _) => ()

theorem w_slices_IndexFunc_impl_ReplayEvent_q1601_l0 (y2 : Int) (y3 : List (Int × (Int × Int))) (y4 : List Int)  (hn : y3.length ≤ 9223372036854775807) (hT : isT y2 y4 = true) :
    lp_slices_IndexFunc_impl_ReplayEvent_q1601_l0.fin ((0 : Int), (↑(List.length y3) : Int), y2, y3, y4) = true ∧ lp_slices_IndexFunc_impl_ReplayEvent_q1601_l0.res ((0 : Int), (↑(List.length y3) : Int), y2, y3, y4) = ((walkL (f_slices_IndexFunc_impl_ReplayEvent_q1601_l0 y2 y4) 1 y3 0 ()).1, (st_slices_IndexFunc_impl_ReplayEvent_q1601_l0 y2 y3 y4) (walkL (f_slices_IndexFunc_impl_ReplayEvent_q1601_l0 y2 y4) 1 y3 0 ()).2.1 (walkL (f_slices_IndexFunc_impl_ReplayEvent_q1601_l0 y2 y4) 1 y3 0 ()).2.2) := by
  have key := lp_slices_IndexFunc_impl_ReplayEvent_q1601_l0.along (st_slices_IndexFunc_impl_ReplayEvent_q1601_l0 y2 y3 y4) pr_slices_IndexFunc_impl_ReplayEvent_q1601_l0 (f_slices_IndexFunc_impl_ReplayEvent_q1601_l0 y2 y4) 1 (fun _ _ => True) y3 () (by trivial) (by simp only [lp_slices_IndexFunc_impl_ReplayEvent_q1601_l0, st_slices_IndexFunc_impl_ReplayEvent_q1601_l0]; omega) (fun i b a hb hI => ?_) (fun a hI => ?_)
  · exact key
  · obtain ⟨⟩ := a
    have hlt := (List.getElem?_eq_some_iff.1 hb).1
    have hget : ∀ d, Option.getD y3[i]? d = b := fun d => by rw [hb]; rfl
    have hw := wrap64 hlt hn
    have hdec : ltI (i : Int) (y3.length : Int) = true := ltI_t (by omega)
    have hnn : leI (0 : Int) (i : Int) = true := leI_t (by omega)
    have hltd : ltN i y3.length = true := ltN_t hlt
    refine ⟨?_, ?_, ?_, ?_⟩
    · have hg2 : slices_IndexFunc_impl_ReplayEvent_q1601_l0_a0 (i : Int) y3 = b := by simp only [slices_IndexFunc_impl_ReplayEvent_q1601_l0_a0, Int.toNat_natCast]; exact hget _
      have h5 := (implEv_ok y2 b.1 b.2.1 b.2.2 y4 hT).2
      simp [slices_IndexFunc_impl_ReplayEvent_q1601_l0_0, slices_IndexFunc_impl_ReplayEvent_q1601_l0_1, slices_IndexFunc_impl_ReplayEvent_q1601_l0_2, slices_IndexFunc_impl_ReplayEvent_q1601_l0_3, slices_IndexFunc_impl_ReplayEvent_q1601_l0_4, lt_slices_IndexFunc_impl_ReplayEvent_q1601_l0, lp_slices_IndexFunc_impl_ReplayEvent_q1601_l0, LT.nds, allT, st_slices_IndexFunc_impl_ReplayEvent_q1601_l0, impl_replayCode_1_q1602_1, hg2, hdec, hnn, hltd, h5]
    · simp [slices_IndexFunc_impl_ReplayEvent_q1601_l0_a0, slices_IndexFunc_impl_ReplayEvent_q1601_l0_0, slices_IndexFunc_impl_ReplayEvent_q1601_l0_1, slices_IndexFunc_impl_ReplayEvent_q1601_l0_2, slices_IndexFunc_impl_ReplayEvent_q1601_l0_3, slices_IndexFunc_impl_ReplayEvent_q1601_l0_4, slices_IndexFunc_impl_ReplayEvent_q1601_l0_5, slices_IndexFunc_impl_ReplayEvent_q1601_l0_6, lt_slices_IndexFunc_impl_ReplayEvent_q1601_l0, lp_slices_IndexFunc_impl_ReplayEvent_q1601_l0, LT.each, st_slices_IndexFunc_impl_ReplayEvent_q1601_l0, pr_slices_IndexFunc_impl_ReplayEvent_q1601_l0, hw]
    · simp only [slices_IndexFunc_impl_ReplayEvent_q1601_l0_a0, slices_IndexFunc_impl_ReplayEvent_q1601_l0_0, slices_IndexFunc_impl_ReplayEvent_q1601_l0_1, slices_IndexFunc_impl_ReplayEvent_q1601_l0_2, slices_IndexFunc_impl_ReplayEvent_q1601_l0_3, slices_IndexFunc_impl_ReplayEvent_q1601_l0_4, slices_IndexFunc_impl_ReplayEvent_q1601_l0_5, slices_IndexFunc_impl_ReplayEvent_q1601_l0_6, lt_slices_IndexFunc_impl_ReplayEvent_q1601_l0, lp_slices_IndexFunc_impl_ReplayEvent_q1601_l0, LT.fn, st_slices_IndexFunc_impl_ReplayEvent_q1601_l0, pr_slices_IndexFunc_impl_ReplayEvent_q1601_l0, f_slices_IndexFunc_impl_ReplayEvent_q1601_l0, Int.toNat_natCast, hdec, hnn, hltd, hget, cond_true, Bool.cond_self]
    · exact fun _ _ => trivial
  · obtain ⟨⟩ := a
    simp [slices_IndexFunc_impl_ReplayEvent_q1601_l0_a0, slices_IndexFunc_impl_ReplayEvent_q1601_l0_0, slices_IndexFunc_impl_ReplayEvent_q1601_l0_1, slices_IndexFunc_impl_ReplayEvent_q1601_l0_2, slices_IndexFunc_impl_ReplayEvent_q1601_l0_3, slices_IndexFunc_impl_ReplayEvent_q1601_l0_4, slices_IndexFunc_impl_ReplayEvent_q1601_l0_5, slices_IndexFunc_impl_ReplayEvent_q1601_l0_6, lt_slices_IndexFunc_impl_ReplayEvent_q1601_l0, lp_slices_IndexFunc_impl_ReplayEvent_q1601_l0, LT.out, st_slices_IndexFunc_impl_ReplayEvent_q1601_l0]

theorem specCode_ok (n : Int) (ps : List Int) (es : List (Int × Int × Int)) : spec_l25Code_0 n ps es = rvPre n ps es ∧ spec_l25Code_1 n ps es = true := by
  simp only [spec_l25Code_0, spec_l25Code_1, spec_l25Code_a0, ltI_200e, rvPre]
  cases hT : isT n ps with
  | false => simp [allT]
  | true =>
    cases hl : leN es.length 200 with
    | false => simp [allT]
    | true =>
      have hl' := leN_iff.1 hl
      obtain ⟨w1, w2⟩ := w_spec_l25Code_l0 es n ps (by omega)
      rw [walk_stop (P := fun e => !evOk n ps e) (j := 0) (fun e => by simp only [f_spec_l25Code_l0, specEv_ok, hT, Bool.true_and])] at w2
      have e5 : (es.any fun e => !evOk n ps e) = !es.all (evOk n ps) := by simp [List.all_eq_not_any_not]
      rw [e5] at w2
      have e1 : Lp.fin lp_spec_l25Code_l0 (spec_l25Code_a1 n ps es) = true := w1
      have e2 : lp_spec_l25Code_l0.res (spec_l25Code_a1 n ps es) = _ := w2
      rw [e2, e1]
      cases es.all (evOk n ps) <;> simp [allT, Nat.beq]

theorem implCode_ok (n : Int) (ps : List Int) (es : List (Int × Int × Int)) : impl_replayCode_0 n ps es = rvPre n ps es ∧ impl_replayCode_1 n ps es = true := by
  simp only [impl_replayCode_0, impl_replayCode_1, impl_replayCode_a0, ltI_200e, rvPre]
  cases hT : isT n ps with
  | false => simp [allT]
  | true =>
    cases hl : leN es.length 200 with
    | false => simp [allT]
    | true =>
      have hl' := leN_iff.1 hl
      obtain ⟨w1, w2⟩ := w_slices_IndexFunc_impl_ReplayEvent_q1601_l0 n es ps (by omega) hT
      rw [walk_stop (P := fun e => !evOk n ps e) (j := 0) (fun e => by simp only [f_slices_IndexFunc_impl_ReplayEvent_q1601_l0, impl_replayCode_1_q1602_0, (implEv_ok n e.1 e.2.1 e.2.2 ps hT).1])] at w2
      have e5 : (es.any fun e => !evOk n ps e) = !es.all (evOk n ps) := by simp [List.all_eq_not_any_not]
      rw [e5] at w2
      have e1 : Lp.fin lp_slices_IndexFunc_impl_ReplayEvent_q1601_l0 (slices_IndexFunc_impl_ReplayEvent_q1601_a0 es n ps) = true := w1
      have e2 : lp_slices_IndexFunc_impl_ReplayEvent_q1601_l0.res (slices_IndexFunc_impl_ReplayEvent_q1601_a0 es n ps) = _ := w2
      simp only [slices_ContainsFunc_impl_ReplayEvent_q1600_0, slices_ContainsFunc_impl_ReplayEvent_q1600_2, slices_IndexFunc_impl_ReplayEvent_q1601_0, slices_IndexFunc_impl_ReplayEvent_q1601_2, slices_IndexFunc_impl_ReplayEvent_q1601_a1, e2, e1, st_slices_IndexFunc_impl_ReplayEvent_q1601_l0]
      cases es.all (evOk n ps) with
      | true =>
        have q : leI 0 (-1) = false := rfl
        simp [allT, Nat.beq, q]
      | false =>
        simp only [Bool.not_false, cond_true, Nat.beq, allT]
        rw [leI_t (by omega)]; simp

def N_spec_l25Code : List SV → List Entry → Option Out
  | [.one ⟨true, [.val (.int .i64 x0), .ref 0]⟩, .one ⟨false, [.ref 1]⟩], [.row false 2 (.int .i64) x1, .row false 129 (.pair (.int .i64) (.pair (.int .i64) (.int .i64))) x2] => some ⟨(.one ⟨false, [(.val (.int IntKind.i64 (rvPre x0 x1 x2)))]⟩), [(.row false 2 (CTy.int IntKind.i64) x1), (.row false 129 (CTy.pair (CTy.int IntKind.i64) (CTy.pair (CTy.int IntKind.i64) (CTy.int IntKind.i64))) x2)], [], []⟩
  | _, _ => none

def n_spec_l25Code : PF Try.prog := PF.alt p_spec_l25Code N_spec_l25Code (by
  intro args es o h hnd; unfold N_spec_l25Code at h; split at h
  · rename_i x0 x1 x2
    cases h
    have hh := specCode_ok x0 x1 x2
    obtain ⟨e0, en⟩ := hh
    exact altok rfl (nd_one en) (by simp only [e0] <;> rfl) rfl rfl
  · cases h)

def N_impl_replayCode : List SV → List Entry → Option Out
  | [.one ⟨true, [.val (.int .i64 x0), .ref 0]⟩, .one ⟨false, [.ref 1]⟩], [.row false 2 (.int .i64) x1, .row false 129 (.pair (.int .i64) (.pair (.int .i64) (.int .i64))) x2] => some ⟨(.one ⟨false, [(.val (.int IntKind.i64 (rvPre x0 x1 x2)))]⟩), [(.row false 2 (CTy.int IntKind.i64) x1), (.row false 129 (CTy.pair (CTy.int IntKind.i64) (CTy.pair (CTy.int IntKind.i64) (CTy.int IntKind.i64))) x2)], [], []⟩
  | _, _ => none

def n_impl_replayCode : PF Try.prog := PF.alt p_impl_replayCode N_impl_replayCode (by
  intro args es o h hnd; unfold N_impl_replayCode at h; split at h
  · rename_i x0 x1 x2
    cases h
    have hh := implCode_ok x0 x1 x2
    obtain ⟨e0, en⟩ := hh
    exact altok rfl (nd_one en) (by simp only [e0] <;> rfl) rfl rfl
  · cases h)

theorem stF_length (b s : Int) : (stF b s).length ≤ 2 := by
  unfold stF; cases s == 1 <;> cases s == 2 <;> cases s == 3 <;> simp

def fFl (s : Int) (a : Int × List (Int × Int × Int)) : Nat ⊕ (Int × List (Int × Int × Int)) := .inr (a.1 + 1, a.2 ++ stF a.1 s)

theorem fold_fl : ∀ (r : List Int) (a : Int × List (Int × Int × Int)), r.foldl (fun a s => (a.1 + 1, a.2 ++ stF a.1 s)) a = (a.1 + r.length, a.2 ++ flA a.1 r)
  | [], a => by simp [flA]
  | s :: r, a => by
    rw [List.foldl_cons, fold_fl r]
    simp only [flA, List.length_cons, List.append_assoc, Prod.mk.injEq, and_true]
    omega

theorem spec24_eq (b s : Int) : spec_l24Faults_0 b s = stF b s := rfl

theorem w_specFl (sts : List Int) (hl : sts.length ≤ 1000) : lp_spec_l25Faults_l0.fin ((0 : Int), sts, []) = true ∧ lp_spec_l25Faults_l0.res ((0 : Int), sts, []) = (0, ((sts.length : Nat) : Int), sts, flS sts) := by
  have key := lp_spec_l25Faults_l0.along (fun i a => ((i : Int), sts, a.2)) (fun x => (x.1, x.2.2)) fFl 0 (fun i a => a.1 = (i : Int) ∧ a.2.length ≤ 2 * i) sts ((0 : Int), []) ⟨rfl, by simp⟩ (by simp only [lp_spec_l25Faults_l0]; omega) (fun i s a hb hI => ?_) (fun a hI => ?_)
  · rw [walk_gather (f := fFl) (g := fun a s => (a.1 + 1, a.2 ++ stF a.1 s)) (fun b a => rfl), fold_fl] at key
    simpa [flS] using key
  · obtain ⟨j, acc⟩ := a
    obtain ⟨rfl, hA⟩ := hI
    simp only at hA
    have hlt := (List.getElem?_eq_some_iff.1 hb).1
    have hget : ∀ d, Option.getD sts[i]? d = s := fun d => by rw [hb]; rfl
    have hw := wrap64 hlt (by omega)
    have hdec : ltI (i : Int) (sts.length : Int) = true := ltI_t (by omega)
    have hnn : leI (0 : Int) (i : Int) = true := leI_t (by omega)
    have hltd : ltN i sts.length = true := ltN_t hlt
    have h2 := stF_length (i : Int) s
    have h3 : leN (acc.length + (stF (i : Int) s).length) 9223372036854775807 = true := leN_t (by omega)
    have h4 : leN ((acc.length + (stF (i : Int) s).length) * 24) 140737488355328 = true := leN_t (by omega)
    refine ⟨?_, ?_, ?_, ?_⟩
    · simp only [spec_l25Faults_l0_a0, spec_l25Faults_l0_0, spec_l25Faults_l0_1, spec_l25Faults_l0_2, spec_l25Faults_l0_3, spec_l25Faults_l0_4, spec_l25Faults_l0_5, spec_l25Faults_l0_6, lt_spec_l25Faults_l0, lp_spec_l25Faults_l0, LT.nds, allT, hdec, hnn, hltd, Int.toNat_natCast, hget, spec24_eq, h3, h4, cond_true, Bool.cond_self]
    · simp only [spec_l25Faults_l0_a0, spec_l25Faults_l0_0, spec_l25Faults_l0_1, spec_l25Faults_l0_2, spec_l25Faults_l0_3, spec_l25Faults_l0_4, spec_l25Faults_l0_5, spec_l25Faults_l0_6, lt_spec_l25Faults_l0, lp_spec_l25Faults_l0, LT.each, hdec, hw, Int.toNat_natCast, hget, spec24_eq, cond_true, and_self]
    · simp only [spec_l25Faults_l0_a0, spec_l25Faults_l0_0, spec_l25Faults_l0_1, spec_l25Faults_l0_2, spec_l25Faults_l0_3, spec_l25Faults_l0_4, spec_l25Faults_l0_5, spec_l25Faults_l0_6, lt_spec_l25Faults_l0, lp_spec_l25Faults_l0, LT.fn, hdec, hw, Int.toNat_natCast, hget, spec24_eq, cond_true, fFl]; try rfl
    · intro a' hf
      simp only [fFl, Sum.inr.injEq] at hf
      subst hf
      refine ⟨by simp, ?_⟩
      simp only [List.length_append]; omega
  · obtain ⟨j, acc⟩ := a
    simp [spec_l25Faults_l0_a0, spec_l25Faults_l0_0, spec_l25Faults_l0_1, spec_l25Faults_l0_2, spec_l25Faults_l0_3, spec_l25Faults_l0_4, spec_l25Faults_l0_5, spec_l25Faults_l0_6, lt_spec_l25Faults_l0, lp_spec_l25Faults_l0, LT.out]

theorem w_implFl (sts : List Int) (hl : sts.length ≤ 1000) : lp_impl_faultsOf_l0.fin ((0 : Int), (sts.length : Int), sts, []) = true ∧ lp_impl_faultsOf_l0.res ((0 : Int), (sts.length : Int), sts, []) = (0, ((sts.length : Nat) : Int), (sts.length : Int), sts, flS sts) := by
  have key := lp_impl_faultsOf_l0.along (fun i a => ((i : Int), (sts.length : Int), sts, a.2)) (fun x => (x.1, x.2.2.2)) fFl 0 (fun i a => a.1 = (i : Int) ∧ a.2.length ≤ 2 * i) sts ((0 : Int), []) ⟨rfl, by simp⟩ (by simp only [lp_impl_faultsOf_l0]; omega) (fun i s a hb hI => ?_) (fun a hI => ?_)
  · rw [walk_gather (f := fFl) (g := fun a s => (a.1 + 1, a.2 ++ stF a.1 s)) (fun b a => rfl), fold_fl] at key
    simpa [flS] using key
  · obtain ⟨j, acc⟩ := a
    obtain ⟨rfl, hA⟩ := hI
    simp only at hA
    have hlt := (List.getElem?_eq_some_iff.1 hb).1
    have hget : ∀ d, Option.getD sts[i]? d = s := fun d => by rw [hb]; rfl
    have hw := wrap64 hlt (by omega)
    have hdec : ltI (i : Int) (sts.length : Int) = true := ltI_t (by omega)
    have hnn : leI (0 : Int) (i : Int) = true := leI_t (by omega)
    have hltd : ltN i sts.length = true := ltN_t hlt
    have hA' : acc.length ≤ 2000 := by omega
    have hs : s = 1 ∨ s = 2 ∨ s = 3 ∨ ((s == 1) = false ∧ (s == 2) = false ∧ (s == 3) = false) := by simp; omega
    refine ⟨?_, ?_, ?_, ?_⟩
    · rcases hs with rfl | rfl | rfl | ⟨h1, h2, h3⟩
      · simp [impl_faultsOf_l0_a0, impl_faultsOf_l0_a1, impl_faultsOf_l0_a2, impl_faultsOf_l0_a3, impl_faultsOf_l0_a4, impl_faultsOf_l0_a5, impl_faultsOf_l0_a6, impl_faultsOf_l0_a7, impl_faultsOf_l0_a8, impl_faultsOf_l0_a9, impl_faultsOf_l0_0, impl_faultsOf_l0_1, impl_faultsOf_l0_2, impl_faultsOf_l0_3, impl_faultsOf_l0_4, impl_faultsOf_l0_5, impl_faultsOf_l0_6, impl_faultsOf_l0_7, impl_faultsOf_l0_8, impl_faultsOf_l0_9, impl_faultsOf_l0_10, impl_faultsOf_l0_11, impl_faultsOf_l0_12, impl_faultsOf_l0_13, impl_faultsOf_l0_14, impl_faultsOf_l0_15, impl_faultsOf_l0_16, impl_faultsOf_l0_17, impl_faultsOf_l0_18, impl_faultsOf_l0_19, impl_faultsOf_l0_20, impl_faultsOf_l0_21, impl_faultsOf_l0_22, impl_faultsOf_l0_23, impl_faultsOf_l0_24, impl_faultsOf_l0_25, impl_faultsOf_l0_26, impl_faultsOf_l0_27, impl_faultsOf_l0_28, lt_impl_faultsOf_l0, lp_impl_faultsOf_l0, LT.nds, allT, hdec, hnn, hltd, hget]; omega
      · simp [impl_faultsOf_l0_a0, impl_faultsOf_l0_a1, impl_faultsOf_l0_a2, impl_faultsOf_l0_a3, impl_faultsOf_l0_a4, impl_faultsOf_l0_a5, impl_faultsOf_l0_a6, impl_faultsOf_l0_a7, impl_faultsOf_l0_a8, impl_faultsOf_l0_a9, impl_faultsOf_l0_0, impl_faultsOf_l0_1, impl_faultsOf_l0_2, impl_faultsOf_l0_3, impl_faultsOf_l0_4, impl_faultsOf_l0_5, impl_faultsOf_l0_6, impl_faultsOf_l0_7, impl_faultsOf_l0_8, impl_faultsOf_l0_9, impl_faultsOf_l0_10, impl_faultsOf_l0_11, impl_faultsOf_l0_12, impl_faultsOf_l0_13, impl_faultsOf_l0_14, impl_faultsOf_l0_15, impl_faultsOf_l0_16, impl_faultsOf_l0_17, impl_faultsOf_l0_18, impl_faultsOf_l0_19, impl_faultsOf_l0_20, impl_faultsOf_l0_21, impl_faultsOf_l0_22, impl_faultsOf_l0_23, impl_faultsOf_l0_24, impl_faultsOf_l0_25, impl_faultsOf_l0_26, impl_faultsOf_l0_27, impl_faultsOf_l0_28, lt_impl_faultsOf_l0, lp_impl_faultsOf_l0, LT.nds, allT, hdec, hnn, hltd, hget]; omega
      · simp [impl_faultsOf_l0_a0, impl_faultsOf_l0_a1, impl_faultsOf_l0_a2, impl_faultsOf_l0_a3, impl_faultsOf_l0_a4, impl_faultsOf_l0_a5, impl_faultsOf_l0_a6, impl_faultsOf_l0_a7, impl_faultsOf_l0_a8, impl_faultsOf_l0_a9, impl_faultsOf_l0_0, impl_faultsOf_l0_1, impl_faultsOf_l0_2, impl_faultsOf_l0_3, impl_faultsOf_l0_4, impl_faultsOf_l0_5, impl_faultsOf_l0_6, impl_faultsOf_l0_7, impl_faultsOf_l0_8, impl_faultsOf_l0_9, impl_faultsOf_l0_10, impl_faultsOf_l0_11, impl_faultsOf_l0_12, impl_faultsOf_l0_13, impl_faultsOf_l0_14, impl_faultsOf_l0_15, impl_faultsOf_l0_16, impl_faultsOf_l0_17, impl_faultsOf_l0_18, impl_faultsOf_l0_19, impl_faultsOf_l0_20, impl_faultsOf_l0_21, impl_faultsOf_l0_22, impl_faultsOf_l0_23, impl_faultsOf_l0_24, impl_faultsOf_l0_25, impl_faultsOf_l0_26, impl_faultsOf_l0_27, impl_faultsOf_l0_28, lt_impl_faultsOf_l0, lp_impl_faultsOf_l0, LT.nds, allT, hdec, hnn, hltd, hget]; omega
      · simp [impl_faultsOf_l0_a0, impl_faultsOf_l0_a1, impl_faultsOf_l0_a2, impl_faultsOf_l0_a3, impl_faultsOf_l0_a4, impl_faultsOf_l0_a5, impl_faultsOf_l0_a6, impl_faultsOf_l0_a7, impl_faultsOf_l0_a8, impl_faultsOf_l0_a9, impl_faultsOf_l0_0, impl_faultsOf_l0_1, impl_faultsOf_l0_2, impl_faultsOf_l0_3, impl_faultsOf_l0_4, impl_faultsOf_l0_5, impl_faultsOf_l0_6, impl_faultsOf_l0_7, impl_faultsOf_l0_8, impl_faultsOf_l0_9, impl_faultsOf_l0_10, impl_faultsOf_l0_11, impl_faultsOf_l0_12, impl_faultsOf_l0_13, impl_faultsOf_l0_14, impl_faultsOf_l0_15, impl_faultsOf_l0_16, impl_faultsOf_l0_17, impl_faultsOf_l0_18, impl_faultsOf_l0_19, impl_faultsOf_l0_20, impl_faultsOf_l0_21, impl_faultsOf_l0_22, impl_faultsOf_l0_23, impl_faultsOf_l0_24, impl_faultsOf_l0_25, impl_faultsOf_l0_26, impl_faultsOf_l0_27, impl_faultsOf_l0_28, lt_impl_faultsOf_l0, lp_impl_faultsOf_l0, LT.nds, allT, hdec, hnn, hltd, hget, h1, h2, h3]
    · simp [impl_faultsOf_l0_a0, impl_faultsOf_l0_a1, impl_faultsOf_l0_a2, impl_faultsOf_l0_a3, impl_faultsOf_l0_a4, impl_faultsOf_l0_a5, impl_faultsOf_l0_a6, impl_faultsOf_l0_a7, impl_faultsOf_l0_a8, impl_faultsOf_l0_a9, impl_faultsOf_l0_0, impl_faultsOf_l0_1, impl_faultsOf_l0_2, impl_faultsOf_l0_3, impl_faultsOf_l0_4, impl_faultsOf_l0_5, impl_faultsOf_l0_6, impl_faultsOf_l0_7, impl_faultsOf_l0_8, impl_faultsOf_l0_9, impl_faultsOf_l0_10, impl_faultsOf_l0_11, impl_faultsOf_l0_12, impl_faultsOf_l0_13, impl_faultsOf_l0_14, impl_faultsOf_l0_15, impl_faultsOf_l0_16, impl_faultsOf_l0_17, impl_faultsOf_l0_18, impl_faultsOf_l0_19, impl_faultsOf_l0_20, impl_faultsOf_l0_21, impl_faultsOf_l0_22, impl_faultsOf_l0_23, impl_faultsOf_l0_24, impl_faultsOf_l0_25, impl_faultsOf_l0_26, impl_faultsOf_l0_27, impl_faultsOf_l0_28, lt_impl_faultsOf_l0, lp_impl_faultsOf_l0, LT.each, hw]
    · rcases hs with rfl | rfl | rfl | ⟨h1, h2, h3⟩
      · simp [impl_faultsOf_l0_a0, impl_faultsOf_l0_a1, impl_faultsOf_l0_a2, impl_faultsOf_l0_a3, impl_faultsOf_l0_a4, impl_faultsOf_l0_a5, impl_faultsOf_l0_a6, impl_faultsOf_l0_a7, impl_faultsOf_l0_a8, impl_faultsOf_l0_a9, impl_faultsOf_l0_0, impl_faultsOf_l0_1, impl_faultsOf_l0_2, impl_faultsOf_l0_3, impl_faultsOf_l0_4, impl_faultsOf_l0_5, impl_faultsOf_l0_6, impl_faultsOf_l0_7, impl_faultsOf_l0_8, impl_faultsOf_l0_9, impl_faultsOf_l0_10, impl_faultsOf_l0_11, impl_faultsOf_l0_12, impl_faultsOf_l0_13, impl_faultsOf_l0_14, impl_faultsOf_l0_15, impl_faultsOf_l0_16, impl_faultsOf_l0_17, impl_faultsOf_l0_18, impl_faultsOf_l0_19, impl_faultsOf_l0_20, impl_faultsOf_l0_21, impl_faultsOf_l0_22, impl_faultsOf_l0_23, impl_faultsOf_l0_24, impl_faultsOf_l0_25, impl_faultsOf_l0_26, impl_faultsOf_l0_27, impl_faultsOf_l0_28, lt_impl_faultsOf_l0, lp_impl_faultsOf_l0, LT.fn, hdec, hw, hget, fFl, stF]
      · simp [impl_faultsOf_l0_a0, impl_faultsOf_l0_a1, impl_faultsOf_l0_a2, impl_faultsOf_l0_a3, impl_faultsOf_l0_a4, impl_faultsOf_l0_a5, impl_faultsOf_l0_a6, impl_faultsOf_l0_a7, impl_faultsOf_l0_a8, impl_faultsOf_l0_a9, impl_faultsOf_l0_0, impl_faultsOf_l0_1, impl_faultsOf_l0_2, impl_faultsOf_l0_3, impl_faultsOf_l0_4, impl_faultsOf_l0_5, impl_faultsOf_l0_6, impl_faultsOf_l0_7, impl_faultsOf_l0_8, impl_faultsOf_l0_9, impl_faultsOf_l0_10, impl_faultsOf_l0_11, impl_faultsOf_l0_12, impl_faultsOf_l0_13, impl_faultsOf_l0_14, impl_faultsOf_l0_15, impl_faultsOf_l0_16, impl_faultsOf_l0_17, impl_faultsOf_l0_18, impl_faultsOf_l0_19, impl_faultsOf_l0_20, impl_faultsOf_l0_21, impl_faultsOf_l0_22, impl_faultsOf_l0_23, impl_faultsOf_l0_24, impl_faultsOf_l0_25, impl_faultsOf_l0_26, impl_faultsOf_l0_27, impl_faultsOf_l0_28, lt_impl_faultsOf_l0, lp_impl_faultsOf_l0, LT.fn, hdec, hw, hget, fFl, stF]
      · simp [impl_faultsOf_l0_a0, impl_faultsOf_l0_a1, impl_faultsOf_l0_a2, impl_faultsOf_l0_a3, impl_faultsOf_l0_a4, impl_faultsOf_l0_a5, impl_faultsOf_l0_a6, impl_faultsOf_l0_a7, impl_faultsOf_l0_a8, impl_faultsOf_l0_a9, impl_faultsOf_l0_0, impl_faultsOf_l0_1, impl_faultsOf_l0_2, impl_faultsOf_l0_3, impl_faultsOf_l0_4, impl_faultsOf_l0_5, impl_faultsOf_l0_6, impl_faultsOf_l0_7, impl_faultsOf_l0_8, impl_faultsOf_l0_9, impl_faultsOf_l0_10, impl_faultsOf_l0_11, impl_faultsOf_l0_12, impl_faultsOf_l0_13, impl_faultsOf_l0_14, impl_faultsOf_l0_15, impl_faultsOf_l0_16, impl_faultsOf_l0_17, impl_faultsOf_l0_18, impl_faultsOf_l0_19, impl_faultsOf_l0_20, impl_faultsOf_l0_21, impl_faultsOf_l0_22, impl_faultsOf_l0_23, impl_faultsOf_l0_24, impl_faultsOf_l0_25, impl_faultsOf_l0_26, impl_faultsOf_l0_27, impl_faultsOf_l0_28, lt_impl_faultsOf_l0, lp_impl_faultsOf_l0, LT.fn, hdec, hw, hget, fFl, stF]
      · simp [impl_faultsOf_l0_a0, impl_faultsOf_l0_a1, impl_faultsOf_l0_a2, impl_faultsOf_l0_a3, impl_faultsOf_l0_a4, impl_faultsOf_l0_a5, impl_faultsOf_l0_a6, impl_faultsOf_l0_a7, impl_faultsOf_l0_a8, impl_faultsOf_l0_a9, impl_faultsOf_l0_0, impl_faultsOf_l0_1, impl_faultsOf_l0_2, impl_faultsOf_l0_3, impl_faultsOf_l0_4, impl_faultsOf_l0_5, impl_faultsOf_l0_6, impl_faultsOf_l0_7, impl_faultsOf_l0_8, impl_faultsOf_l0_9, impl_faultsOf_l0_10, impl_faultsOf_l0_11, impl_faultsOf_l0_12, impl_faultsOf_l0_13, impl_faultsOf_l0_14, impl_faultsOf_l0_15, impl_faultsOf_l0_16, impl_faultsOf_l0_17, impl_faultsOf_l0_18, impl_faultsOf_l0_19, impl_faultsOf_l0_20, impl_faultsOf_l0_21, impl_faultsOf_l0_22, impl_faultsOf_l0_23, impl_faultsOf_l0_24, impl_faultsOf_l0_25, impl_faultsOf_l0_26, impl_faultsOf_l0_27, impl_faultsOf_l0_28, lt_impl_faultsOf_l0, lp_impl_faultsOf_l0, LT.fn, hdec, hw, hget, fFl, stF, h1, h2, h3]
    · intro a' hf
      simp only [fFl, Sum.inr.injEq] at hf
      subst hf
      have h2 := stF_length (i : Int) s
      refine ⟨by simp, ?_⟩
      simp only [List.length_append]; omega
  · obtain ⟨j, acc⟩ := a
    simp [impl_faultsOf_l0_a0, impl_faultsOf_l0_a1, impl_faultsOf_l0_a2, impl_faultsOf_l0_a3, impl_faultsOf_l0_a4, impl_faultsOf_l0_a5, impl_faultsOf_l0_a6, impl_faultsOf_l0_a7, impl_faultsOf_l0_a8, impl_faultsOf_l0_a9, impl_faultsOf_l0_0, impl_faultsOf_l0_1, impl_faultsOf_l0_2, impl_faultsOf_l0_3, impl_faultsOf_l0_4, impl_faultsOf_l0_5, impl_faultsOf_l0_6, impl_faultsOf_l0_7, impl_faultsOf_l0_8, impl_faultsOf_l0_9, impl_faultsOf_l0_10, impl_faultsOf_l0_11, impl_faultsOf_l0_12, impl_faultsOf_l0_13, impl_faultsOf_l0_14, impl_faultsOf_l0_15, impl_faultsOf_l0_16, impl_faultsOf_l0_17, impl_faultsOf_l0_18, impl_faultsOf_l0_19, impl_faultsOf_l0_20, impl_faultsOf_l0_21, impl_faultsOf_l0_22, impl_faultsOf_l0_23, impl_faultsOf_l0_24, impl_faultsOf_l0_25, impl_faultsOf_l0_26, impl_faultsOf_l0_27, impl_faultsOf_l0_28, lt_impl_faultsOf_l0, lp_impl_faultsOf_l0, LT.out]

theorem specFl_ok (sts : List Int) (h : leN sts.length 1000 = true) : spec_l25Faults_0 sts = flS sts ∧ spec_l25Faults_1 sts = true := by
  obtain ⟨w1, w2⟩ := w_specFl sts (leN_iff.1 h)
  simp only [spec_l25Faults_0, spec_l25Faults_1, spec_l25Faults_a0, w1, w2, allT, cond_true, and_self]

theorem implFl_ok (sts : List Int) (h : leN sts.length 1000 = true) : impl_faultsOf_0 sts = flS sts ∧ impl_faultsOf_1 sts = true := by
  obtain ⟨w1, w2⟩ := w_implFl sts (leN_iff.1 h)
  simp only [impl_faultsOf_0, impl_faultsOf_1, impl_faultsOf_a0, w1, w2, allT, cond_true, and_self]

def N_spec_l25Faults : List SV → List Entry → Option Out
  | [.one ⟨false, [.ref 0]⟩], [.row false 2 (.int .i64) x0] => some ⟨(.one ⟨false, [(.ref 1)]⟩), [(.row false 2 (CTy.int IntKind.i64) x0)], [(.row true 118 (CTy.pair (CTy.int IntKind.i64) (CTy.pair (CTy.int IntKind.i64) (CTy.int IntKind.i64))) (flS x0))], [leN x0.length 1000]⟩
  | _, _ => none

def n_spec_l25Faults : PF Try.prog := PF.alt p_spec_l25Faults N_spec_l25Faults (by
  intro args es o h hnd; unfold N_spec_l25Faults at h; split at h
  · rename_i x0
    cases h
    have hnd := nd_fst hnd
    have hh := specFl_ok x0 hnd
    obtain ⟨e0, en⟩ := hh
    exact altok rfl (nd_one en) rfl rfl (by simp only [e0] <;> rfl)
  · cases h)

def N_impl_faultsOf : List SV → List Entry → Option Out
  | [.one ⟨false, [.ref 0]⟩], [.row false 2 (.int .i64) x0] => some ⟨(.one ⟨false, [(.ref 1)]⟩), [(.row false 2 (CTy.int IntKind.i64) x0)], [(.row true 118 (CTy.pair (CTy.int IntKind.i64) (CTy.pair (CTy.int IntKind.i64) (CTy.int IntKind.i64))) (flS x0))], [leN x0.length 1000]⟩
  | _, _ => none

def n_impl_faultsOf : PF Try.prog := PF.alt p_impl_faultsOf N_impl_faultsOf (by
  intro args es o h hnd; unfold N_impl_faultsOf at h; split at h
  · rename_i x0
    cases h
    have hnd := nd_fst hnd
    have hh := implFl_ok x0 hnd
    obtain ⟨e0, en⟩ := hh
    exact altok rfl (nd_one en) rfl rfl (by simp only [e0] <;> rfl)
  · cases h)

theorem flA_in (n : Int) : ∀ (sts : List Int) (b : Int), 0 ≤ b → b + sts.length ≤ n → (flA b sts).length ≤ 2 * sts.length ∧ ∀ f ∈ flA b sts, fV n f = true
  | [], b, _, _ => by simp [flA]
  | s :: r, b, h0, h1 => by
    simp only [List.length_cons] at h1
    obtain ⟨a1, a2⟩ := flA_in n r (b + 1) (by omega) (by omega)
    have h2 := stF_length b s
    refine ⟨by simp only [flA, List.length_append, List.length_cons]; omega, fun f hf => ?_⟩
    simp only [flA, List.mem_append] at hf
    rcases hf with hf | hf
    · have hb0 : leI 0 b = true := leI_t h0
      have hb1 : ltI b n = true := ltI_t (by omega)
      simp only [stF] at hf
      have q : inR 0 0 1 = true := by decide
      have q1 : inR 1 0 1 = true := by decide
      cases h1 : s == 1 <;> cases h2 : s == 2 <;> cases h3 : s == 3 <;> rw [h1] at hf <;> (try rw [h2] at hf) <;> (try rw [h3] at hf) <;> simp at hf <;> (try rcases hf with rfl | rfl) <;> simp [fV, hb0, hb1, q, q1]
    · exact a2 f hf

theorem flS_in {n : Int} {sts : List Int} (hn : n ≤ 8) (h : (sts.length : Int) ≤ n) : inFs n (flS sts) = true := by
  obtain ⟨a1, a2⟩ := flA_in n sts 0 (by omega) (by omega)
  simp only [inFs, Bool.and_eq_true, leN_iff, List.all_eq_true]
  exact ⟨by show (flA 0 sts).length ≤ 1000; omega, a2⟩

end Go.SX

/- Traffic, in plain words: the program's moves. -/
import Derived.Test.YtjncnnpdaeociaaRi
namespace Go.SX
open Go.Proofs
set_option maxRecDepth 100000

theorem isSf_of {n : Int} {ps : List Int} (h : isT n ps = true) : isSf n ps = safeL n ps := by simp [isSf, h]

def f_slices_IndexFunc_int64_int64_q801_l0 (y4 : List Int) (b : Int) : (Unit) → Nat ⊕ (Unit)
  | _ => (bif ((impl_movesCode_1_q802_0 (b) y4)) then (.inl 0) else (.inr ()))

def st_slices_IndexFunc_int64_int64_q801_l0 (y2 : Int) (y3 : List Int) (y4 : List Int) (i : Nat) : (Unit) → X_slices_IndexFunc_int64_int64_q801_l0
  | _ => ((i : Int), (↑(List.length y3) : Int), y2, y3, y4)

def pr_slices_IndexFunc_int64_int64_q801_l0 : X_slices_IndexFunc_int64_int64_q801_l0 → Unit
  | (_, _, _, _, _) => ()

theorem w_slices_IndexFunc_int64_int64_q801_l0 (y2 : Int) (y3 : List Int) (y4 : List Int)  (hn : y3.length ≤ 9223372036854775807) (h4 : y4.length ≤ 9223372036854775807) :
    lp_slices_IndexFunc_int64_int64_q801_l0.fin ((0 : Int), (↑(List.length y3) : Int), y2, y3, y4) = true ∧ lp_slices_IndexFunc_int64_int64_q801_l0.res ((0 : Int), (↑(List.length y3) : Int), y2, y3, y4) = ((walkL (f_slices_IndexFunc_int64_int64_q801_l0 y4) 1 y3 0 ()).1, (st_slices_IndexFunc_int64_int64_q801_l0 y2 y3 y4) (walkL (f_slices_IndexFunc_int64_int64_q801_l0 y4) 1 y3 0 ()).2.1 (walkL (f_slices_IndexFunc_int64_int64_q801_l0 y4) 1 y3 0 ()).2.2) := by
  have key := lp_slices_IndexFunc_int64_int64_q801_l0.along (st_slices_IndexFunc_int64_int64_q801_l0 y2 y3 y4) pr_slices_IndexFunc_int64_int64_q801_l0 (f_slices_IndexFunc_int64_int64_q801_l0 y4) 1 (fun _ _ => True) y3 () (by trivial) (by simp only [lp_slices_IndexFunc_int64_int64_q801_l0, st_slices_IndexFunc_int64_int64_q801_l0]; omega) (fun i b a hb hI => ?_) (fun a hI => ?_)
  · exact key
  · obtain ⟨⟩ := a
    have hlt := (List.getElem?_eq_some_iff.1 hb).1
    have hget : ∀ d, Option.getD y3[i]? d = b := fun d => by rw [hb]; rfl
    have hw := wrap64 hlt hn
    have hdec : ltI (i : Int) (y3.length : Int) = true := ltI_t (by omega)
    have hnn : leI (0 : Int) (i : Int) = true := leI_t (by omega)
    have hltd : ltN i y3.length = true := ltN_t hlt
    refine ⟨?_, ?_, ?_, ?_⟩
    · simp [slices_IndexFunc_int64_int64_q801_l0_0, slices_IndexFunc_int64_int64_q801_l0_1, slices_IndexFunc_int64_int64_q801_l0_2, slices_IndexFunc_int64_int64_q801_l0_3, slices_IndexFunc_int64_int64_q801_l0_4, slices_IndexFunc_int64_int64_q801_l0_5, slices_IndexFunc_int64_int64_q801_l0_6, lt_slices_IndexFunc_int64_int64_q801_l0, lp_slices_IndexFunc_int64_int64_q801_l0, LT.nds, allT, st_slices_IndexFunc_int64_int64_q801_l0, hdec, hnn, hltd, hget, impl_movesCode_1_q802_1, h4]
    · simp [slices_IndexFunc_int64_int64_q801_l0_0, slices_IndexFunc_int64_int64_q801_l0_1, slices_IndexFunc_int64_int64_q801_l0_2, slices_IndexFunc_int64_int64_q801_l0_3, slices_IndexFunc_int64_int64_q801_l0_4, slices_IndexFunc_int64_int64_q801_l0_5, slices_IndexFunc_int64_int64_q801_l0_6, lt_slices_IndexFunc_int64_int64_q801_l0, lp_slices_IndexFunc_int64_int64_q801_l0, LT.each, st_slices_IndexFunc_int64_int64_q801_l0, pr_slices_IndexFunc_int64_int64_q801_l0, hw, impl_movesCode_1_q802_1, h4]
    · simp only [slices_IndexFunc_int64_int64_q801_l0_0, slices_IndexFunc_int64_int64_q801_l0_1, slices_IndexFunc_int64_int64_q801_l0_2, slices_IndexFunc_int64_int64_q801_l0_3, slices_IndexFunc_int64_int64_q801_l0_4, slices_IndexFunc_int64_int64_q801_l0_5, slices_IndexFunc_int64_int64_q801_l0_6, lt_slices_IndexFunc_int64_int64_q801_l0, lp_slices_IndexFunc_int64_int64_q801_l0, LT.fn, st_slices_IndexFunc_int64_int64_q801_l0, pr_slices_IndexFunc_int64_int64_q801_l0, f_slices_IndexFunc_int64_int64_q801_l0, Int.toNat_natCast, hdec, hnn, hltd, hget, cond_true, Bool.cond_self, impl_movesCode_1_q802_1, h4]
    · exact fun _ _ => trivial
  · obtain ⟨⟩ := a
    simp [slices_IndexFunc_int64_int64_q801_l0_0, slices_IndexFunc_int64_int64_q801_l0_1, slices_IndexFunc_int64_int64_q801_l0_2, slices_IndexFunc_int64_int64_q801_l0_3, slices_IndexFunc_int64_int64_q801_l0_4, slices_IndexFunc_int64_int64_q801_l0_5, slices_IndexFunc_int64_int64_q801_l0_6, lt_slices_IndexFunc_int64_int64_q801_l0, lp_slices_IndexFunc_int64_int64_q801_l0, LT.out, st_slices_IndexFunc_int64_int64_q801_l0]

def mcCode (n : Int) (ps ts : List Int) : Int := bif isT n ps then (bif leN ts.length 200 then (bif ts.all (hasT ps) then 0 else 2) else 3) else 1

theorem movesCode_ok (n : Int) (ps ts : List Int) : impl_movesCode_0 n ps ts = mcCode n ps ts ∧ impl_movesCode_1 n ps ts = true := by
  simp only [impl_movesCode_0, impl_movesCode_1, mcCode, ltI_200]
  cases hT : isT n ps with
  | false => simp [allT]
  | true =>
    cases hl : leN ts.length 200 with
    | false => simp [allT]
    | true =>
      have h4 := (isT_iff.1 hT).2.1
      have hl' := leN_iff.1 hl
      obtain ⟨w1, w2⟩ := w_slices_IndexFunc_int64_int64_q801_l0 n ts ps (by omega) (by omega)
      rw [walk_stop (P := fun t => !hasT ps t) (j := 0) (fun t => by simp only [f_slices_IndexFunc_int64_int64_q801_l0, impl_movesCode_1_q802_0])] at w2
      have e5 : (ts.any fun t => !hasT ps t) = !ts.all (hasT ps) := by simp [List.all_eq_not_any_not]
      rw [e5] at w2
      have e1 : slices_ContainsFunc_int64_int64_q800_0 ts n ps = !ts.all (hasT ps) := by
        simp only [slices_ContainsFunc_int64_int64_q800_0, slices_ContainsFunc_int64_int64_q800_1, slices_ContainsFunc_int64_int64_q800_2, slices_IndexFunc_int64_int64_q801_a0, slices_IndexFunc_int64_int64_q801_a1, slices_IndexFunc_int64_int64_q801_0, slices_IndexFunc_int64_int64_q801_1, slices_IndexFunc_int64_int64_q801_2, w2, st_slices_IndexFunc_int64_int64_q801_l0]
        cases ts.all (hasT ps) with
        | true => rfl
        | false => exact leI_t (Int.natCast_nonneg _)
      have e2 : slices_ContainsFunc_int64_int64_q800_2 ts n ps = true := by
        simp only [slices_ContainsFunc_int64_int64_q800_0, slices_ContainsFunc_int64_int64_q800_1, slices_ContainsFunc_int64_int64_q800_2, slices_IndexFunc_int64_int64_q801_a0, slices_IndexFunc_int64_int64_q801_a1, slices_IndexFunc_int64_int64_q801_0, slices_IndexFunc_int64_int64_q801_1, slices_IndexFunc_int64_int64_q801_2, w1, allT, cond_true]
      rw [e1, e2]
      cases ts.all (hasT ps) <;> simp [allT]

def f_impl_RunMoves_l0 (y3 : Int) (b : Int) : (List Int) → Nat ⊕ (List Int)
  | y4 => (bif ((!safeL y3 y4)) then (.inl 0) else (.inr ((movL y3 y4 ((b))))))

def st_impl_RunMoves_l0 (y2 : List Int) (y3 : Int) (i : Nat) : (List Int) → X_impl_RunMoves_l0
  | y4 => ((i : Int), (↑(List.length y2) : Int), y2, y3, y4)

def pr_impl_RunMoves_l0 : X_impl_RunMoves_l0 → List Int
  | (_, _, _, _, y4) => y4

theorem w_impl_RunMoves_l0 (y2 : List Int) (y3 : Int) (y4 : List Int) (hn : y2.length ≤ 9223372036854775807) (hT : isT y3 y4 = true) (ht : ∀ t ∈ y2, hasT y4 t = true) :
    lp_impl_RunMoves_l0.fin ((0 : Int), (↑(List.length y2) : Int), y2, y3, y4) = true ∧ lp_impl_RunMoves_l0.res ((0 : Int), (↑(List.length y2) : Int), y2, y3, y4) = ((walkL (f_impl_RunMoves_l0 y3) 1 y2 0 y4).1, (st_impl_RunMoves_l0 y2 y3) (walkL (f_impl_RunMoves_l0 y3) 1 y2 0 y4).2.1 (walkL (f_impl_RunMoves_l0 y3) 1 y2 0 y4).2.2) := by
  have key := lp_impl_RunMoves_l0.along (st_impl_RunMoves_l0 y2 y3) pr_impl_RunMoves_l0 (f_impl_RunMoves_l0 y3) 1 (fun _ a => isT y3 a = true ∧ a.length = y4.length) y2 y4 ⟨hT, rfl⟩ (by simp only [lp_impl_RunMoves_l0, st_impl_RunMoves_l0]; omega) (fun i b a hb hI => ?_) (fun a hI => ?_)
  · exact key
  · obtain y4 := a
    have hlt := (List.getElem?_eq_some_iff.1 hb).1
    have hget : ∀ d, Option.getD y2[i]? d = b := fun d => by rw [hb]; rfl
    have hw := wrap64 hlt hn
    have hdec : ltI (i : Int) (y2.length : Int) = true := ltI_t (by omega)
    have hnn : leI (0 : Int) (i : Int) = true := leI_t (by omega)
    have hltd : ltN i y2.length = true := ltN_t hlt
    refine ⟨?_, ?_, ?_, ?_⟩
    · have hm : mvOk y3 a b = true := mvOk_iff.2 ⟨hI.1, by have := ht b (List.mem_of_getElem? hb); rw [hasT_iff] at this ⊢; omega⟩
      simp [impl_RunMoves_l0_a0, impl_RunMoves_l0_0, impl_RunMoves_l0_1, impl_RunMoves_l0_2, impl_RunMoves_l0_3, impl_RunMoves_l0_4, impl_RunMoves_l0_5, impl_RunMoves_l0_6, impl_RunMoves_l0_7, impl_RunMoves_l0_8, lt_impl_RunMoves_l0, lp_impl_RunMoves_l0, LT.nds, allT, st_impl_RunMoves_l0, hdec, hnn, hltd, hget, hm, hI.1]
    · simp [impl_RunMoves_l0_a0, impl_RunMoves_l0_0, impl_RunMoves_l0_1, impl_RunMoves_l0_2, impl_RunMoves_l0_3, impl_RunMoves_l0_4, impl_RunMoves_l0_5, impl_RunMoves_l0_6, impl_RunMoves_l0_7, impl_RunMoves_l0_8, lt_impl_RunMoves_l0, lp_impl_RunMoves_l0, LT.each, st_impl_RunMoves_l0, pr_impl_RunMoves_l0, hw]
    · simp only [impl_RunMoves_l0_a0, impl_RunMoves_l0_0, impl_RunMoves_l0_1, impl_RunMoves_l0_2, impl_RunMoves_l0_3, impl_RunMoves_l0_4, impl_RunMoves_l0_5, impl_RunMoves_l0_6, impl_RunMoves_l0_7, impl_RunMoves_l0_8, lt_impl_RunMoves_l0, lp_impl_RunMoves_l0, LT.fn, st_impl_RunMoves_l0, pr_impl_RunMoves_l0, f_impl_RunMoves_l0, Int.toNat_natCast, hdec, hnn, hltd, hget, cond_true, Bool.cond_self]
    · intro a' hf; simp only [f_impl_RunMoves_l0] at hf; cases hs : safeL y3 a <;> rw [hs] at hf <;> simp at hf; subst hf; exact ⟨isT_mov hI.1 b, by rw [movL_length]; exact hI.2⟩
  · obtain y4 := a
    simp [impl_RunMoves_l0_a0, impl_RunMoves_l0_0, impl_RunMoves_l0_1, impl_RunMoves_l0_2, impl_RunMoves_l0_3, impl_RunMoves_l0_4, impl_RunMoves_l0_5, impl_RunMoves_l0_6, impl_RunMoves_l0_7, impl_RunMoves_l0_8, lt_impl_RunMoves_l0, lp_impl_RunMoves_l0, LT.out, st_impl_RunMoves_l0]

theorem walk_run2 (n : Int) : ∀ (ts : List Int) (i : Nat) (ps : List Int), isT n ps = true → (walkL (f_impl_RunMoves_l0 n) 1 ts i ps).2.2 = runM n ts ps
  | [], i, ps, _ => rfl
  | t :: r, i, ps, h => by
    simp only [walkL, f_impl_RunMoves_l0, runM, isSf_of h]
    cases safeL n ps with
    | true => exact walk_run2 n r (i + 1) _ (isT_mov h t)
    | false => rfl

theorem runM_isT (n : Int) : ∀ (ts ps : List Int), isT n ps = true → isT n (runM n ts ps) = true
  | [], ps, h => h
  | t :: r, ps, h => by
    simp only [runM]
    cases isSf n ps with
    | true => exact runM_isT n r _ (isT_mov h t)
    | false => exact h

theorem implRun_ok (n : Int) (ps ts : List Int) : impl_RunMoves_0 n ps ts = rmN n ps ts ∧ impl_RunMoves_1 n ps ts = rmCode n ps ts ∧ impl_RunMoves_2 n ps ts = rmP n ps ts ∧ impl_RunMoves_3 n ps ts = true := by
  obtain ⟨m1, m2⟩ := movesCode_ok n ps ts
  simp only [impl_RunMoves_0, impl_RunMoves_1, impl_RunMoves_2, impl_RunMoves_3, impl_RunMoves_a0, impl_RunMoves_a4, impl_RunMoves_a5, impl_RunMoves_a6, Bool.cond_self, m1, m2, mcCode, rmN, rmP, rmCode, rmOk]
  cases hT : isT n ps with
  | false => simp [allT]
  | true =>
    cases hl : leN ts.length 200 with
    | false => simp [allT]
    | true =>
      cases ha : ts.all (hasT ps) with
      | false => simp [allT]
      | true =>
        have h4 := (isT_iff.1 hT).2.1
        have hl' := leN_iff.1 hl
        obtain ⟨v1, v2⟩ := w_impl_RunMoves_l0 ts n ps (by omega) hT (fun t ht => List.all_eq_true.1 ha t ht)
        have e2 : impl_RunMoves_a3 n ps ts = runM n ts ps := by
          simp only [impl_RunMoves_a3, impl_RunMoves_a1, v2, st_impl_RunMoves_l0]
          exact walk_run2 n ts 0 ps hT
        have e3 : Lp.fin lp_impl_RunMoves_l0 (impl_RunMoves_a1 n ps ts) = true := v1
        have e4 : loop_example_g00916_impl_Traffic_clone_0 ps = true := by
          simp [loop_example_g00916_impl_Traffic_clone_0, allT]; omega
        have e5 := runM_isT n ts ps hT
        simp only [e2, e3, e4, e5, isSf_of e5, allT]
        cases safeL n (runM n ts ps) <;> simp

def N_impl_RunMoves : List SV → List Entry → Option Out
  | [.one ⟨true, [.val (.int .i64 x0), .ref 0]⟩, .one ⟨false, [.ref 1]⟩], [.row false 2 (.int .i64) x1, .row false 2 (.int .i64) x2] => some ⟨(.tup [⟨true, [(.val (.int IntKind.i64 (rmN x0 x1 x2))), (.ref 2)]⟩, ⟨false, [(.val (.int IntKind.i64 (rmCode x0 x1 x2)))]⟩]), [(.row false 2 (CTy.int IntKind.i64) x1), (.row false 2 (CTy.int IntKind.i64) x2)], [(.row true 2 (CTy.int IntKind.i64) (rmP x0 x1 x2))], []⟩
  | _, _ => none

def n_impl_RunMoves : PF Try.prog := PF.alt p_impl_RunMoves N_impl_RunMoves (by
  intro args es o h hnd; unfold N_impl_RunMoves at h; split at h
  · rename_i x0 x1 x2
    cases h
    have hh := implRun_ok x0 x1 x2
    obtain ⟨e0, e1, e2, en⟩ := hh
    exact altok rfl (nd_one en) (by simp only [e0, e1] <;> rfl) rfl (by simp only [e2] <;> rfl)
  · cases h)

end Go.SX

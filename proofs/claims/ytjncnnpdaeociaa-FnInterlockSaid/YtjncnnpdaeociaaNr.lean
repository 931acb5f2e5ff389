/- Replays, controlled runs, tolerated faults, in plain words. -/
import Derived.Test.YtjncnnpdaeociaaRr
namespace Go.SX
open Go.Proofs
set_option maxRecDepth 100000

theorem trL_last (n : Int) : ∀ (ts ps : List Int), (trL n ts ps)[ts.length]? = some (endL n ts ps)
  | [], ps => rfl
  | t :: ts, ps => by simp only [trL, List.length_cons, List.getElem?_cons_succ]; exact trL_last n ts _

theorem ctOk_ok {n : Int} {ps : List Int} {fs : List (Int × Int × Int)} {ts : List Int} (h : ctOk n ps fs ts = true) : isT n ps = true ∧ ts.length ≤ 200 ∧ okFs n fs = true ∧ (∀ t ∈ ts, hasT ps t = true) ∧ okL n fs ts ps = true := by
  simp only [ctOk, ctCode] at h
  cases h1 : isT n ps with
  | false => simp [h1, eqI] at h
  | true =>
    cases h2 : leN ts.length 200 with
    | false => simp [h1, h2, eqI] at h
    | true =>
      cases h3 : okFs n fs with
      | false => simp [h1, h2, h3, eqI] at h
      | true =>
        cases h4 : ts.all (hasT ps) with
        | false => simp only [h1, h2, h3, h4, eqI, Bool.and_false, cond_true, cond_false] at h; cases h
        | true =>
          cases h5 : okL n fs ts ps with
          | false => simp only [h1, h2, h3, h4, h5, eqI, Bool.and_true, cond_true, cond_false] at h; cases h
          | true => exact ⟨rfl, leN_iff.1 h2, rfl, List.all_eq_true.1 h4, rfl⟩

theorem implCtRun_ok (n : Int) (ps : List Int) (fs : List (Int × Int × Int)) (ts : List Int) (hn : leN fs.length 9223372036854775807 = true) :
    impl_ControlledRun_0 n ps fs ts = ctN n ps fs ts ∧ impl_ControlledRun_1 n ps fs ts = ctCode n ps fs ts ∧ impl_ControlledRun_2 n ps fs ts = ctP n ps fs ts ∧ impl_ControlledRun_3 n ps fs ts = true := by
  simp only [impl_ControlledRun_0, impl_ControlledRun_1, impl_ControlledRun_2, impl_ControlledRun_3, impl_ControlledRun_a0, impl_ControlledRun_a1, hn]
  cases hg : ctOk n ps fs ts with
  | false =>
    have h1 : (ctCode n ps fs ts != 0) = true := by simp only [ctOk] at hg; simpa using eqI_not.1 hg
    simp [h1, ctN, ctP, hg, allT]
  | true =>
    have h1 : (ctCode n ps fs ts != 0) = false := by simp only [ctOk] at hg; simpa using eqI_iff.1 hg
    have h0 : ctCode n ps fs ts = 0 := by simpa using h1
    have h2 := trL_length n ts ps
    have h3 := trL_last n ts ps
    have l1 : leI 0 (ts.length : Int) = true := leI_t (by omega)
    have l2 : ltI (ts.length : Int) (((trL n ts ps).length : Nat) : Int) = true := ltI_t (by omega)
    have l3 : ltN ts.length (trL n ts ps).length = true := ltN_t (by omega)
    simp [h1, h0, ctN, ctP, ctL, hg, allT, h3, l1, l2, l3]
    exact ⟨rfl, rfl⟩

def N_impl_ControlledRun : List SV → List Entry → Option Out
  | [.one ⟨true, [.val (.int .i64 x0), .ref 0]⟩, .one ⟨false, [.ref 1]⟩, .one ⟨false, [.ref 2]⟩], [.row false 2 (.int .i64) x1, .row false 118 (.pair (.int .i64) (.pair (.int .i64) (.int .i64))) x2, .row false 2 (.int .i64) x3] => some ⟨(.tup [⟨true, [(.val (.int IntKind.i64 (ctN x0 x1 x2 x3))), (.ref 3)]⟩, ⟨false, [(.val (.int IntKind.i64 (ctCode x0 x1 x2 x3)))]⟩]), [(.row false 2 (CTy.int IntKind.i64) x1), (.row false 118 (CTy.pair (CTy.int IntKind.i64) (CTy.pair (CTy.int IntKind.i64) (CTy.int IntKind.i64))) x2), (.row false 2 (CTy.int IntKind.i64) x3)], [(.row false 2 (CTy.int IntKind.i64) (ctP x0 x1 x2 x3))], [leN x2.length 9223372036854775807]⟩
  | _, _ => none

def n_impl_ControlledRun : PF Try.prog := PF.alt p_impl_ControlledRun N_impl_ControlledRun (by
  intro args es o h hnd; unfold N_impl_ControlledRun at h; split at h
  · rename_i x0 x1 x2 x3
    cases h
    have hnd := nd_fst hnd
    have hh := implCtRun_ok x0 x1 x2 x3 hnd
    obtain ⟨e0, e1, e2, en⟩ := hh
    exact altok rfl (nd_one en) (by simp only [e0, e1] <;> rfl) rfl (by simp only [e2] <;> rfl)
  · cases h)

/-! ### Members of lists; faults that are tolerated -/

def hasI (x : Int) (l : List Int) : Bool := l.any fun v => v == x

theorem likeT_ok (n m : Int) (ps qs : List Int) (hn : leN ps.length 9223372036854775807 = true) : laws_likeTraffic9_0 n m ps qs = eqT n m ps qs ∧ laws_likeTraffic9_1 n m ps = true := by
  simp only [laws_likeTraffic9_0, laws_likeTraffic9_1, eqT, hn, allT, Bool.or_true, cond_true, and_true]
  cases n == m <;> rfl

def N_laws_likeTraffic9 : List SV → List Entry → Option Out
  | [.one ⟨true, [.val (.int .i64 x0), .ref 0]⟩, .one ⟨true, [.val (.int .i64 x1), .ref 1]⟩], [.row false 2 (.int .i64) x2, .row false 2 (.int .i64) x3] => some ⟨(.one ⟨false, [(.val (.bool (eqT x0 x1 x2 x3)))]⟩), [(.row false 2 (CTy.int IntKind.i64) x2), (.row false 2 (CTy.int IntKind.i64) x3)], [], [leN x2.length 9223372036854775807]⟩
  | _, _ => none

def n_laws_likeTraffic9 : PF Try.prog := PF.alt p_laws_likeTraffic9 N_laws_likeTraffic9 (by
  intro args es o h hnd; unfold N_laws_likeTraffic9 at h; split at h
  · rename_i x0 x1 x2 x3
    cases h
    have hnd := nd_fst hnd
    have hh := likeT_ok x0 x1 x2 x3 hnd
    obtain ⟨e0, en⟩ := hh
    exact altok rfl (nd_one en) (by simp only [e0] <;> rfl) rfl rfl
  · cases h)

def f_slices_Index_int64_int64_l0 (y2 : Int) (b : Int) : (Unit) → Nat ⊕ (Unit)
  | _ => (bif ((y2 == b)) then (.inl 0) else (.inr ()))

def st_slices_Index_int64_int64_l0 (y2 : Int) (y3 : List Int) (i : Nat) : (Unit) → X_slices_Index_int64_int64_l0
  | _ => ((i : Int), (↑(List.length y3) : Int), y2, y3)

def pr_slices_Index_int64_int64_l0 : X_slices_Index_int64_int64_l0 → Unit
  | (_, _, _, _) => ()

theorem w_slices_Index_int64_int64_l0 (y2 : Int) (y3 : List Int)  (hn : y3.length ≤ 9223372036854775807)  :
    lp_slices_Index_int64_int64_l0.fin ((0 : Int), (↑(List.length y3) : Int), y2, y3) = true ∧ lp_slices_Index_int64_int64_l0.res ((0 : Int), (↑(List.length y3) : Int), y2, y3) = ((walkL (f_slices_Index_int64_int64_l0 y2) 1 y3 0 ()).1, (st_slices_Index_int64_int64_l0 y2 y3) (walkL (f_slices_Index_int64_int64_l0 y2) 1 y3 0 ()).2.1 (walkL (f_slices_Index_int64_int64_l0 y2) 1 y3 0 ()).2.2) := by
  have key := lp_slices_Index_int64_int64_l0.along (st_slices_Index_int64_int64_l0 y2 y3) pr_slices_Index_int64_int64_l0 (f_slices_Index_int64_int64_l0 y2) 1 (fun _ _ => True) y3 () (by trivial) (by simp only [lp_slices_Index_int64_int64_l0, st_slices_Index_int64_int64_l0]; omega) (fun i b a hb hI => ?_) (fun a hI => ?_)
  · exact key
  · obtain ⟨⟩ := a
    have hlt := (List.getElem?_eq_some_iff.1 hb).1
    have hget : ∀ d, Option.getD y3[i]? d = b := fun d => by rw [hb]; rfl
    have hw := wrap64 hlt hn
    have hdec : ltI (i : Int) (y3.length : Int) = true := ltI_t (by omega)
    have hnn : leI (0 : Int) (i : Int) = true := leI_t (by omega)
    have hltd : ltN i y3.length = true := ltN_t hlt
    refine ⟨?_, ?_, ?_, ?_⟩
    · simp [slices_Index_int64_int64_l0_0, slices_Index_int64_int64_l0_1, slices_Index_int64_int64_l0_2, slices_Index_int64_int64_l0_3, slices_Index_int64_int64_l0_4, slices_Index_int64_int64_l0_5, lt_slices_Index_int64_int64_l0, lp_slices_Index_int64_int64_l0, LT.nds, allT, st_slices_Index_int64_int64_l0, hdec, hnn, hltd, hget]
    · simp [slices_Index_int64_int64_l0_0, slices_Index_int64_int64_l0_1, slices_Index_int64_int64_l0_2, slices_Index_int64_int64_l0_3, slices_Index_int64_int64_l0_4, slices_Index_int64_int64_l0_5, lt_slices_Index_int64_int64_l0, lp_slices_Index_int64_int64_l0, LT.each, st_slices_Index_int64_int64_l0, pr_slices_Index_int64_int64_l0, hw]
    · simp only [slices_Index_int64_int64_l0_0, slices_Index_int64_int64_l0_1, slices_Index_int64_int64_l0_2, slices_Index_int64_int64_l0_3, slices_Index_int64_int64_l0_4, slices_Index_int64_int64_l0_5, lt_slices_Index_int64_int64_l0, lp_slices_Index_int64_int64_l0, LT.fn, st_slices_Index_int64_int64_l0, pr_slices_Index_int64_int64_l0, f_slices_Index_int64_int64_l0, Int.toNat_natCast, hdec, hnn, hltd, hget, cond_true, Bool.cond_self]
    · exact fun _ _ => trivial
  · obtain ⟨⟩ := a
    simp [slices_Index_int64_int64_l0_0, slices_Index_int64_int64_l0_1, slices_Index_int64_int64_l0_2, slices_Index_int64_int64_l0_3, slices_Index_int64_int64_l0_4, slices_Index_int64_int64_l0_5, lt_slices_Index_int64_int64_l0, lp_slices_Index_int64_int64_l0, LT.out, st_slices_Index_int64_int64_l0]

theorem containsI_ok (x : Int) (l : List Int) (hn : l.length ≤ 9223372036854775807) : slices_Contains_int64_int64_0 x l = hasI x l ∧ slices_Contains_int64_int64_1 x l = true := by
  obtain ⟨w1, w2⟩ := w_slices_Index_int64_int64_l0 x l hn
  rw [walk_stop (f := f_slices_Index_int64_int64_l0 x) (P := fun v => x == v) (j := 0) (fun v => rfl)] at w2
  have e : (fun v => x == v) = fun v : Int => v == x := funext fun v => BEq.comm
  rw [e] at w2
  simp only [slices_Contains_int64_int64_0, slices_Contains_int64_int64_1, slices_Index_int64_int64_0, slices_Index_int64_int64_1, slices_Index_int64_int64_a0, w1, w2, allT, hasI]
  refine ⟨?_, rfl⟩
  cases l.any fun v => v == x with
  | false => rfl
  | true => exact leI_t (Int.natCast_nonneg _)

/-- No two faults say of one block that it is clear. -/
def tolA : List (Int × Int × Int) → List Int → Bool
  | [], _ => true
  | f :: r, a => bif f.2.2 == 0 then !hasI f.1 a && tolA r (a ++ [f.1]) else tolA r a
def tolF (fs : List (Int × Int × Int)) : Bool := tolA fs []

def f_impl_areTolerated_l0  (b : Int × (Int × Int)) : (List Int) → Nat ⊕ (List Int)
  | y3 => (bif (((Prod.snd (Prod.snd ((b))) == (0 : Int)))) then (bif ((slices_Contains_int64_int64_0 (Prod.fst ((b))) y3)) then (.inl 0) else (.inr ((y3 ++ [Prod.fst ((b))])))) else (.inr y3))

def st_impl_areTolerated_l0 (y2 : List (Int × (Int × Int))) (i : Nat) : (List Int) → X_impl_areTolerated_l0
  | y3 => ((i : Int), (↑(List.length y2) : Int), y2, y3)

def pr_impl_areTolerated_l0 : X_impl_areTolerated_l0 → List Int
  | (_, _, _, y3) => y3

theorem w_impl_areTolerated_l0 (y2 : List (Int × (Int × Int))) (y3 : List Int) (hn : y2.length ≤ 9223372036854775807) (h8 : y2.length ≤ 1000) (h0 : y3 = []) :
    lp_impl_areTolerated_l0.fin ((0 : Int), (↑(List.length y2) : Int), y2, y3) = true ∧ lp_impl_areTolerated_l0.res ((0 : Int), (↑(List.length y2) : Int), y2, y3) = ((walkL (f_impl_areTolerated_l0) 1 y2 0 y3).1, (st_impl_areTolerated_l0 y2) (walkL (f_impl_areTolerated_l0) 1 y2 0 y3).2.1 (walkL (f_impl_areTolerated_l0) 1 y2 0 y3).2.2) := by
  have key := lp_impl_areTolerated_l0.along (st_impl_areTolerated_l0 y2) pr_impl_areTolerated_l0 (f_impl_areTolerated_l0) 1 (fun i a => a.length ≤ i) y2 y3 (by subst h0; simp) (by simp only [lp_impl_areTolerated_l0, st_impl_areTolerated_l0]; omega) (fun i b a hb hI => ?_) (fun a hI => ?_)
  · exact key
  · obtain y3 := a
    have hlt := (List.getElem?_eq_some_iff.1 hb).1
    have hget : ∀ d, Option.getD y2[i]? d = b := fun d => by rw [hb]; rfl
    have hw := wrap64 hlt hn
    have hdec : ltI (i : Int) (y2.length : Int) = true := ltI_t (by omega)
    have hnn : leI (0 : Int) (i : Int) = true := leI_t (by omega)
    have hltd : ltN i y2.length = true := ltN_t hlt
    refine ⟨?_, ?_, ?_, ?_⟩
    · have hg2 : impl_areTolerated_l0_a0 (i : Int) y2 = b := by simp only [impl_areTolerated_l0_a0, Int.toNat_natCast]; exact hget _
      have hc := (containsI_ok b.1 a (by omega)).2
      simp [impl_areTolerated_l0_a0, impl_areTolerated_l0_a1, impl_areTolerated_l0_0, impl_areTolerated_l0_1, impl_areTolerated_l0_2, impl_areTolerated_l0_3, impl_areTolerated_l0_4, impl_areTolerated_l0_5, impl_areTolerated_l0_6, impl_areTolerated_l0_7, impl_areTolerated_l0_8, impl_areTolerated_l0_9, impl_areTolerated_l0_10, lt_impl_areTolerated_l0, lp_impl_areTolerated_l0, LT.nds, allT, st_impl_areTolerated_l0, hdec, hnn, hltd, hget, hc]
      exact .inr (by omega)
    · simp [impl_areTolerated_l0_a0, impl_areTolerated_l0_a1, impl_areTolerated_l0_0, impl_areTolerated_l0_1, impl_areTolerated_l0_2, impl_areTolerated_l0_3, impl_areTolerated_l0_4, impl_areTolerated_l0_5, impl_areTolerated_l0_6, impl_areTolerated_l0_7, impl_areTolerated_l0_8, impl_areTolerated_l0_9, impl_areTolerated_l0_10, lt_impl_areTolerated_l0, lp_impl_areTolerated_l0, LT.each, st_impl_areTolerated_l0, pr_impl_areTolerated_l0, hw]
    · simp only [impl_areTolerated_l0_a0, impl_areTolerated_l0_a1, impl_areTolerated_l0_0, impl_areTolerated_l0_1, impl_areTolerated_l0_2, impl_areTolerated_l0_3, impl_areTolerated_l0_4, impl_areTolerated_l0_5, impl_areTolerated_l0_6, impl_areTolerated_l0_7, impl_areTolerated_l0_8, impl_areTolerated_l0_9, impl_areTolerated_l0_10, lt_impl_areTolerated_l0, lp_impl_areTolerated_l0, LT.fn, st_impl_areTolerated_l0, pr_impl_areTolerated_l0, f_impl_areTolerated_l0, Int.toNat_natCast, hdec, hnn, hltd, hget, cond_true, Bool.cond_self]
    · intro a' hf; simp only [f_impl_areTolerated_l0] at hf; cases hz : b.2.2 == 0 <;> rw [hz] at hf <;> simp at hf <;> (try (cases hc : slices_Contains_int64_int64_0 b.1 a <;> rw [hc] at hf <;> simp at hf)) <;> subst hf <;> (try simp) <;> omega
  · obtain y3 := a
    simp [impl_areTolerated_l0_a0, impl_areTolerated_l0_a1, impl_areTolerated_l0_0, impl_areTolerated_l0_1, impl_areTolerated_l0_2, impl_areTolerated_l0_3, impl_areTolerated_l0_4, impl_areTolerated_l0_5, impl_areTolerated_l0_6, impl_areTolerated_l0_7, impl_areTolerated_l0_8, impl_areTolerated_l0_9, impl_areTolerated_l0_10, lt_impl_areTolerated_l0, lp_impl_areTolerated_l0, LT.out, st_impl_areTolerated_l0]

theorem walk_tol (N : Nat) : ∀ (fs : List (Int × Int × Int)) (i : Nat) (a : List Int), a.length + fs.length ≤ 9223372036854775807 → ∃ m b, walkL f_impl_areTolerated_l0 1 fs i a = (bif tolA fs a then 1 else 0, m, b)
  | [], i, a, _ => ⟨i, a, rfl⟩
  | f :: r, i, a, h => by
    simp only [List.length_cons] at h
    simp only [walkL, f_impl_areTolerated_l0, tolA]
    cases hz : f.2.2 == 0 with
    | false => exact walk_tol N r (i + 1) a (by omega)
    | true =>
      simp only [cond_true, (containsI_ok f.1 a (by omega)).1]
      cases hh : hasI f.1 a with
      | true => exact ⟨i, a, rfl⟩
      | false => exact walk_tol N r (i + 1) (a ++ [f.1]) (by simp; omega)

theorem implTol_ok (n : Int) (fs : List (Int × Int × Int)) (hn : leN fs.length 9223372036854775807 = true) :
    impl_AreTolerated_0 n fs = (inR n 2 8 && (okFs n fs && tolF fs)) ∧ impl_AreTolerated_1 n fs = true := by
  have hb : impl_isBlockCount_0 n = inR n 2 8 := by simp only [impl_isBlockCount_0, impl_within_0, inR_eq]
  simp only [impl_AreTolerated_0, impl_AreTolerated_1, impl_AreFaults_0, impl_AreFaults_1, hb, hn, tolF]
  cases h1 : inR n 2 8 with
  | false => simp [allT]
  | true =>
    cases h2 : okFs n fs with
    | false => simp [allT]
    | true =>
      have h3 := (okFs_in (inR_iff.1 h1) h2).1
      obtain ⟨w1, w2⟩ := w_impl_areTolerated_l0 fs [] (by omega) (by omega) rfl
      obtain ⟨m, b, e⟩ := walk_tol 0 fs 0 [] (by simp; omega)
      rw [e] at w2
      have e1 : Lp.fin lp_impl_areTolerated_l0 (impl_areTolerated_a0 fs) = true := w1
      have e2 : lp_impl_areTolerated_l0.res (impl_areTolerated_a0 fs) = _ := w2
      simp only [impl_areTolerated_0, impl_areTolerated_1, e1, e2, allT]
      cases tolA fs [] <;> simp [Nat.beq]

def N_impl_AreTolerated : List SV → List Entry → Option Out
  | [.one ⟨false, [.val (.int .i64 x0)]⟩, .one ⟨false, [.ref 0]⟩], [.row false 118 (.pair (.int .i64) (.pair (.int .i64) (.int .i64))) x1] => some ⟨(.one ⟨false, [(.val (.bool (inR x0 2 8 && (okFs x0 x1 && tolF x1))))]⟩), [(.row false 118 (CTy.pair (CTy.int IntKind.i64) (CTy.pair (CTy.int IntKind.i64) (CTy.int IntKind.i64))) x1)], [], [leN x1.length 9223372036854775807]⟩
  | _, _ => none

def n_impl_AreTolerated : PF Try.prog := PF.alt p_impl_AreTolerated N_impl_AreTolerated (by
  intro args es o h hnd; unfold N_impl_AreTolerated at h; split at h
  · rename_i x0 x1
    cases h
    have hnd := nd_fst hnd
    have hh := implTol_ok x0 x1 hnd
    obtain ⟨e0, en⟩ := hh
    exact altok rfl (nd_one en) (by simp only [e0] <;> rfl) rfl rfl
  · cases h)

end Go.SX

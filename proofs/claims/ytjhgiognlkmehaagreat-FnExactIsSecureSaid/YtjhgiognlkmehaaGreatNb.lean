/- Traffic, in plain words: moves and counts. -/
import Derived.Test.YtjhgiognlkmehaaGreatRb
namespace Go.SX
open Go.Proofs
set_option maxRecDepth 100000

def mvOk (n : Int) (ps : List Int) (t : Int) : Bool := isT n ps && hasT ps t

theorem mvOk_iff {n : Int} {ps : List Int} {t : Int} : mvOk n ps t = true ↔ isT n ps = true ∧ hasT ps t = true := by simp [mvOk]

theorem mov_facts {n : Int} {ps : List Int} {t : Int} (h : mvOk n ps t = true) : IntKind.i64.wrap (3 * n) = 3 * n ∧ IntKind.i64.wrap (ps[t.toNat]?.getD 0 + 1) = ps[t.toNat]?.getD 0 + 1 ∧ neI (3 * n) 0 = true ∧
    leI 0 t = true ∧ ltI t ps.length = true ∧ ltN t.toNat ps.length = true ∧ leN ps.length 1048576 = true ∧ leN 1 ps.length = true := by
  obtain ⟨hT, ht⟩ := mvOk_iff.1 h
  obtain ⟨h1, h2, h3⟩ := isT_iff.1 hT
  have h4 := hasT_iff.1 ht
  have hlt : t.toNat < ps.length := by omega
  have hg : ps[t.toNat]?.getD 0 = ps[t.toNat] := by rw [List.getElem?_eq_getElem hlt]; rfl
  have h5 := h3 _ (List.getElem_mem hlt)
  rw [hg]
  exact ⟨wrap_i64 (by omega) (by omega), wrap_i64 (by omega) (by omega), neI_t (by omega), leI_t h4.1, ltI_t h4.2, ltN_t hlt, leN_t (by omega), leN_t h2.1⟩

/-! ### Traffics copied, compared, marked -/

theorem toT_ok (ps : List Int) (h : leN ps.length 1048576 = true) : laws_toTraffic_0 ps = true := by simp only [laws_toTraffic_0, allT, h, cond_true]

def N_laws_toTraffic : List SV → List Entry → Option Out
  | [.one ⟨true, [.val (.int .i64 x0), .ref 0]⟩], [.row false 2 (.int .i64) x1] => some ⟨(.one ⟨true, [(.val (.int IntKind.i64 x0)), (.ref 1)]⟩), [(.row false 2 (CTy.int IntKind.i64) x1)], [(.row true 2 (CTy.int IntKind.i64) x1)], [leN x1.length 1048576]⟩
  | _, _ => none

def n_laws_toTraffic : PF Tryz.prog := PF.alt p_laws_toTraffic N_laws_toTraffic (by
  intro args es o h hnd; unfold N_laws_toTraffic at h; split at h
  · rename_i x0 x1
    cases h
    have hnd := nd_fst hnd
    have hh := toT_ok x1 hnd
    have en := hh
    exact altok rfl (nd_one en) rfl rfl rfl
  · cases h)

def eqT (n m : Int) (ps qs : List Int) : Bool := n == m && eqL ps qs

theorem eqT_ok (n m : Int) (ps qs : List Int) (h : leN ps.length 9223372036854775807 = true) : laws_eqTraffic_0 n m ps qs = eqT n m ps qs ∧ laws_eqTraffic_1 n m ps = true := by
  simp only [laws_eqTraffic_0, laws_eqTraffic_1, allT, h, eqT, bne]
  cases n == m <;> cases eqL ps qs <;> simp

def N_laws_eqTraffic : List SV → List Entry → Option Out
  | [.one ⟨true, [.val (.int .i64 x0), .ref 0]⟩, .one ⟨true, [.val (.int .i64 x1), .ref 1]⟩], [.row false 2 (.int .i64) x2, .row false 2 (.int .i64) x3] => some ⟨(.one ⟨false, [(.val (.bool (eqT x0 x1 x2 x3)))]⟩), [(.row false 2 (CTy.int IntKind.i64) x2), (.row false 2 (CTy.int IntKind.i64) x3)], [], [leN x2.length 9223372036854775807]⟩
  | _, _ => none

def n_laws_eqTraffic : PF Tryz.prog := PF.alt p_laws_eqTraffic N_laws_eqTraffic (by
  intro args es o h hnd; unfold N_laws_eqTraffic at h; split at h
  · rename_i x0 x1 x2 x3
    cases h
    have hnd := nd_fst hnd
    have hh := eqT_ok x0 x1 x2 x3 hnd
    obtain ⟨e0, en⟩ := hh
    exact altok rfl (nd_one en) (by simp only [e0] <;> rfl) rfl rfl
  · cases h)

theorem szT_ok (k : Int) (ps : List Int) (h : (leN ps.length 9223372036854775807 && (leI (-1) k && leI k 1048576)) = true) : laws_szTraffic_0 k ps = szV k ps ∧ laws_szTraffic_1 k ps = true := by
  simp only [laws_szTraffic_0, laws_szTraffic_1, allT, h, cond_true, and_true]
  cases hs : ltI (szV k ps) 0 with
  | false => rfl
  | true =>
    simp only [szV] at hs ⊢
    cases hq : ltI (k - (ps.length : Int)) 0 with
    | true => rfl
    | false => rw [hq, cond_false] at hs; rw [hs] at hq; cases hq

def N_laws_szTraffic : List SV → List Entry → Option Out
  | [.one ⟨true, [.val (.int .i64 _x0), .ref 0]⟩, .one ⟨false, [.val (.int .i64 x1)]⟩], [.row false 2 (.int .i64) x2] => some ⟨(.one ⟨false, [(.val (.int IntKind.i64 (szV x1 x2)))]⟩), [(.row false 2 (CTy.int IntKind.i64) x2)], [], [leN x2.length 9223372036854775807 && (leI (-1) x1 && leI x1 1048576)]⟩
  | _, _ => none

def n_laws_szTraffic : PF Tryz.prog := PF.alt p_laws_szTraffic N_laws_szTraffic (by
  intro args es o h hnd; unfold N_laws_szTraffic at h; split at h
  · rename_i _x0 x1 x2
    cases h
    have hnd := nd_fst hnd
    have hh := szT_ok x1 x2 hnd
    obtain ⟨e0, en⟩ := hh
    exact altok rfl (nd_one en) (by simp only [e0] <;> rfl) rfl rfl
  · cases h)

/-! ### Counts -/

def f_spec_l10Count_l0 (y1 : Int) (y3 : Int) (b : Int) : (Int) → Nat ⊕ (Int)
  | y2 => (.inr ((bif usesB y3 ((b)) y1 then IntKind.wrap IntKind.i64 (y2 + (1 : Int)) else y2)))

def st_spec_l10Count_l0 (y1 : Int) (y3 : Int) (y4 : List Int) (i : Nat) : (Int) → X_spec_l10Count_l0
  | y2 => ((i : Int), y1, y2, y3, y4)

def pr_spec_l10Count_l0 : X_spec_l10Count_l0 → Int
  | (_, _, y2, _, _) => y2

theorem w_spec_l10Count_l0 (y1 : Int) (y3 : Int) (y4 : List Int) (y2 : Int) (hn : y4.length ≤ 9223372036854775807) (hT : ∀ p ∈ y4, okP y3 p = true) (h4 : y4.length ≤ 4) (h2 : y2 = 0) :
    lp_spec_l10Count_l0.fin ((0 : Int), y1, y2, y3, y4) = true ∧ lp_spec_l10Count_l0.res ((0 : Int), y1, y2, y3, y4) = ((walkL (f_spec_l10Count_l0 y1 y3) 0 y4 0 y2).1, (st_spec_l10Count_l0 y1 y3 y4) (walkL (f_spec_l10Count_l0 y1 y3) 0 y4 0 y2).2.1 (walkL (f_spec_l10Count_l0 y1 y3) 0 y4 0 y2).2.2) := by
  have key := lp_spec_l10Count_l0.along (st_spec_l10Count_l0 y1 y3 y4) pr_spec_l10Count_l0 (f_spec_l10Count_l0 y1 y3) 0 (fun i a => 0 ≤ a ∧ a ≤ i) y4 y2 (by omega) (by simp only [lp_spec_l10Count_l0, st_spec_l10Count_l0]; omega) (fun i b a hb hI => ?_) (fun a hI => ?_)
  · exact key
  · obtain y2 := a
    have hlt := (List.getElem?_eq_some_iff.1 hb).1
    have hget : ∀ d, Option.getD y4[i]? d = b := fun d => by rw [hb]; rfl
    have hw := wrap64 hlt hn
    have hdec : ltI (i : Int) (y4.length : Int) = true := ltI_t (by omega)
    have hnn : leI (0 : Int) (i : Int) = true := leI_t (by omega)
    have hltd : ltN i y4.length = true := ltN_t hlt
    refine ⟨?_, ?_, ?_, ?_⟩
    · simp [spec_l10Count_l0_a0, spec_l10Count_l0_0, spec_l10Count_l0_1, spec_l10Count_l0_2, spec_l10Count_l0_3, spec_l10Count_l0_4, spec_l10Count_l0_5, lt_spec_l10Count_l0, lp_spec_l10Count_l0, LT.nds, allT, st_spec_l10Count_l0, hdec, hnn, hltd, hget, hT b (List.mem_of_getElem? hb)]
    · simp [spec_l10Count_l0_a0, spec_l10Count_l0_0, spec_l10Count_l0_1, spec_l10Count_l0_2, spec_l10Count_l0_3, spec_l10Count_l0_4, spec_l10Count_l0_5, lt_spec_l10Count_l0, lp_spec_l10Count_l0, LT.each, st_spec_l10Count_l0, pr_spec_l10Count_l0, hw, hT b (List.mem_of_getElem? hb)]
    · simp only [spec_l10Count_l0_a0, spec_l10Count_l0_0, spec_l10Count_l0_1, spec_l10Count_l0_2, spec_l10Count_l0_3, spec_l10Count_l0_4, spec_l10Count_l0_5, lt_spec_l10Count_l0, lp_spec_l10Count_l0, LT.fn, st_spec_l10Count_l0, pr_spec_l10Count_l0, f_spec_l10Count_l0, Int.toNat_natCast, hdec, hget, cond_true]
    · intro a' hf; simp only [f_spec_l10Count_l0, Sum.inr.injEq] at hf; subst hf; cases usesB y3 b y1 <;> simp only [cond_true, cond_false] <;> (try rw [wrap_i64 (by omega) (by omega)]) <;> omega
  · obtain y2 := a
    simp [spec_l10Count_l0_a0, spec_l10Count_l0_0, spec_l10Count_l0_1, spec_l10Count_l0_2, spec_l10Count_l0_3, spec_l10Count_l0_4, spec_l10Count_l0_5, lt_spec_l10Count_l0, lp_spec_l10Count_l0, LT.out, st_spec_l10Count_l0]

theorem cnt_fold (n b : Int) : ∀ (ps : List Int) (a : Int), 0 ≤ a → a + ps.length ≤ 100 → ps.foldl (fun a p => bif usesB n p b then IntKind.wrap IntKind.i64 (a + (1 : Int)) else a) a = a + (cntB n ps b : Int)
  | [], a, _, _ => by simp [cntB]
  | p :: ps, a, h0, h1 => by
    simp only [List.length_cons] at h1
    simp only [List.foldl_cons, cntB, List.countP_cons]
    cases hu : usesB n p b with
    | true =>
      rw [cond_true, wrap_i64 (by omega) (by omega), cnt_fold n b ps (a + 1) (by omega) (by omega)]
      simp only [cntB]
      simp; omega
    | false =>
      rw [cond_false, cnt_fold n b ps a h0 (by omega)]
      simp [cntB]

theorem count_ok (n b : Int) (ps : List Int) (h : isT n ps = true) : spec_l10Count_0 n b ps = (cntB n ps b : Int) ∧ spec_l10Count_1 n b ps = true := by
  have h2 := (isT_iff.1 h).2.1
  obtain ⟨w1, w2⟩ := w_spec_l10Count_l0 b n ps 0 (by omega) (fun p hp => isT_okP h hp) h2.2 rfl
  rw [walk_gather (f := f_spec_l10Count_l0 b n) (g := fun a p => bif usesB n p b then IntKind.wrap IntKind.i64 (a + (1 : Int)) else a) (fun p a => rfl), cnt_fold n b ps 0 (by omega) (by omega)] at w2
  refine ⟨?_, ?_⟩
  · simp only [spec_l10Count_a0, spec_l10Count_0, spec_l10Count_1, w2, st_spec_l10Count_l0]; omega
  · simp only [spec_l10Count_a0, spec_l10Count_0, spec_l10Count_1, w1, allT, cond_true]

def N_spec_l10Count : List SV → List Entry → Option Out
  | [.one ⟨true, [.val (.int .i64 x0), .ref 0]⟩, .one ⟨false, [.val (.int .i64 x1)]⟩], [.row false 2 (.int .i64) x2] => some ⟨(.one ⟨false, [(.val (.int IntKind.i64 ((cntB x0 x2 x1 : Int))))]⟩), [(.row false 2 (CTy.int IntKind.i64) x2)], [], [isT x0 x2]⟩
  | _, _ => none

def n_spec_l10Count : PF Tryz.prog := PF.alt p_spec_l10Count N_spec_l10Count (by
  intro args es o h hnd; unfold N_spec_l10Count at h; split at h
  · rename_i x0 x1 x2
    cases h
    have hnd := nd_fst hnd
    have hh := count_ok x0 x1 x2 hnd
    obtain ⟨e0, en⟩ := hh
    exact altok rfl (nd_one en) (by simp only [e0] <;> rfl) rfl rfl
  · cases h)

end Go.SX

/- Replays, in plain words: what events lead to. -/
import Derived.Test.YtjncnnpdaeociaaRq
namespace Go.SX
open Go.Proofs
set_option maxRecDepth 100000

/-- An event is possible. -/
def rvB (n : Int) (s : List Int × List Int) (e : Int × Int × Int) : Bool :=
  bif e.1 == 0 then okMv n (flS s.2) s.1 e.2.1 else (s.2[e.2.1.toNat]?.getD 0) == (bif e.2.2 == 3 then 1 else 0)
def rvN (n : Int) (s : List Int × List Int) (e : Int × Int × Int) : List Int × List Int :=
  bif e.1 == 0 then (movL n s.1 e.2.1, s.2) else (s.1, s.2.set e.2.1.toNat e.2.2)
/-- All events are possible. -/
def rvOk (n : Int) : List (Int × Int × Int) → List Int × List Int → Bool
  | [], _ => true
  | e :: r, s => rvB n s e && rvOk n r (rvN n s e)
/-- The places before, between and behind events. -/
def rvTr (n : Int) : List (Int × Int × Int) → List Int × List Int → List (List Int)
  | [], s => [s.1]
  | e :: r, s => s.1 :: rvTr n r (rvN n s e)
def rvEnd (n : Int) (es : List (Int × Int × Int)) (s : List Int × List Int) : List Int × List Int := es.foldl (rvN n) s
def rv0 (n : Int) (ps : List Int) : List Int × List Int := (ps, List.replicate n.toNat 0)
def rvCode (n : Int) (ps : List Int) (es : List (Int × Int × Int)) : Int :=
  bif eqI (rvPre n ps es) 0 then (bif rvOk n es (rv0 n ps) then 0 else 5) else rvPre n ps es
def rvGood (n : Int) (ps : List Int) (es : List (Int × Int × Int)) : Bool := eqI (rvCode n ps es) 0
def rvNn (n : Int) (ps : List Int) (es : List (Int × Int × Int)) : Int := bif rvGood n ps es then n else 0
def rvF (n : Int) (ps : List Int) (es : List (Int × Int × Int)) : Int := bif rvGood n ps es then fstL n (rvTr n es (rv0 n ps)) 0 (-1) else 0
def rvP (n : Int) (ps : List Int) (es : List (Int × Int × Int)) : List Int := bif rvGood n ps es then (rvEnd n es (rv0 n ps)).1 else []
def rvS (n : Int) (ps : List Int) (es : List (Int × Int × Int)) : List Int := bif rvGood n ps es then (rvEnd n es (rv0 n ps)).2 else []
def rvL (n : Int) (ps : List Int) (es : List (Int × Int × Int)) : List (Int × List Int) := bif rvGood n ps es then (rvTr n es (rv0 n ps)).map fun p => (n, p) else []

theorem evOk_cases {n : Int} {ps : List Int} {k i v : Int} (h : evOk n ps (k, i, v) = true) : (k = 0 ∧ hasT ps i = true ∧ v = 0) ∨ (k = 1 ∧ (0 ≤ i ∧ i ≤ n - 1) ∧ (1 ≤ v ∧ v ≤ 3)) := by
  simp only [evOk] at h
  cases h0 : k == 0 with
  | true =>
    rw [h0] at h
    simp only [cond_true, Bool.and_eq_true, beq_iff_eq] at h
    exact .inl ⟨by simpa using h0, h.1, h.2⟩
  | false =>
    rw [h0] at h
    cases h1 : k == 1 with
    | true =>
      rw [h1] at h
      simp only [cond_true, cond_false, Bool.and_eq_true, inR_iff] at h
      exact .inr ⟨by simpa using h1, h.1, h.2⟩
    | false => rw [h1] at h; simp at h

theorem rvPre_ok {n : Int} {ps : List Int} {es : List (Int × Int × Int)} (h : eqI (rvPre n ps es) 0 = true) : isT n ps = true ∧ es.length ≤ 200 ∧ ∀ e ∈ es, evOk n ps e = true := by
  simp only [rvPre] at h
  cases hT : isT n ps with
  | false => rw [hT] at h; simp [eqI] at h
  | true =>
    cases hl : leN es.length 200 with
    | false => rw [hT, hl] at h; simp [eqI] at h
    | true =>
      cases ha : es.all (evOk n ps) with
      | false => rw [hT, hl, ha] at h; simp [eqI] at h
      | true => exact ⟨rfl, leN_iff.1 hl, List.all_eq_true.1 ha⟩

theorem hasT_len {ps qs : List Int} {t : Int} (h : hasT ps t = true) (hl : qs.length = ps.length) : hasT qs t = true := by
  have := hasT_iff.1 h; exact hasT_iff.2 (by omega)

def fE (n : Int) (e : Int × Int × Int) (a : Int × Int × List Int × List Int) : Nat ⊕ (Int × Int × List Int × List Int) :=
  bif rvB n (a.2.2.1, a.2.2.2) e then .inr (IntKind.i64.wrap (a.1 + 1), updF n a.1 a.2.2.1 a.2.1, (rvN n (a.2.2.1, a.2.2.2) e).1, (rvN n (a.2.2.1, a.2.2.2) e).2) else .inl (bif e.1 == 1 then 1 else 2)

theorem same6r (y1 : Int) (y6 : List Int) : spec_l25Run_l0_a0 y1 y6 = y6 := by
  unfold spec_l25Run_l0_a0; cases (ltI y1 0 && true) <;> rfl

theorem w_specRv (n y5 : Int) (ps y7 : List Int) (es : List (Int × Int × Int)) (sts : List Int) (hT : isT n ps = true) (hl : es.length ≤ 200) (he : ∀ e ∈ es, evOk n ps e = true) (hs : (sts.length : Int) = n) (f0 : Int) :
    lp_spec_l25Run_l0.fin ((0 : Int), f0, es, n, sts, y5, ps, y7) = true ∧ lp_spec_l25Run_l0.res ((0 : Int), f0, es, n, sts, y5, ps, y7) =
      ((walkL (fE n) 0 es 0 (0, f0, ps, sts)).1, ((walkL (fE n) 0 es 0 (0, f0, ps, sts)).2.2.1, (walkL (fE n) 0 es 0 (0, f0, ps, sts)).2.2.2.1, es, n, (walkL (fE n) 0 es 0 (0, f0, ps, sts)).2.2.2.2.2, y5, (walkL (fE n) 0 es 0 (0, f0, ps, sts)).2.2.2.2.1, y7)) := by
  have key := lp_spec_l25Run_l0.along (fun _ a => (a.1, a.2.1, es, n, a.2.2.2, y5, a.2.2.1, y7)) (fun x => (x.1, x.2.1, x.2.2.2.2.2.2.1, x.2.2.2.2.1)) (fE n) 0 (fun i a => a.1 = (i : Int) ∧ isT n a.2.2.1 = true ∧ a.2.2.1.length = ps.length ∧ (a.2.2.2.length : Int) = n) es (0, f0, ps, sts) ⟨rfl, hT, rfl, hs⟩ (by simp only [lp_spec_l25Run_l0]; omega) (fun i t a hb hI => ?_) (fun a hI => ?_)
  · exact key
  · obtain ⟨j, f, qs, ss⟩ := a
    obtain ⟨rfl, hQ, hq, hS⟩ := hI
    simp only at hQ hq hS
    have hn8 := (isT_iff.1 hQ).1
    have hlt := (List.getElem?_eq_some_iff.1 hb).1
    have hget : ∀ d, Option.getD es[i]? d = t := fun d => by rw [hb]; rfl
    have hg2 : spec_l25Run_l0_a1 (i : Int) es = t := by simp only [spec_l25Run_l0_a1, Int.toNat_natCast]; exact hget _
    have hw := wrap64 hlt (by omega)
    have hle : leI (i : Int) (es.length : Int) = true := leI_t (by omega)
    have hne : ((i : Int) == (es.length : Int)) = false := by simp; omega
    have hdec : ltI (i : Int) (es.length : Int) = true := ltI_t (by omega)
    have hnn : leI (0 : Int) (i : Int) = true := leI_t (by omega)
    have hltd : ltN i es.length = true := ltN_t hlt
    have hF : inFs n (flS ss) = true := flS_in (by omega) (by omega)
    have hsl : leN ss.length 1000 = true := leN_t (by omega)
    obtain ⟨k, t, v⟩ := t
    rcases evOk_cases (he _ (List.mem_of_getElem? hb)) with ⟨rfl, ht, rfl⟩ | ⟨rfl, ht, hv⟩
    · have hh := hasT_len ht hq
      have hp := permOk_of (fs := flS ss) hQ hF hh
      have hm : mvOk n qs t = true := mvOk_iff.2 ⟨hQ, hh⟩
      refine ⟨?_, ?_, ?_, ?_⟩
      · simp [spec_l25Run_l0_a0, spec_l25Run_l0_a1, spec_l25Run_l0_a2, spec_l25Run_l0_a3, spec_l25Run_l0_a4, spec_l25Run_l0_a5, spec_l25Run_l0_0, spec_l25Run_l0_1, spec_l25Run_l0_2, spec_l25Run_l0_3, spec_l25Run_l0_4, spec_l25Run_l0_5, spec_l25Run_l0_6, spec_l25Run_l0_7, spec_l25Run_l0_8, spec_l25Run_l0_9, spec_l25Run_l0_10, spec_l25Run_l0_11, spec_l25Run_l0_12, spec_l25Run_l0_13, spec_l25Run_l0_14, spec_l25Run_l0_15, spec_l25Run_l0_16, spec_l25Run_l0_17, spec_l25Run_l0_18, spec_l25Run_l0_19, spec_l25Run_l0_20, spec_l25Run_l0_21, spec_l25Run_l0_22, lt_spec_l25Run_l0, lp_spec_l25Run_l0, LT.nds, allT, same6r, hle, hne, hdec, hnn, hltd, hget, hp, hm, hQ, hF, hsl]
      · simp [spec_l25Run_l0_a0, spec_l25Run_l0_a1, spec_l25Run_l0_a2, spec_l25Run_l0_a3, spec_l25Run_l0_a4, spec_l25Run_l0_a5, spec_l25Run_l0_0, spec_l25Run_l0_1, spec_l25Run_l0_2, spec_l25Run_l0_3, spec_l25Run_l0_4, spec_l25Run_l0_5, spec_l25Run_l0_6, spec_l25Run_l0_7, spec_l25Run_l0_8, spec_l25Run_l0_9, spec_l25Run_l0_10, spec_l25Run_l0_11, spec_l25Run_l0_12, spec_l25Run_l0_13, spec_l25Run_l0_14, spec_l25Run_l0_15, spec_l25Run_l0_16, spec_l25Run_l0_17, spec_l25Run_l0_18, spec_l25Run_l0_19, spec_l25Run_l0_20, spec_l25Run_l0_21, spec_l25Run_l0_22, lt_spec_l25Run_l0, lp_spec_l25Run_l0, LT.each, same6r, hle, hne]
      · simp only [spec_l25Run_l0_0, spec_l25Run_l0_1, spec_l25Run_l0_2, spec_l25Run_l0_3, spec_l25Run_l0_10, spec_l25Run_l0_a2, spec_l25Run_l0_15, spec_l25Run_l0_20, spec_l25Run_l0_22, lp_spec_l25Run_l0, lt_spec_l25Run_l0, LT.fn, Bool.cond_self, hle, hne, hg2, same6r, cond_true, cond_false, fE, rvB, rvN, okMv, updF, Int.reduceBEq, beq_self_eq_true]
        cases permB n qs (chanL n qs (flS ss) 0) (chanL n qs (flS ss) 1) t <;> rfl
      · intro a' hf
        simp only [fE, rvB, rvN, beq_self_eq_true, cond_true] at hf
        cases hk : okMv n (flS ss) qs t <;> rw [hk] at hf <;> simp at hf
        subst hf
        exact ⟨hw, isT_mov hQ t, by simp only [movL_length]; exact hq, hS⟩
    · have t1 : leI 0 t = true := leI_t ht.1
      have t2 : ltI t (ss.length : Int) = true := ltI_t (by omega)
      have t3 : ltN t.toNat ss.length = true := ltN_t (by omega)
      refine ⟨?_, ?_, ?_, ?_⟩
      · simp [spec_l25Run_l0_a0, spec_l25Run_l0_a1, spec_l25Run_l0_a2, spec_l25Run_l0_a3, spec_l25Run_l0_a4, spec_l25Run_l0_a5, spec_l25Run_l0_0, spec_l25Run_l0_1, spec_l25Run_l0_2, spec_l25Run_l0_3, spec_l25Run_l0_4, spec_l25Run_l0_5, spec_l25Run_l0_6, spec_l25Run_l0_7, spec_l25Run_l0_8, spec_l25Run_l0_9, spec_l25Run_l0_10, spec_l25Run_l0_11, spec_l25Run_l0_12, spec_l25Run_l0_13, spec_l25Run_l0_14, spec_l25Run_l0_15, spec_l25Run_l0_16, spec_l25Run_l0_17, spec_l25Run_l0_18, spec_l25Run_l0_19, spec_l25Run_l0_20, spec_l25Run_l0_21, spec_l25Run_l0_22, lt_spec_l25Run_l0, lp_spec_l25Run_l0, LT.nds, allT, same6r, hle, hne, hdec, hnn, hltd, hget, t1, t2, t3]
      · simp [spec_l25Run_l0_a0, spec_l25Run_l0_a1, spec_l25Run_l0_a2, spec_l25Run_l0_a3, spec_l25Run_l0_a4, spec_l25Run_l0_a5, spec_l25Run_l0_0, spec_l25Run_l0_1, spec_l25Run_l0_2, spec_l25Run_l0_3, spec_l25Run_l0_4, spec_l25Run_l0_5, spec_l25Run_l0_6, spec_l25Run_l0_7, spec_l25Run_l0_8, spec_l25Run_l0_9, spec_l25Run_l0_10, spec_l25Run_l0_11, spec_l25Run_l0_12, spec_l25Run_l0_13, spec_l25Run_l0_14, spec_l25Run_l0_15, spec_l25Run_l0_16, spec_l25Run_l0_17, spec_l25Run_l0_18, spec_l25Run_l0_19, spec_l25Run_l0_20, spec_l25Run_l0_21, spec_l25Run_l0_22, lt_spec_l25Run_l0, lp_spec_l25Run_l0, LT.each, same6r, hle, hne]
      · simp only [spec_l25Run_l0_0, spec_l25Run_l0_1, spec_l25Run_l0_2, spec_l25Run_l0_3, spec_l25Run_l0_10, spec_l25Run_l0_11, spec_l25Run_l0_a2, spec_l25Run_l0_15, spec_l25Run_l0_16, lp_spec_l25Run_l0, lt_spec_l25Run_l0, LT.fn, Bool.cond_self, hle, hne, hg2, same6r, cond_true, cond_false, fE, rvB, rvN, updF, Int.reduceBEq, beq_self_eq_true, bne]
        cases (ss[t.toNat]?.getD 0 == bif v == 3 then (1 : Int) else 0) <;> rfl
      · intro a' hf
        simp only [fE, rvB, rvN, Int.reduceBEq, cond_false] at hf
        cases hk : (ss[t.toNat]?.getD 0 == bif v == 3 then (1 : Int) else 0) <;> rw [hk] at hf <;> simp at hf
        subst hf
        exact ⟨hw, hQ, hq, by simp only [List.length_set]; exact hS⟩
  · obtain ⟨j, f, qs, ss⟩ := a
    obtain ⟨rfl, _⟩ := hI
    simp [spec_l25Run_l0_a0, spec_l25Run_l0_a1, spec_l25Run_l0_a2, spec_l25Run_l0_a3, spec_l25Run_l0_a4, spec_l25Run_l0_a5, spec_l25Run_l0_0, spec_l25Run_l0_1, spec_l25Run_l0_2, spec_l25Run_l0_3, spec_l25Run_l0_4, spec_l25Run_l0_5, spec_l25Run_l0_6, spec_l25Run_l0_7, spec_l25Run_l0_8, spec_l25Run_l0_9, spec_l25Run_l0_10, spec_l25Run_l0_11, spec_l25Run_l0_12, spec_l25Run_l0_13, spec_l25Run_l0_14, spec_l25Run_l0_15, spec_l25Run_l0_16, spec_l25Run_l0_17, spec_l25Run_l0_18, spec_l25Run_l0_19, spec_l25Run_l0_20, spec_l25Run_l0_21, spec_l25Run_l0_22, lt_spec_l25Run_l0, lp_spec_l25Run_l0, LT.out]

theorem walk_fE (n : Int) : ∀ (es : List (Int × Int × Int)) (s : List Int × List Int) (i : Nat) (j f : Int), 0 ≤ j → j + es.length ≤ 1000 →
    ∃ k m a, walkL (fE n) 0 es i (j, f, s.1, s.2) = (k, m, a) ∧ (rvOk n es s = true → k = 0 ∧ (a.2.2.1, a.2.2.2) = rvEnd n es s ∧ fstL n [a.2.2.1] a.1 a.2.1 = fstL n (rvTr n es s) j f) ∧ (rvOk n es s = false → k = 1 ∨ k = 2)
  | [], s, i, j, f, _, _ => ⟨0, i, (j, f, s.1, s.2), rfl, fun _ => ⟨rfl, rfl, rfl⟩, fun h => by cases h⟩
  | e :: es, s, i, j, f, h0, h1 => by
    simp only [List.length_cons] at h1
    have hw : IntKind.i64.wrap (j + 1) = j + 1 := wrap_i64 (by omega) (by omega)
    cases hk : rvB n s e with
    | false =>
      refine ⟨bif e.1 == 1 then 1 else 2, i, (j, f, s.1, s.2), by simp only [walkL, fE, hk, cond_false], fun h => by simp [rvOk, hk] at h, fun _ => ?_⟩
      cases e.1 == 1 <;> simp
    | true =>
      obtain ⟨k, m, a, e1, h2, h3⟩ := walk_fE n es (rvN n s e) (i + 1) (j + 1) (updF n j s.1 f) (by omega) (by omega)
      refine ⟨k, m, a, ?_, fun h => ?_, fun h => ?_⟩
      · simp only [walkL, fE, hk, cond_true, hw]; exact e1
      · simp only [rvOk, hk, Bool.true_and] at h
        exact h2 h
      · simp only [rvOk, hk, Bool.true_and] at h
        exact h3 h

theorem specRv_ok (n : Int) (ps : List Int) (es : List (Int × Int × Int)) :
    spec_l25Run_0 n ps es = rvNn n ps es ∧ spec_l25Run_1 n ps es = rvF n ps es ∧ spec_l25Run_2 n ps es = rvCode n ps es ∧ spec_l25Run_3 n ps es = rvP n ps es ∧ spec_l25Run_4 n ps es = rvS n ps es ∧ spec_l25Run_5 n ps es = true := by
  simp only [spec_l25Run_0, spec_l25Run_1, spec_l25Run_2, spec_l25Run_3, spec_l25Run_4, spec_l25Run_5, spec_l25Run_a0, rvNn, rvF, rvP, rvS, rvGood, rvCode]
  cases hp : eqI (rvPre n ps es) 0 with
  | false =>
    have h1 : (rvPre n ps es != 0) = true := by simpa using eqI_not.1 hp
    simp [h1, hp, allT]
  | true =>
    have h1 : (rvPre n ps es != 0) = false := by simpa using eqI_iff.1 hp
    obtain ⟨hT, hl, he⟩ := rvPre_ok hp
    have hn := isT_iff.1 hT
    have hr : ((List.replicate n.toNat (0 : Int)).length : Int) = n := by rw [List.length_replicate]; omega
    obtain ⟨v1, v2⟩ := w_specRv n 0 ps [] es (List.replicate n.toNat 0) hT hl he hr (-1)
    obtain ⟨k, m, a, e, h2, h3⟩ := walk_fE n es (rv0 n ps) 0 0 (-1) (by omega) (by omega)
    simp only [rv0] at e
    rw [e] at v2
    have g1 : Lp.fin lp_spec_l25Run_l0 (spec_l25Run_a1 n ps es) = true := v1
    have g2 : lp_spec_l25Run_l0.res (spec_l25Run_a1 n ps es) = _ := v2
    have l1 : leN ps.length 1048576 = true := leN_t (by omega)
    have l2 : leI 0 n = true := leI_t (by omega)
    have l3 : leI ((8 : Nat) * n) 281474976710656 = true := leI_t (by omega)
    have l4 : leI n 9223372036854775807 = true := leI_t (by omega)
    have l5 : leI n n = true := leI_t (by omega)
    simp only [spec_l25Run_a2, spec_l25Run_a3, spec_l25Run_a4, spec_l25Run_a5, spec_l25Run_a6, spec_l25Run_a7, spec_l25Run_a8, spec_l25Run_a9, g2, h1, g1, l1, l2, l3, l4, l5, allT]
    cases hk : rvOk n es (rv0 n ps) with
    | false =>
      rcases h3 hk with rfl | rfl <;> simp [Nat.beq, eqI]
    | true =>
      obtain ⟨rfl, h5, h6⟩ := h2 hk
      have h7 : spec_l25Run_l0_2 a.1 a.2.1 n a.2.2.1 = fstL n (rvTr n es (rv0 n ps)) 0 (-1) := h6
      rw [← h5]
      simp [Nat.beq, eqI, h7, spec_l25Run_l0_3, same6r]

def N_spec_l25Run : List SV → List Entry → Option Out
  | [.one ⟨true, [.val (.int .i64 x0), .ref 0]⟩, .one ⟨false, [.ref 1]⟩], [.row false 2 (.int .i64) x1, .row false 129 (.pair (.int .i64) (.pair (.int .i64) (.int .i64))) x2] => some ⟨(.tup [⟨true, [(.val (.int IntKind.i64 (rvNn x0 x1 x2))), (.ref 2)]⟩, ⟨false, [(.ref 3)]⟩, ⟨false, [(.val (.int IntKind.i64 (rvF x0 x1 x2)))]⟩, ⟨false, [(.val (.int IntKind.i64 (rvCode x0 x1 x2)))]⟩]), [(.row false 2 (CTy.int IntKind.i64) x1), (.row false 129 (CTy.pair (CTy.int IntKind.i64) (CTy.pair (CTy.int IntKind.i64) (CTy.int IntKind.i64))) x2)], [(.row true 2 (CTy.int IntKind.i64) (rvP x0 x1 x2)), (.row true 2 (CTy.int IntKind.i64) (rvS x0 x1 x2))], []⟩
  | _, _ => none

def n_spec_l25Run : PF Try.prog := PF.alt p_spec_l25Run N_spec_l25Run (by
  intro args es o h hnd; unfold N_spec_l25Run at h; split at h
  · rename_i x0 x1 x2
    cases h
    have hh := specRv_ok x0 x1 x2
    obtain ⟨e0, e1, e2, e3, e4, en⟩ := hh
    exact altok rfl (nd_one en) (by simp only [e0, e1, e2] <;> rfl) rfl (by simp only [e3, e4] <;> rfl)
  · cases h)

theorem q_step (n k t v : Int) (ps sts : List Int) (h : k = 0 ∨ k = 1) :
    impl_replayStep_q1700_0 k t v n sts ps = rvB n (ps, sts) (k, t, v) ∧ impl_replayStep_q1700_1 k t v n sts ps = n ∧
    (rvB n (ps, sts) (k, t, v) = true → impl_replayStep_q1700_2 k t v n sts ps = (rvN n (ps, sts) (k, t, v)).2 ∧ impl_replayStep_q1700_3 k t v n sts ps = (rvN n (ps, sts) (k, t, v)).1) := by
  rcases h with rfl | rfl
  · simp only [impl_replayStep_q1700_0, impl_replayStep_q1700_1, impl_replayStep_q1700_2, impl_replayStep_q1700_3, impl_replayStep_q1700_a0, rvB, rvN, okMv, beq_self_eq_true, cond_true]
    cases permB n ps (chanL n ps (flS sts) 0) (chanL n ps (flS sts) 1) t <;> simp
  · simp only [impl_replayStep_q1700_0, impl_replayStep_q1700_1, impl_replayStep_q1700_2, impl_replayStep_q1700_3, impl_replayStep_q1700_a1, rvB, rvN, Int.reduceBEq, cond_false, bne]
    cases (sts[t.toNat]?.getD 0 == bif v == 3 then (1 : Int) else 0) <;> simp

def fI (n : Int) (e : Int × Int × Int) (a : List (Int × List Int) × List Int × List Int) : Nat ⊕ (List (Int × List Int) × List Int × List Int) :=
  bif rvB n a.2 e then .inr (a.1 ++ [(n, (rvN n a.2 e).1)], rvN n a.2 e) else .inl 0

theorem w_implRv (n : Int) (ps : List Int) (es : List (Int × Int × Int)) (sts : List Int) (hT : isT n ps = true) (hl : es.length ≤ 200) (he : ∀ e ∈ es, evOk n ps e = true) (hs : (sts.length : Int) = n) (l0 : List (Int × List Int)) (h0 : l0.length = 1) :
    lp_impl_replay_l0.fin ((0 : Int), (es.length : Int), es, sts, n, l0, ps) = true ∧ lp_impl_replay_l0.res ((0 : Int), (es.length : Int), es, sts, n, l0, ps) =
      ((walkL (fI n) 1 es 0 (l0, ps, sts)).1, (((walkL (fI n) 1 es 0 (l0, ps, sts)).2.1 : Int), (es.length : Int), es, (walkL (fI n) 1 es 0 (l0, ps, sts)).2.2.2.2, n, (walkL (fI n) 1 es 0 (l0, ps, sts)).2.2.1, (walkL (fI n) 1 es 0 (l0, ps, sts)).2.2.2.1)) := by
  have key := lp_impl_replay_l0.along (fun i a => ((i : Int), (es.length : Int), es, a.2.2, n, a.1, a.2.1)) (fun x => (x.2.2.2.2.2.1, x.2.2.2.2.2.2, x.2.2.2.1)) (fI n) 1 (fun i a => a.1.length = i + 1 ∧ isT n a.2.1 = true ∧ a.2.1.length = ps.length ∧ (a.2.2.length : Int) = n) es (l0, ps, sts) ⟨h0, hT, rfl, hs⟩ (by simp only [lp_impl_replay_l0]; omega) (fun i t a hb hI => ?_) (fun a hI => ?_)
  · exact key
  · obtain ⟨l, qs, ss⟩ := a
    obtain ⟨hL, hQ, hq, hS⟩ := hI
    simp only at hL hQ hq hS
    have hn8 := (isT_iff.1 hQ).1
    have hlt := (List.getElem?_eq_some_iff.1 hb).1
    have hget : ∀ d, Option.getD es[i]? d = t := fun d => by rw [hb]; rfl
    have hg2 : impl_replay_l0_a0 (i : Int) es = t := by simp only [impl_replay_l0_a0, Int.toNat_natCast]; exact hget _
    have hw := wrap64 hlt (by omega)
    have hdec : ltI (i : Int) (es.length : Int) = true := ltI_t (by omega)
    have hnn : leI (0 : Int) (i : Int) = true := leI_t (by omega)
    have hltd : ltN i es.length = true := ltN_t hlt
    have hF : inFs n (flS ss) = true := flS_in (by omega) (by omega)
    have hsl : leN ss.length 1000 = true := leN_t (by omega)
    have m1 : leN (l.length + 1) 9223372036854775807 = true := leN_t (by omega)
    have m2 : leN ((l.length + 1) * 32) 140737488355328 = true := leN_t (by omega)
    obtain ⟨k, t, v⟩ := t
    have hev := evOk_cases (he _ (List.mem_of_getElem? hb))
    obtain ⟨c0, c1, c2⟩ := q_step n k t v qs ss (hev.imp (fun h => h.1) (fun h => h.1))
    have hnd : impl_replayStep_q1700_4 k t v n ss qs = true := by
      rcases hev with ⟨rfl, ht, rfl⟩ | ⟨rfl, ht, hv⟩
      · have hh := hasT_len ht hq
        have hp := permOk_of (fs := flS ss) hQ hF hh
        have hm : mvOk n qs t = true := mvOk_iff.2 ⟨hQ, hh⟩
        simp [impl_replayStep_q1700_4, allT, hsl, hQ, hF, hp, hm]
      · have t1 : leI 0 t = true := leI_t ht.1
        have t2 : ltI t (ss.length : Int) = true := ltI_t (by omega)
        have t3 : ltN t.toNat ss.length = true := ltN_t (by omega)
        simp [impl_replayStep_q1700_4, allT, t1, t2, t3]
    refine ⟨?_, ?_, ?_, ?_⟩
    · simp only [impl_replay_l0_0, impl_replay_l0_1, impl_replay_l0_2, impl_replay_l0_3, impl_replay_l0_4, impl_replay_l0_9, impl_replay_l0_10, impl_replay_l0_a3, lp_impl_replay_l0, lt_impl_replay_l0, LT.nds, allT, List.length_singleton, Int.toNat_natCast, hdec, hnn, hltd, hg2, hnd, m1, m2, cond_true, Bool.cond_self]
    · simp only [lp_impl_replay_l0, lt_impl_replay_l0, LT.each, impl_replay_l0_5, impl_replay_l0_7, impl_replay_l0_a1, impl_replay_l0_11, hg2, c1, hw, and_self, implies_true, and_true, true_and]
    · simp only [lp_impl_replay_l0, lt_impl_replay_l0, LT.fn, impl_replay_l0_0, impl_replay_l0_5, impl_replay_l0_6, impl_replay_l0_8, impl_replay_l0_12, impl_replay_l0_a1, impl_replay_l0_a2, impl_replay_l0_a3, hg2, c0, c1, hdec, cond_true, fI]
      cases hk : rvB n (qs, ss) (k, t, v) with
      | false => rfl
      | true =>
        obtain ⟨d1, d2⟩ := c2 hk
        simp only [Bool.not_true, cond_false, cond_true, d1, d2]
    · intro a' hf
      simp only [fI] at hf
      cases hk : rvB n (qs, ss) (k, t, v) <;> rw [hk] at hf <;> simp at hf
      subst hf
      rcases hev with ⟨rfl, ht, rfl⟩ | ⟨rfl, ht, hv⟩
      · exact ⟨by simp [hL], isT_mov hQ t, by simp only [rvN, beq_self_eq_true, cond_true, movL_length]; exact hq, hS⟩
      · exact ⟨by simp [hL], hQ, hq, by simp only [rvN, Int.reduceBEq, cond_false, List.length_set]; exact hS⟩
  · obtain ⟨l, qs, ss⟩ := a
    simp [impl_replay_l0_0, lp_impl_replay_l0, lt_impl_replay_l0, LT.out]

theorem walk_fI (n : Int) : ∀ (es : List (Int × Int × Int)) (s : List Int × List Int) (i : Nat) (l : List (Int × List Int)),
    ∃ m a, walkL (fI n) 1 es i (l ++ [(n, s.1)], s) = (bif rvOk n es s then 1 else 0, m, a) ∧ (rvOk n es s = true → a.1 = l ++ (rvTr n es s).map (fun p => (n, p)) ∧ a.2 = rvEnd n es s)
  | [], s, i, l => ⟨i, (l ++ [(n, s.1)], s), rfl, fun _ => ⟨rfl, rfl⟩⟩
  | e :: es, s, i, l => by
    cases hk : rvB n s e with
    | false => exact ⟨i, (l ++ [(n, s.1)], s), by simp only [walkL, fI, hk, rvOk, Bool.false_and, cond_false], fun h => by simp [rvOk, hk] at h⟩
    | true =>
      obtain ⟨m, a, e1, h⟩ := walk_fI n es (rvN n s e) (i + 1) (l ++ [(n, s.1)])
      refine ⟨m, a, ?_, ?_⟩
      · simp only [walkL, fI, hk, rvOk, Bool.true_and, cond_true]; exact e1
      · intro hok
        simp only [rvOk, hk, Bool.true_and] at hok
        obtain ⟨h1, h2⟩ := h hok
        exact ⟨by rw [h1]; simp [rvTr], h2⟩

theorem implRv_ok (n : Int) (ps : List Int) (es : List (Int × Int × Int)) :
    impl_replay_0 n ps es = rvCode n ps es ∧ impl_replay_1 n ps es = rvL n ps es ∧ impl_replay_2 n ps es = rvS n ps es ∧ impl_replay_3 n ps es = true := by
  simp only [impl_replay_0, impl_replay_1, impl_replay_2, impl_replay_3, impl_replay_a0, rvL, rvS, rvGood, rvCode]
  cases hp : eqI (rvPre n ps es) 0 with
  | false =>
    have h1 : (rvPre n ps es != 0) = true := by simpa using eqI_not.1 hp
    simp [h1, hp, allT]
  | true =>
    have h1 : (rvPre n ps es != 0) = false := by simpa using eqI_iff.1 hp
    obtain ⟨hT, hl, he⟩ := rvPre_ok hp
    have hn := isT_iff.1 hT
    have hr : ((List.replicate n.toNat (0 : Int)).length : Int) = n := by rw [List.length_replicate]; omega
    obtain ⟨v1, v2⟩ := w_implRv n ps es (List.replicate n.toNat 0) hT hl he hr [(n, ps)] rfl
    obtain ⟨m, a, e, h2⟩ := walk_fI n es (rv0 n ps) 0 []
    simp only [rv0, List.nil_append] at e
    rw [e] at v2
    have g1 : Lp.fin lp_impl_replay_l0 (impl_replay_a1 n ps es) = true := v1
    have g2 : lp_impl_replay_l0.res (impl_replay_a1 n ps es) = _ := v2
    have e4 : loop_example_g00916_impl_Traffic_clone_0 ps = true := by
      simp [loop_example_g00916_impl_Traffic_clone_0, allT]; omega
    have l2 : leI 0 n = true := leI_t (by omega)
    have l3 : leI ((8 : Nat) * n) 281474976710656 = true := leI_t (by omega)
    have l4 : leI n 9223372036854775807 = true := leI_t (by omega)
    have l5 : leI n n = true := leI_t (by omega)
    simp only [impl_replay_a2, impl_replay_a3, g2, h1, g1, e4, l2, l3, l4, l5, allT]
    change _ ∧ _ ∧ _ ∧ _
    cases hk : rvOk n es (rv0 n ps) with
    | false =>
      have hk' : rvOk n es (ps, List.replicate n.toNat 0) = false := hk
      simp [hk', Nat.beq, eqI]
    | true =>
      have hk' : rvOk n es (ps, List.replicate n.toNat 0) = true := hk
      obtain ⟨h5, h6⟩ := h2 hk
      rw [List.nil_append] at h5
      simp [hk', Nat.beq, eqI, h5, h6]

def N_impl_replay : List SV → List Entry → Option Out
  | [.one ⟨true, [.val (.int .i64 x0), .ref 0]⟩, .one ⟨false, [.ref 1]⟩], [.row false 2 (.int .i64) x1, .row false 129 (.pair (.int .i64) (.pair (.int .i64) (.int .i64))) x2] => some ⟨(.tup [⟨false, [(.ref 2)]⟩, ⟨false, [(.ref 3)]⟩, ⟨false, [(.val (.int IntKind.i64 (rvCode x0 x1 x2)))]⟩]), [(.row false 2 (CTy.int IntKind.i64) x1), (.row false 129 (CTy.pair (CTy.int IntKind.i64) (CTy.pair (CTy.int IntKind.i64) (CTy.int IntKind.i64))) x2)], [(.row true 26 (CTy.pair (CTy.int IntKind.i64) (CTy.sl (2 : Nat) (CTy.int IntKind.i64))) (rvL x0 x1 x2)), (.row true 2 (CTy.int IntKind.i64) (rvS x0 x1 x2))], []⟩
  | _, _ => none

def n_impl_replay : PF Try.prog := PF.alt p_impl_replay N_impl_replay (by
  intro args es o h hnd; unfold N_impl_replay at h; split at h
  · rename_i x0 x1 x2
    cases h
    have hh := implRv_ok x0 x1 x2
    obtain ⟨e0, e1, e2, en⟩ := hh
    exact altok rfl (nd_one en) (by simp only [e0] <;> rfl) rfl (by simp only [e1, e2] <;> rfl)
  · cases h)

end Go.SX

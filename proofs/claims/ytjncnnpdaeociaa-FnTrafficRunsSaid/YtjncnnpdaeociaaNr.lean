/- Replays, controlled runs, tolerated faults, in plain words. -/
import Derived.Test.YtjncnnpdaeociaaRr
namespace Go.SX
open Go.Proofs
set_option maxRecDepth 100000

def f_slices_IndexFunc_impl_Traffic_q1800_l0  (b : Int × (List Int)) : (Unit) → Nat ⊕ (Unit)
  | _ => (bif ((impl_UnsafeAfter_1_q1801_0 (Prod.fst ((b))) (Prod.snd ((b))))) then (.inl 0) else (.inr ()))

def st_slices_IndexFunc_impl_Traffic_q1800_l0 (y2 : List (Int × (List Int))) (i : Nat) : (Unit) → X_slices_IndexFunc_impl_Traffic_q1800_l0
  | _ => ((i : Int), (↑(List.length y2) : Int), y2)

def pr_slices_IndexFunc_impl_Traffic_q1800_l0 : X_slices_IndexFunc_impl_Traffic_q1800_l0 → Unit
  | (_, _, _) => ()

theorem w_slices_IndexFunc_impl_Traffic_q1800_l0 (y2 : List (Int × (List Int)))  (hn : y2.length ≤ 9223372036854775807) (hA : ∀ x ∈ y2, isT x.1 x.2 = true) :
    lp_slices_IndexFunc_impl_Traffic_q1800_l0.fin ((0 : Int), (↑(List.length y2) : Int), y2) = true ∧ lp_slices_IndexFunc_impl_Traffic_q1800_l0.res ((0 : Int), (↑(List.length y2) : Int), y2) = ((walkL (f_slices_IndexFunc_impl_Traffic_q1800_l0) 1 y2 0 ()).1, (st_slices_IndexFunc_impl_Traffic_q1800_l0 y2) (walkL (f_slices_IndexFunc_impl_Traffic_q1800_l0) 1 y2 0 ()).2.1 (walkL (f_slices_IndexFunc_impl_Traffic_q1800_l0) 1 y2 0 ()).2.2) := by
  have key := lp_slices_IndexFunc_impl_Traffic_q1800_l0.along (st_slices_IndexFunc_impl_Traffic_q1800_l0 y2) pr_slices_IndexFunc_impl_Traffic_q1800_l0 (f_slices_IndexFunc_impl_Traffic_q1800_l0) 1 (fun _ _ => True) y2 () (by trivial) (by simp only [lp_slices_IndexFunc_impl_Traffic_q1800_l0, st_slices_IndexFunc_impl_Traffic_q1800_l0]; omega) (fun i b a hb hI => ?_) (fun a hI => ?_)
  · exact key
  · obtain ⟨⟩ := a
    have hlt := (List.getElem?_eq_some_iff.1 hb).1
    have hget : ∀ d, Option.getD y2[i]? d = b := fun d => by rw [hb]; rfl
    have hw := wrap64 hlt hn
    have hdec : ltI (i : Int) (y2.length : Int) = true := ltI_t (by omega)
    have hnn : leI (0 : Int) (i : Int) = true := leI_t (by omega)
    have hltd : ltN i y2.length = true := ltN_t hlt
    refine ⟨?_, ?_, ?_, ?_⟩
    · have hg2 : slices_IndexFunc_impl_Traffic_q1800_l0_a0 (i : Int) y2 = b := by simp only [slices_IndexFunc_impl_Traffic_q1800_l0_a0, Int.toNat_natCast]; exact hget _
      have h5 := hA b (List.mem_of_getElem? hb)
      simp only [slices_IndexFunc_impl_Traffic_q1800_l0_0, slices_IndexFunc_impl_Traffic_q1800_l0_1, slices_IndexFunc_impl_Traffic_q1800_l0_2, slices_IndexFunc_impl_Traffic_q1800_l0_3, slices_IndexFunc_impl_Traffic_q1800_l0_4, lt_slices_IndexFunc_impl_Traffic_q1800_l0, lp_slices_IndexFunc_impl_Traffic_q1800_l0, LT.nds, allT, st_slices_IndexFunc_impl_Traffic_q1800_l0, impl_UnsafeAfter_1_q1801_1, Int.toNat_natCast, hg2, hdec, hnn, hltd, h5, cond_true, Bool.cond_self]
    · simp [slices_IndexFunc_impl_Traffic_q1800_l0_a0, slices_IndexFunc_impl_Traffic_q1800_l0_0, slices_IndexFunc_impl_Traffic_q1800_l0_1, slices_IndexFunc_impl_Traffic_q1800_l0_2, slices_IndexFunc_impl_Traffic_q1800_l0_3, slices_IndexFunc_impl_Traffic_q1800_l0_4, slices_IndexFunc_impl_Traffic_q1800_l0_5, slices_IndexFunc_impl_Traffic_q1800_l0_6, lt_slices_IndexFunc_impl_Traffic_q1800_l0, lp_slices_IndexFunc_impl_Traffic_q1800_l0, LT.each, st_slices_IndexFunc_impl_Traffic_q1800_l0, pr_slices_IndexFunc_impl_Traffic_q1800_l0, hw]
    · have hg2 : slices_IndexFunc_impl_Traffic_q1800_l0_a0 (i : Int) y2 = b := by simp only [slices_IndexFunc_impl_Traffic_q1800_l0_a0, Int.toNat_natCast]; exact hget _
      simp only [slices_IndexFunc_impl_Traffic_q1800_l0_0, slices_IndexFunc_impl_Traffic_q1800_l0_5, lt_slices_IndexFunc_impl_Traffic_q1800_l0, lp_slices_IndexFunc_impl_Traffic_q1800_l0, LT.fn, st_slices_IndexFunc_impl_Traffic_q1800_l0, pr_slices_IndexFunc_impl_Traffic_q1800_l0, f_slices_IndexFunc_impl_Traffic_q1800_l0, hdec, hg2, cond_true]
    · exact fun _ _ => trivial
  · obtain ⟨⟩ := a
    simp [slices_IndexFunc_impl_Traffic_q1800_l0_a0, slices_IndexFunc_impl_Traffic_q1800_l0_0, slices_IndexFunc_impl_Traffic_q1800_l0_1, slices_IndexFunc_impl_Traffic_q1800_l0_2, slices_IndexFunc_impl_Traffic_q1800_l0_3, slices_IndexFunc_impl_Traffic_q1800_l0_4, slices_IndexFunc_impl_Traffic_q1800_l0_5, slices_IndexFunc_impl_Traffic_q1800_l0_6, lt_slices_IndexFunc_impl_Traffic_q1800_l0, lp_slices_IndexFunc_impl_Traffic_q1800_l0, LT.out, st_slices_IndexFunc_impl_Traffic_q1800_l0]

theorem rvN_T {n : Int} {ps0 : List Int} {s : List Int × List Int} (e : Int × Int × Int) (h : isT n s.1 = true) (hl : s.1.length = ps0.length) : isT n (rvN n s e).1 = true ∧ (rvN n s e).1.length = ps0.length := by
  unfold rvN
  cases e.1 == 0 with
  | true => exact ⟨isT_mov h _, by simp only [cond_true, movL_length]; exact hl⟩
  | false => exact ⟨h, hl⟩

theorem rvTr_isT {n : Int} : ∀ (es : List (Int × Int × Int)) (s : List Int × List Int), isT n s.1 = true → ∀ p ∈ rvTr n es s, isT n p = true
  | [], s, h, p, hp => by simp [rvTr] at hp; rw [hp]; exact h
  | e :: es, s, h, p, hp => by
    simp only [rvTr, List.mem_cons] at hp
    rcases hp with rfl | hp
    · exact h
    · exact rvTr_isT es _ (rvN_T (ps0 := s.1) e h rfl).1 p hp

theorem rvTr_length (n : Int) : ∀ (es : List (Int × Int × Int)) (s : List Int × List Int), (rvTr n es s).length = es.length + 1
  | [], s => rfl
  | e :: es, s => by simp [rvTr, rvTr_length n es]

theorem rvTr_last (n : Int) : ∀ (es : List (Int × Int × Int)) (s : List Int × List Int), (rvTr n es s)[es.length]? = some (rvEnd n es s).1
  | [], s => rfl
  | e :: es, s => by simp only [rvTr, List.length_cons, List.getElem?_cons_succ]; exact rvTr_last n es _

theorem rvGood_ok {n : Int} {ps : List Int} {es : List (Int × Int × Int)} (h : rvGood n ps es = true) : isT n ps = true ∧ es.length ≤ 200 ∧ (∀ e ∈ es, evOk n ps e = true) ∧ rvOk n es (rv0 n ps) = true := by
  simp only [rvGood, rvCode] at h
  cases hp : eqI (rvPre n ps es) 0 with
  | false => rw [hp] at h; simp only [cond_false] at h; rw [hp] at h; cases h
  | true =>
    obtain ⟨h1, h2, h3⟩ := rvPre_ok hp
    refine ⟨h1, h2, h3, ?_⟩
    cases hk : rvOk n es (rv0 n ps) with
    | true => rfl
    | false => rw [hp, hk] at h; simp [eqI] at h

theorem implUnsafe_ok (n : Int) (ps : List Int) (es : List (Int × Int × Int)) : impl_UnsafeAfter_0 n ps es = rvF n ps es ∧ impl_UnsafeAfter_1 n ps es = rvCode n ps es ∧ impl_UnsafeAfter_2 n ps es = true := by
  simp only [impl_UnsafeAfter_0, impl_UnsafeAfter_1, impl_UnsafeAfter_2, impl_UnsafeAfter_a0]
  cases hg : rvGood n ps es with
  | false =>
    have h1 : (rvCode n ps es != 0) = true := by simp only [rvGood] at hg; simpa using eqI_not.1 hg
    simp [h1, rvF, hg, allT]
  | true =>
    have h1 : (rvCode n ps es != 0) = false := by simp only [rvGood] at hg; simpa using eqI_iff.1 hg
    have h0 : rvCode n ps es = 0 := by simpa using h1
    obtain ⟨hT, hl, he, hk⟩ := rvGood_ok hg
    have hA : ∀ x ∈ rvL n ps es, isT x.1 x.2 = true := by
      intro x hx
      simp only [rvL, hg, cond_true, List.mem_map] at hx
      obtain ⟨p, hp, rfl⟩ := hx
      exact rvTr_isT es _ hT p hp
    have hlen : (rvL n ps es).length ≤ 9223372036854775807 := by
      simp only [rvL, hg, cond_true, List.length_map, rvTr_length]; omega
    obtain ⟨w1, w2⟩ := w_slices_IndexFunc_impl_Traffic_q1800_l0 (rvL n ps es) hlen hA
    rw [walk_stop (P := fun x => !safeL x.1 x.2) (j := 0) (fun x => by simp only [f_slices_IndexFunc_impl_Traffic_q1800_l0, impl_UnsafeAfter_1_q1801_0])] at w2
    have e2 : slices_IndexFunc_impl_Traffic_q1800_0 (rvL n ps es) = rvF n ps es := by
      simp only [slices_IndexFunc_impl_Traffic_q1800_0, slices_IndexFunc_impl_Traffic_q1800_a0, slices_IndexFunc_impl_Traffic_q1800_a1, w2, st_slices_IndexFunc_impl_Traffic_q1800_l0, rvF, hg, cond_true]
      rw [fstL_eq n _ 0 (by omega) (rvTr_isT es _ hT)]
      simp only [rvL, hg, cond_true]
      cases (List.map (fun p => (n, p)) (rvTr n es (rv0 n ps))).any fun x => !safeL x.1 x.2 with
      | true => simp [Nat.beq]
      | false => rfl
    have e3 : slices_IndexFunc_impl_Traffic_q1800_2 (rvL n ps es) = true := by
      simp only [slices_IndexFunc_impl_Traffic_q1800_2, slices_IndexFunc_impl_Traffic_q1800_a0, w1, allT, cond_true]
    simp [h1, e2, e3, allT, h0]

def N_impl_UnsafeAfter : List SV → List Entry → Option Out
  | [.one ⟨true, [.val (.int .i64 x0), .ref 0]⟩, .one ⟨false, [.ref 1]⟩], [.row false 2 (.int .i64) x1, .row false 129 (.pair (.int .i64) (.pair (.int .i64) (.int .i64))) x2] => some ⟨(.tup [⟨false, [(.val (.int IntKind.i64 (rvF x0 x1 x2)))]⟩, ⟨false, [(.val (.int IntKind.i64 (rvCode x0 x1 x2)))]⟩]), [(.row false 2 (CTy.int IntKind.i64) x1), (.row false 129 (CTy.pair (CTy.int IntKind.i64) (CTy.pair (CTy.int IntKind.i64) (CTy.int IntKind.i64))) x2)], [], []⟩
  | _, _ => none

def n_impl_UnsafeAfter : PF Try.prog := PF.alt p_impl_UnsafeAfter N_impl_UnsafeAfter (by
  intro args es o h hnd; unfold N_impl_UnsafeAfter at h; split at h
  · rename_i x0 x1 x2
    cases h
    have hh := implUnsafe_ok x0 x1 x2
    obtain ⟨e0, e1, en⟩ := hh
    exact altok rfl (nd_one en) (by simp only [e0, e1] <;> rfl) rfl rfl
  · cases h)

theorem implRvRun_ok (n : Int) (ps : List Int) (es : List (Int × Int × Int)) : impl_RunReplay_0 n ps es = rvNn n ps es ∧ impl_RunReplay_1 n ps es = rvCode n ps es ∧ impl_RunReplay_2 n ps es = rvP n ps es ∧ impl_RunReplay_3 n ps es = rvS n ps es ∧ impl_RunReplay_4 n ps es = true := by
  simp only [impl_RunReplay_0, impl_RunReplay_1, impl_RunReplay_2, impl_RunReplay_3, impl_RunReplay_4, impl_RunReplay_a0, impl_RunReplay_a1]
  cases hg : rvGood n ps es with
  | false =>
    have h1 : (rvCode n ps es != 0) = true := by simp only [rvGood] at hg; simpa using eqI_not.1 hg
    simp [h1, rvNn, rvP, rvS, hg, allT]
  | true =>
    have h1 : (rvCode n ps es != 0) = false := by simp only [rvGood] at hg; simpa using eqI_iff.1 hg
    have h0 : rvCode n ps es = 0 := by simpa using h1
    have h2 := rvTr_length n es (rv0 n ps)
    have h3 := rvTr_last n es (rv0 n ps)
    have l1 : leI 0 (es.length : Int) = true := leI_t (by omega)
    have l2 : ltI (es.length : Int) (((rvTr n es (rv0 n ps)).length : Nat) : Int) = true := ltI_t (by omega)
    have l3 : ltN es.length (rvTr n es (rv0 n ps)).length = true := ltN_t (by omega)
    simp [h1, h0, rvNn, rvP, rvS, rvL, hg, allT, h3, l1, l2, l3]
    try exact ⟨rfl, rfl⟩

def N_impl_RunReplay : List SV → List Entry → Option Out
  | [.one ⟨true, [.val (.int .i64 x0), .ref 0]⟩, .one ⟨false, [.ref 1]⟩], [.row false 2 (.int .i64) x1, .row false 129 (.pair (.int .i64) (.pair (.int .i64) (.int .i64))) x2] => some ⟨(.tup [⟨true, [(.val (.int IntKind.i64 (rvNn x0 x1 x2))), (.ref 2)]⟩, ⟨false, [(.ref 3)]⟩, ⟨false, [(.val (.int IntKind.i64 (rvCode x0 x1 x2)))]⟩]), [(.row false 2 (CTy.int IntKind.i64) x1), (.row false 129 (CTy.pair (CTy.int IntKind.i64) (CTy.pair (CTy.int IntKind.i64) (CTy.int IntKind.i64))) x2)], [(.row false 2 (CTy.int IntKind.i64) (rvP x0 x1 x2)), (.row false 2 (CTy.int IntKind.i64) (rvS x0 x1 x2))], []⟩
  | _, _ => none

def n_impl_RunReplay : PF Try.prog := PF.alt p_impl_RunReplay N_impl_RunReplay (by
  intro args es o h hnd; unfold N_impl_RunReplay at h; split at h
  · rename_i x0 x1 x2
    cases h
    have hh := implRvRun_ok x0 x1 x2
    obtain ⟨e0, e1, e2, e3, en⟩ := hh
    exact altok rfl (nd_one en) (by simp only [e0, e1] <;> rfl) rfl (by simp only [e2, e3] <;> rfl)
  · cases h)

/-! ### Members of lists; faults that are tolerated -/

def hasI (x : Int) (l : List Int) : Bool := l.any fun v => v == x

def f_laws_hasInt_l0 (y1 : Int) (b : Int) : (Unit) → Nat ⊕ (Unit)
  | _ => (bif ((b == y1)) then (.inl 0) else (.inr ()))

def st_laws_hasInt_l0 (y1 : Int) (y2 : List Int) (i : Nat) : (Unit) → X_laws_hasInt_l0
  | _ => ((i : Int), y1, y2)

def pr_laws_hasInt_l0 : X_laws_hasInt_l0 → Unit
  | (_, _, _) => ()

theorem w_laws_hasInt_l0 (y1 : Int) (y2 : List Int)  (hn : y2.length ≤ 9223372036854775807)  :
    lp_laws_hasInt_l0.fin ((0 : Int), y1, y2) = true ∧ lp_laws_hasInt_l0.res ((0 : Int), y1, y2) = ((walkL (f_laws_hasInt_l0 y1) 1 y2 0 ()).1, (st_laws_hasInt_l0 y1 y2) (walkL (f_laws_hasInt_l0 y1) 1 y2 0 ()).2.1 (walkL (f_laws_hasInt_l0 y1) 1 y2 0 ()).2.2) := by
  have key := lp_laws_hasInt_l0.along (st_laws_hasInt_l0 y1 y2) pr_laws_hasInt_l0 (f_laws_hasInt_l0 y1) 1 (fun _ _ => True) y2 () (by trivial) (by simp only [lp_laws_hasInt_l0, st_laws_hasInt_l0]; omega) (fun i b a hb hI => ?_) (fun a hI => ?_)
  · exact key
  · obtain ⟨⟩ := a
    have hlt := (List.getElem?_eq_some_iff.1 hb).1
    have hget : ∀ d, Option.getD y2[i]? d = b := fun d => by rw [hb]; rfl
    have hw := wrap64 hlt hn
    have hdec : ltI (i : Int) (y2.length : Int) = true := ltI_t (by omega)
    have hnn : leI (0 : Int) (i : Int) = true := leI_t (by omega)
    have hltd : ltN i y2.length = true := ltN_t hlt
    refine ⟨?_, ?_, ?_, ?_⟩
    · simp [laws_hasInt_l0_0, laws_hasInt_l0_1, laws_hasInt_l0_2, laws_hasInt_l0_3, laws_hasInt_l0_4, lt_laws_hasInt_l0, lp_laws_hasInt_l0, LT.nds, allT, st_laws_hasInt_l0, hdec, hnn, hltd, hget]
    · simp [laws_hasInt_l0_0, laws_hasInt_l0_1, laws_hasInt_l0_2, laws_hasInt_l0_3, laws_hasInt_l0_4, lt_laws_hasInt_l0, lp_laws_hasInt_l0, LT.each, st_laws_hasInt_l0, pr_laws_hasInt_l0, hw]
    · simp only [laws_hasInt_l0_0, laws_hasInt_l0_1, laws_hasInt_l0_2, laws_hasInt_l0_3, laws_hasInt_l0_4, lt_laws_hasInt_l0, lp_laws_hasInt_l0, LT.fn, st_laws_hasInt_l0, pr_laws_hasInt_l0, f_laws_hasInt_l0, Int.toNat_natCast, hdec, hnn, hltd, hget, cond_true, Bool.cond_self]
    · exact fun _ _ => trivial
  · obtain ⟨⟩ := a
    simp [laws_hasInt_l0_0, laws_hasInt_l0_1, laws_hasInt_l0_2, laws_hasInt_l0_3, laws_hasInt_l0_4, lt_laws_hasInt_l0, lp_laws_hasInt_l0, LT.out, st_laws_hasInt_l0]

theorem hasInt_ok (x : Int) (l : List Int) (hn : leN l.length 9223372036854775807 = true) : laws_hasInt_0 x l = hasI x l ∧ laws_hasInt_1 x l = true := by
  obtain ⟨w1, w2⟩ := w_laws_hasInt_l0 x l (leN_iff.1 hn)
  rw [walk_stop (P := fun v => v == x) (j := 0) (fun v => by simp only [f_laws_hasInt_l0])] at w2
  simp only [laws_hasInt_0, laws_hasInt_1, laws_hasInt_a0, w1, w2, allT, hasI]
  cases l.any fun v => v == x <;> exact ⟨rfl, rfl⟩

def N_laws_hasInt : List SV → List Entry → Option Out
  | [.one ⟨false, [.ref 0]⟩, .one ⟨false, [.val (.int .i64 x0)]⟩], [.row false 2 (.int .i64) x1] => some ⟨(.one ⟨false, [(.val (.bool (hasI x0 x1)))]⟩), [(.row false 2 (CTy.int IntKind.i64) x1)], [], [leN x1.length 9223372036854775807]⟩
  | _, _ => none

def n_laws_hasInt : PF Try.prog := PF.alt p_laws_hasInt N_laws_hasInt (by
  intro args es o h hnd; unfold N_laws_hasInt at h; split at h
  · rename_i x0 x1
    cases h
    have hnd := nd_fst hnd
    have hh := hasInt_ok x0 x1 hnd
    obtain ⟨e0, en⟩ := hh
    exact altok rfl (nd_one en) (by simp only [e0] <;> rfl) rfl rfl
  · cases h)

theorem likeT_ok (n m : Int) (ps qs : List Int) (hn : leN ps.length 9223372036854775807 = true) : laws_likeTraffic9_0 n m ps qs = eqT n m ps qs ∧ laws_likeTraffic9_1 n m ps = true := by
  simp only [laws_likeTraffic9_0, laws_likeTraffic9_1, eqT, hn, allT, Bool.or_true, cond_true, and_true]
  cases n == m <;> rfl

def N_laws_likeTraffic9 : List SV → List Entry → Option Out
  | [.one ⟨true, [.val (.int .i64 x0), .ref 0]⟩, .one ⟨true, [.val (.int .i64 x1), .ref 1]⟩], [.row false 2 (.int .i64) x2, .row false 2 (.int .i64) x3] => some ⟨(.one ⟨false, [(.val (.bool (eqT x0 x1 x2 x3)))]⟩), [(.row false 2 (CTy.int IntKind.i64) x2), (.row false 2 (CTy.int IntKind.i64) x3)], [], [leN x2.length 9223372036854775807]⟩
  | _, _ => none

def n_laws_likeTraffic9 : PF Try.prog := PF.alt p_laws_likeTraffic9 N_laws_likeTraffic9 (by
  intro args es o h hnd; unfold N_laws_likeTraffic9 at h; split at h
  · rename_i x0 x1 x2 x3
    cases h
    have hnd := nd_fst hnd
    have hh := likeT_ok x0 x1 x2 x3 hnd
    obtain ⟨e0, en⟩ := hh
    exact altok rfl (nd_one en) (by simp only [e0] <;> rfl) rfl rfl
  · cases h)

/-- No two faults say of one block that it is clear. -/
def tolA : List (Int × Int × Int) → List Int → Bool
  | [], _ => true
  | f :: r, a => bif f.2.2 == 0 then !hasI f.1 a && tolA r (a ++ [f.1]) else tolA r a
def tolF (fs : List (Int × Int × Int)) : Bool := tolA fs []

end Go.SX

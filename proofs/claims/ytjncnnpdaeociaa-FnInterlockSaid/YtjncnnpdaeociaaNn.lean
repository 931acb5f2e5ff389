/- The first collision, in plain words. -/
import Derived.Test.YtjncnnpdaeociaaRn
namespace Go.SX
open Go.Proofs
set_option maxRecDepth 100000

def f_slices_IndexFunc_impl_Traffic_q1300_l0  (b : Int × (List Int)) : (Unit) → Nat ⊕ (Unit)
  | _ => (bif ((impl_FirstCollision_1_q1301_0 (Prod.fst ((b))) (Prod.snd ((b))))) then (.inl 0) else (.inr ()))

def st_slices_IndexFunc_impl_Traffic_q1300_l0 (y2 : List (Int × (List Int))) (i : Nat) : (Unit) → X_slices_IndexFunc_impl_Traffic_q1300_l0
  | _ => ((i : Int), (↑(List.length y2) : Int), y2)

def pr_slices_IndexFunc_impl_Traffic_q1300_l0 : X_slices_IndexFunc_impl_Traffic_q1300_l0 → Unit
  | (_, _, _) => ()

theorem w_slices_IndexFunc_impl_Traffic_q1300_l0 (y2 : List (Int × (List Int)))  (hn : y2.length ≤ 9223372036854775807) (hA : ∀ x ∈ y2, isT x.1 x.2 = true) :
    lp_slices_IndexFunc_impl_Traffic_q1300_l0.fin ((0 : Int), (↑(List.length y2) : Int), y2) = true ∧ lp_slices_IndexFunc_impl_Traffic_q1300_l0.res ((0 : Int), (↑(List.length y2) : Int), y2) = ((walkL (f_slices_IndexFunc_impl_Traffic_q1300_l0) 1 y2 0 ()).1, (st_slices_IndexFunc_impl_Traffic_q1300_l0 y2) (walkL (f_slices_IndexFunc_impl_Traffic_q1300_l0) 1 y2 0 ()).2.1 (walkL (f_slices_IndexFunc_impl_Traffic_q1300_l0) 1 y2 0 ()).2.2) := by
  have key := lp_slices_IndexFunc_impl_Traffic_q1300_l0.along (st_slices_IndexFunc_impl_Traffic_q1300_l0 y2) pr_slices_IndexFunc_impl_Traffic_q1300_l0 (f_slices_IndexFunc_impl_Traffic_q1300_l0) 1 (fun _ _ => True) y2 () (by trivial) (by simp only [lp_slices_IndexFunc_impl_Traffic_q1300_l0, st_slices_IndexFunc_impl_Traffic_q1300_l0]; omega) (fun i b a hb hI => ?_) (fun a hI => ?_)
  · exact key
  · obtain ⟨⟩ := a
    have hlt := (List.getElem?_eq_some_iff.1 hb).1
    have hget : ∀ d, Option.getD y2[i]? d = b := fun d => by rw [hb]; rfl
    have hw := wrap64 hlt hn
    have hdec : ltI (i : Int) (y2.length : Int) = true := ltI_t (by omega)
    have hnn : leI (0 : Int) (i : Int) = true := leI_t (by omega)
    have hltd : ltN i y2.length = true := ltN_t hlt
    refine ⟨?_, ?_, ?_, ?_⟩
    · have hg2 : slices_IndexFunc_impl_Traffic_q1300_l0_a0 (i : Int) y2 = b := by simp only [slices_IndexFunc_impl_Traffic_q1300_l0_a0, Int.toNat_natCast]; exact hget _
      have h5 := hA b (List.mem_of_getElem? hb)
      simp only [slices_IndexFunc_impl_Traffic_q1300_l0_0, slices_IndexFunc_impl_Traffic_q1300_l0_1, slices_IndexFunc_impl_Traffic_q1300_l0_2, slices_IndexFunc_impl_Traffic_q1300_l0_3, slices_IndexFunc_impl_Traffic_q1300_l0_4, lt_slices_IndexFunc_impl_Traffic_q1300_l0, lp_slices_IndexFunc_impl_Traffic_q1300_l0, LT.nds, allT, st_slices_IndexFunc_impl_Traffic_q1300_l0, impl_FirstCollision_1_q1301_1, Int.toNat_natCast, hg2, hdec, hnn, hltd, h5, cond_true, Bool.cond_self]
    · simp [slices_IndexFunc_impl_Traffic_q1300_l0_a0, slices_IndexFunc_impl_Traffic_q1300_l0_0, slices_IndexFunc_impl_Traffic_q1300_l0_1, slices_IndexFunc_impl_Traffic_q1300_l0_2, slices_IndexFunc_impl_Traffic_q1300_l0_3, slices_IndexFunc_impl_Traffic_q1300_l0_4, slices_IndexFunc_impl_Traffic_q1300_l0_5, slices_IndexFunc_impl_Traffic_q1300_l0_6, lt_slices_IndexFunc_impl_Traffic_q1300_l0, lp_slices_IndexFunc_impl_Traffic_q1300_l0, LT.each, st_slices_IndexFunc_impl_Traffic_q1300_l0, pr_slices_IndexFunc_impl_Traffic_q1300_l0, hw]
    · have hg2 : slices_IndexFunc_impl_Traffic_q1300_l0_a0 (i : Int) y2 = b := by simp only [slices_IndexFunc_impl_Traffic_q1300_l0_a0, Int.toNat_natCast]; exact hget _
      simp only [slices_IndexFunc_impl_Traffic_q1300_l0_0, slices_IndexFunc_impl_Traffic_q1300_l0_5, lt_slices_IndexFunc_impl_Traffic_q1300_l0, lp_slices_IndexFunc_impl_Traffic_q1300_l0, LT.fn, st_slices_IndexFunc_impl_Traffic_q1300_l0, pr_slices_IndexFunc_impl_Traffic_q1300_l0, f_slices_IndexFunc_impl_Traffic_q1300_l0, hdec, hg2, cond_true]
    · exact fun _ _ => trivial
  · obtain ⟨⟩ := a
    simp [slices_IndexFunc_impl_Traffic_q1300_l0_a0, slices_IndexFunc_impl_Traffic_q1300_l0_0, slices_IndexFunc_impl_Traffic_q1300_l0_1, slices_IndexFunc_impl_Traffic_q1300_l0_2, slices_IndexFunc_impl_Traffic_q1300_l0_3, slices_IndexFunc_impl_Traffic_q1300_l0_4, slices_IndexFunc_impl_Traffic_q1300_l0_5, slices_IndexFunc_impl_Traffic_q1300_l0_6, lt_slices_IndexFunc_impl_Traffic_q1300_l0, lp_slices_IndexFunc_impl_Traffic_q1300_l0, LT.out, st_slices_IndexFunc_impl_Traffic_q1300_l0]

theorem trL_isT {n : Int} : ∀ (ts ps : List Int), isT n ps = true → ∀ p ∈ trL n ts ps, isT n p = true
  | [], ps, h, p, hp => by simp [trL] at hp; rw [hp]; exact h
  | t :: ts, ps, h, p, hp => by
    simp only [trL, List.mem_cons] at hp
    rcases hp with rfl | hp
    · exact h
    · exact trL_isT ts _ (isT_mov h t) p hp

theorem trL_length (n : Int) : ∀ (ts ps : List Int), (trL n ts ps).length = ts.length + 1
  | [], ps => rfl
  | t :: ts, ps => by simp [trL, trL_length n ts]

theorem fstL_done (n : Int) : ∀ (L : List (List Int)) (j f : Int), 0 ≤ f → fstL n L j f = f
  | [], _, _, _ => rfl
  | p :: L, j, f, h => by
    have h1 : ltI f 0 = false := ltI_f h
    rw [fstL, fstL_done n L _ _ (by simp [updF, h1]; exact h)]
    simp [updF, h1]

theorem fstL_eq (n : Int) : ∀ (L : List (List Int)) (j : Int), 0 ≤ j → (∀ p ∈ L, isT n p = true) →
    fstL n L j (-1) = bif (L.map fun p => (n, p)).any (fun x => !safeL x.1 x.2) then j + (((L.map fun p => (n, p)).takeWhile fun x => !!safeL x.1 x.2).length : Int) else -1
  | [], _, _, _ => rfl
  | p :: L, j, h, hT => by
    have h1 : ltI (-1) 0 = true := rfl
    have hp : isSf n p = safeL n p := isSf_of (hT p (by simp))
    cases hs : safeL n p with
    | false =>
      rw [fstL, updF, h1, hp, hs]
      simp only [cond_true, Bool.not_false]
      rw [fstL_done n L _ _ h]
      simp [hs]
    | true =>
      rw [fstL, updF, h1, hp, hs]
      simp only [cond_true, Bool.not_true, cond_false]
      rw [fstL_eq n L (j + 1) (by omega) fun q hq => hT q (by simp [hq])]
      simp only [List.map_cons, List.any_cons, hs, Bool.not_true, Bool.false_or, List.takeWhile_cons, Bool.not_false, if_true, List.length_cons]
      cases (L.map fun p => (n, p)).any (fun x => !safeL x.1 x.2) with
      | true => simp only [cond_true]; omega
      | false => rfl

theorem implFirst_ok (n : Int) (ps : List Int) (fs : List (Int × Int × Int)) (ts : List Int) :
    slices_IndexFunc_impl_Traffic_q1300_0 (ctL n ps fs ts) = (bif ctOk n ps fs ts then fstL n (trL n ts ps) 0 (-1) else -1) ∧ slices_IndexFunc_impl_Traffic_q1300_2 (ctL n ps fs ts) = true := by
  have hA : ∀ x ∈ ctL n ps fs ts, isT x.1 x.2 = true := by
    intro x hx
    simp only [ctL] at hx
    cases hk : ctOk n ps fs ts <;> rw [hk] at hx
    · cases hx
    · simp only [cond_true, List.mem_map] at hx
      obtain ⟨p, hp, rfl⟩ := hx
      refine trL_isT ts ps ?_ p hp
      cases hT : isT n ps with
      | true => rfl
      | false => simp [ctOk, ctCode, hT, eqI] at hk
  have hl : (ctL n ps fs ts).length ≤ 9223372036854775807 := by
    simp only [ctL]
    cases hk : ctOk n ps fs ts with
    | false => simp
    | true =>
      simp only [cond_true, List.length_map, trL_length]
      have : leN ts.length 200 = true := by
        cases hL : leN ts.length 200 with
        | true => rfl
        | false => cases hT : isT n ps <;> simp [ctOk, ctCode, hT, hL, eqI] at hk
      have := leN_iff.1 this
      omega
  obtain ⟨w1, w2⟩ := w_slices_IndexFunc_impl_Traffic_q1300_l0 (ctL n ps fs ts) hl hA
  rw [walk_stop (P := fun x => !safeL x.1 x.2) (j := 0) (fun x => by simp only [f_slices_IndexFunc_impl_Traffic_q1300_l0, impl_FirstCollision_1_q1301_0])] at w2
  refine ⟨?_, ?_⟩
  · simp only [slices_IndexFunc_impl_Traffic_q1300_a0, slices_IndexFunc_impl_Traffic_q1300_a1, slices_IndexFunc_impl_Traffic_q1300_0, slices_IndexFunc_impl_Traffic_q1300_1, slices_IndexFunc_impl_Traffic_q1300_2, w2, st_slices_IndexFunc_impl_Traffic_q1300_l0]
    cases hk : ctOk n ps fs ts with
    | false => simp [ctL, hk]; rfl
    | true =>
      have hT : isT n ps = true := by
        cases hT : isT n ps with
        | true => rfl
        | false => simp [ctOk, ctCode, hT, eqI] at hk
      rw [cond_true, fstL_eq n _ 0 (by omega) (trL_isT ts ps hT)]
      simp only [ctL, hk, cond_true]
      cases (List.map (fun p => (n, p)) (trL n ts ps)).any fun x => !safeL x.1 x.2 with
      | true => simp [Nat.beq]
      | false => rfl
  · simp only [slices_IndexFunc_impl_Traffic_q1300_a0, slices_IndexFunc_impl_Traffic_q1300_a1, slices_IndexFunc_impl_Traffic_q1300_0, slices_IndexFunc_impl_Traffic_q1300_1, slices_IndexFunc_impl_Traffic_q1300_2, w1, allT, cond_true]

theorem implFirstC_ok (n : Int) (ps : List Int) (fs : List (Int × Int × Int)) (ts : List Int) (hn : leN fs.length 9223372036854775807 = true) :
    impl_FirstCollision_0 n ps fs ts = ctF n ps fs ts ∧ impl_FirstCollision_1 n ps fs ts = ctCode n ps fs ts ∧ impl_FirstCollision_2 n ps fs ts = true := by
  obtain ⟨h1, h2⟩ := implFirst_ok n ps fs ts
  simp only [impl_FirstCollision_0, impl_FirstCollision_1, impl_FirstCollision_2, impl_FirstCollision_a0, h1, h2, ctF, hn, allT]
  by_cases hc : ctCode n ps fs ts = 0
  · have : ctOk n ps fs ts = true := eqI_t hc
    simp [hc, this]
  · have h3 : ctOk n ps fs ts = false := by simp [ctOk, hc]
    have h4 : (ctCode n ps fs ts != 0) = true := by simpa using hc
    simp [h3, h4]

def N_impl_FirstCollision : List SV → List Entry → Option Out
  | [.one ⟨true, [.val (.int .i64 x0), .ref 0]⟩, .one ⟨false, [.ref 1]⟩, .one ⟨false, [.ref 2]⟩], [.row false 2 (.int .i64) x1, .row false 118 (.pair (.int .i64) (.pair (.int .i64) (.int .i64))) x2, .row false 2 (.int .i64) x3] => some ⟨(.tup [⟨false, [(.val (.int IntKind.i64 (ctF x0 x1 x2 x3)))]⟩, ⟨false, [(.val (.int IntKind.i64 (ctCode x0 x1 x2 x3)))]⟩]), [(.row false 2 (CTy.int IntKind.i64) x1), (.row false 118 (CTy.pair (CTy.int IntKind.i64) (CTy.pair (CTy.int IntKind.i64) (CTy.int IntKind.i64))) x2), (.row false 2 (CTy.int IntKind.i64) x3)], [], [leN x2.length 9223372036854775807]⟩
  | _, _ => none

def n_impl_FirstCollision : PF Try.prog := PF.alt p_impl_FirstCollision N_impl_FirstCollision (by
  intro args es o h hnd; unfold N_impl_FirstCollision at h; split at h
  · rename_i x0 x1 x2 x3
    cases h
    have hnd := nd_fst hnd
    have hh := implFirstC_ok x0 x1 x2 x3 hnd
    obtain ⟨e0, e1, en⟩ := hh
    exact altok rfl (nd_one en) (by simp only [e0, e1] <;> rfl) rfl rfl
  · cases h)

end Go.SX

/- Traffic, in plain words: how many trains use each block. -/
import Derived.Test.YtjhgiognlkmehaaGreatRg
namespace Go.SX
open Go.Proofs
set_option maxRecDepth 100000

def usesTo (n : Int) (ps : List Int) : List Int := (List.range n.toNat).map fun (b : Nat) => (cntB n ps (b : Int) : Int)

theorem usesTo_length (n : Int) (ps : List Int) : (usesTo n ps).length = n.toNat := by simp [usesTo]

def f_loop_example_g00916_impl_Traffic_uses_l0_l0  (b : Int) : (List Int) → Nat ⊕ (List Int)
  | y3 => (.inr ((List.set y3 (Int.toNat ((b))) (IntKind.wrap IntKind.i64 (Option.getD y3[Int.toNat ((b))]? (0 : Int) + (1 : Int))))))

def st_loop_example_g00916_impl_Traffic_uses_l0_l0 (y2 : List Int) (i : Nat) : (List Int) → X_loop_example_g00916_impl_Traffic_uses_l0_l0
  | y3 => ((i : Int), (↑(List.length y2) : Int), y2, y3)

def pr_loop_example_g00916_impl_Traffic_uses_l0_l0 : X_loop_example_g00916_impl_Traffic_uses_l0_l0 → List Int
  | (_, _, _, y3) => y3

theorem w_loop_example_g00916_impl_Traffic_uses_l0_l0 (y2 : List Int) (y3 : List Int) (hn : y2.length ≤ 9223372036854775807) (hU : ∀ u ∈ y2, 0 ≤ u ∧ u < (y3.length : Int)) :
    lp_loop_example_g00916_impl_Traffic_uses_l0_l0.fin ((0 : Int), (↑(List.length y2) : Int), y2, y3) = true ∧ lp_loop_example_g00916_impl_Traffic_uses_l0_l0.res ((0 : Int), (↑(List.length y2) : Int), y2, y3) = ((walkL (f_loop_example_g00916_impl_Traffic_uses_l0_l0) 0 y2 0 y3).1, (st_loop_example_g00916_impl_Traffic_uses_l0_l0 y2) (walkL (f_loop_example_g00916_impl_Traffic_uses_l0_l0) 0 y2 0 y3).2.1 (walkL (f_loop_example_g00916_impl_Traffic_uses_l0_l0) 0 y2 0 y3).2.2) := by
  have key := lp_loop_example_g00916_impl_Traffic_uses_l0_l0.along (st_loop_example_g00916_impl_Traffic_uses_l0_l0 y2) pr_loop_example_g00916_impl_Traffic_uses_l0_l0 (f_loop_example_g00916_impl_Traffic_uses_l0_l0) 0 (fun _ a => a.length = y3.length) y2 y3 rfl (by simp only [lp_loop_example_g00916_impl_Traffic_uses_l0_l0, st_loop_example_g00916_impl_Traffic_uses_l0_l0]; omega) (fun i b a hb hI => ?_) (fun a hI => ?_)
  · exact key
  · obtain y3 := a
    have hlt := (List.getElem?_eq_some_iff.1 hb).1
    have hget : ∀ d, Option.getD y2[i]? d = b := fun d => by rw [hb]; rfl
    have hw := wrap64 hlt hn
    have hdec : ltI (i : Int) (y2.length : Int) = true := ltI_t (by omega)
    have hnn : leI (0 : Int) (i : Int) = true := leI_t (by omega)
    have hltd : ltN i y2.length = true := ltN_t hlt
    refine ⟨?_, ?_, ?_, ?_⟩
    · have hu := hU b (List.mem_of_getElem? hb)
      have e1 : leI 0 b = true := leI_t hu.1
      have e2 : ltI b (a.length : Int) = true := ltI_t (by omega)
      have e3 : ltN b.toNat a.length = true := ltN_t (by omega)
      simp only [loop_example_g00916_impl_Traffic_uses_l0_l0_a0, loop_example_g00916_impl_Traffic_uses_l0_l0_0, loop_example_g00916_impl_Traffic_uses_l0_l0_1, loop_example_g00916_impl_Traffic_uses_l0_l0_2, loop_example_g00916_impl_Traffic_uses_l0_l0_3, loop_example_g00916_impl_Traffic_uses_l0_l0_4, loop_example_g00916_impl_Traffic_uses_l0_l0_5, loop_example_g00916_impl_Traffic_uses_l0_l0_6, loop_example_g00916_impl_Traffic_uses_l0_l0_7, loop_example_g00916_impl_Traffic_uses_l0_l0_8, lt_loop_example_g00916_impl_Traffic_uses_l0_l0, lp_loop_example_g00916_impl_Traffic_uses_l0_l0, LT.nds, allT, st_loop_example_g00916_impl_Traffic_uses_l0_l0, Int.toNat_natCast, hdec, hnn, hltd, hget, e1, e2, e3, cond_true]
    · simp [loop_example_g00916_impl_Traffic_uses_l0_l0_a0, loop_example_g00916_impl_Traffic_uses_l0_l0_0, loop_example_g00916_impl_Traffic_uses_l0_l0_1, loop_example_g00916_impl_Traffic_uses_l0_l0_2, loop_example_g00916_impl_Traffic_uses_l0_l0_3, loop_example_g00916_impl_Traffic_uses_l0_l0_4, loop_example_g00916_impl_Traffic_uses_l0_l0_5, loop_example_g00916_impl_Traffic_uses_l0_l0_6, loop_example_g00916_impl_Traffic_uses_l0_l0_7, loop_example_g00916_impl_Traffic_uses_l0_l0_8, lt_loop_example_g00916_impl_Traffic_uses_l0_l0, lp_loop_example_g00916_impl_Traffic_uses_l0_l0, LT.each, st_loop_example_g00916_impl_Traffic_uses_l0_l0, pr_loop_example_g00916_impl_Traffic_uses_l0_l0, hw]
    · simp only [loop_example_g00916_impl_Traffic_uses_l0_l0_a0, loop_example_g00916_impl_Traffic_uses_l0_l0_0, loop_example_g00916_impl_Traffic_uses_l0_l0_1, loop_example_g00916_impl_Traffic_uses_l0_l0_2, loop_example_g00916_impl_Traffic_uses_l0_l0_3, loop_example_g00916_impl_Traffic_uses_l0_l0_4, loop_example_g00916_impl_Traffic_uses_l0_l0_5, loop_example_g00916_impl_Traffic_uses_l0_l0_6, loop_example_g00916_impl_Traffic_uses_l0_l0_7, loop_example_g00916_impl_Traffic_uses_l0_l0_8, lt_loop_example_g00916_impl_Traffic_uses_l0_l0, lp_loop_example_g00916_impl_Traffic_uses_l0_l0, LT.fn, st_loop_example_g00916_impl_Traffic_uses_l0_l0, pr_loop_example_g00916_impl_Traffic_uses_l0_l0, f_loop_example_g00916_impl_Traffic_uses_l0_l0, Int.toNat_natCast, hdec, hnn, hltd, hget, cond_true, Bool.cond_self]
    · intro a' hf; simp only [f_loop_example_g00916_impl_Traffic_uses_l0_l0, Sum.inr.injEq] at hf; subst hf; simpa using hI
  · obtain y3 := a
    simp [loop_example_g00916_impl_Traffic_uses_l0_l0_a0, loop_example_g00916_impl_Traffic_uses_l0_l0_0, loop_example_g00916_impl_Traffic_uses_l0_l0_1, loop_example_g00916_impl_Traffic_uses_l0_l0_2, loop_example_g00916_impl_Traffic_uses_l0_l0_3, loop_example_g00916_impl_Traffic_uses_l0_l0_4, loop_example_g00916_impl_Traffic_uses_l0_l0_5, loop_example_g00916_impl_Traffic_uses_l0_l0_6, loop_example_g00916_impl_Traffic_uses_l0_l0_7, loop_example_g00916_impl_Traffic_uses_l0_l0_8, lt_loop_example_g00916_impl_Traffic_uses_l0_l0, lp_loop_example_g00916_impl_Traffic_uses_l0_l0, LT.out, st_loop_example_g00916_impl_Traffic_uses_l0_l0]

def incW (a : List Int) (u : Int) : List Int := a.set u.toNat (IntKind.wrap IntKind.i64 (Option.getD a[u.toNat]? 0 + 1))

theorem incs (N : Nat) : ∀ (us : List Int) (c : Nat → Int), (∀ u ∈ us, 0 ≤ u ∧ u < (N : Int)) → (∀ b, 0 ≤ c b ∧ c b + us.length ≤ 1000000) →
    us.foldl incW ((List.range N).map c) = (List.range N).map fun (b : Nat) => c b + (us.count (b : Int) : Int)
  | [], c, _, _ => by simp
  | u :: us, c, hu, hc => by
    have hu0 := hu u (by simp)
    have hlt : u.toNat < N := by omega
    have h1 : incW ((List.range N).map c) u = (List.range N).map fun (b : Nat) => if (b : Int) = u then c b + 1 else c b := by
      unfold incW
      have hg : Option.getD ((List.range N).map c)[u.toNat]? 0 = c u.toNat := by simp [List.getElem?_map, List.getElem?_range hlt]
      have hcu := hc u.toNat
      simp only [List.length_cons] at hcu
      rw [hg, wrap_i64 (by omega) (by omega)]
      refine List.ext_getElem? fun i => ?_
      rw [List.getElem?_set]
      by_cases hi : u.toNat = i
      · rw [if_pos hi, if_pos (by simpa using hlt)]
        subst hi
        rw [List.getElem?_map, List.getElem?_range hlt, Option.map_some, if_pos (by omega)]
      · rw [if_neg hi, List.getElem?_map, List.getElem?_map]
        by_cases hiN : i < N
        · rw [List.getElem?_range hiN, Option.map_some, Option.map_some, if_neg (by omega)]
        · rw [List.getElem?_eq_none (by simp; omega)]; rfl
    rw [List.foldl_cons, h1, incs N us _ (fun v hv => hu v (by simp [hv])) (fun b => by
      have := hc b
      simp only [List.length_cons] at this
      split <;> omega)]
    refine List.map_congr_left fun b _ => ?_
    rw [List.count_cons]
    by_cases hb : (b : Int) = u
    · rw [if_pos hb, if_pos (by simp [hb])]; omega
    · rw [if_neg hb, if_neg (by simp; omega)]; omega

theorem inner_ok {n p : Int} {qs : List Int} (h : okP n p = true) (hq : qs.length ≤ 50) :
    lp_loop_example_g00916_impl_Traffic_uses_l0_l0.fin ((0 : Int), ((usedL n p).length : Int), usedL n p, usesTo n qs) = true ∧
      (lp_loop_example_g00916_impl_Traffic_uses_l0_l0.res ((0 : Int), ((usedL n p).length : Int), usedL n p, usesTo n qs)).2.2.2.2 = usesTo n (qs ++ [p]) := by
  obtain ⟨hu, hl, hc⟩ := used_facts h
  have hn := (okP_iff.1 h).1
  obtain ⟨w1, w2⟩ := w_loop_example_g00916_impl_Traffic_uses_l0_l0 (usedL n p) (usesTo n qs) (by omega) (fun u hm => by rw [usesTo_length]; have := hu u hm; omega)
  refine ⟨w1, ?_⟩
  rw [w2, walk_gather (f := f_loop_example_g00916_impl_Traffic_uses_l0_l0) (g := incW) (fun b a => rfl)]
  simp only [st_loop_example_g00916_impl_Traffic_uses_l0_l0]
  unfold usesTo
  rw [incs n.toNat (usedL n p) _ (fun u hm => by have := hu u hm; omega) (fun b => by
    have : cntB n qs (b : Int) ≤ qs.length := List.countP_le_length
    omega)]
  refine List.map_congr_left fun b _ => ?_
  rw [hc b]
  simp only [cntB, List.countP_append, List.countP_cons, List.countP_nil]
  cases usesB n p (b : Int) <;> simp

theorem take_snoc {ps : List Int} {b : Nat} (h : b < ps.length) : ps.take (b + 1) = ps.take b ++ [ps[b]?.getD 0] := by
  rw [List.take_add_one, List.getElem?_eq_getElem h]; rfl

def f_loop_example_g00916_impl_Traffic_uses_l0 (y2 : Int) (y4 : List Int) (b : Nat) : (List Int) → Nat ⊕ (List Int)
  | y3 => (.inr ((Prod.snd (Prod.snd (Prod.snd (Prod.snd (Lp.res lp_loop_example_g00916_impl_Traffic_uses_l0_l0 ((((0 : Int), (↑(List.length (usedL y2 (atI y4 (↑b : Int)))) : Int), usedL y2 (atI y4 (↑b : Int)), y3))))))))))

def st_loop_example_g00916_impl_Traffic_uses_l0 (y1 : Int) (y2 : Int) (y4 : List Int) (i : Nat) : (List Int) → X_loop_example_g00916_impl_Traffic_uses_l0
  | y3 => ((i : Int), y1, y2, y3, y4)

def pr_loop_example_g00916_impl_Traffic_uses_l0 : X_loop_example_g00916_impl_Traffic_uses_l0 → List Int
  | (_, _, _, y3, _) => y3

theorem w_loop_example_g00916_impl_Traffic_uses_l0 (y1 : Int) (y2 : Int) (y4 : List Int) (y3 : List Int) (hn : y1 ≤ 9223372036854775807) (hl : y1 = (y4.length : Int)) (hT : isT y2 y4 = true) (h3 : y3 = usesTo y2 []) :
    lp_loop_example_g00916_impl_Traffic_uses_l0.fin ((0 : Int), y1, y2, y3, y4) = true ∧ lp_loop_example_g00916_impl_Traffic_uses_l0.res ((0 : Int), y1, y2, y3, y4) = ((walkL (f_loop_example_g00916_impl_Traffic_uses_l0 y2 y4) 0 (List.range y1.toNat) 0 y3).1, (st_loop_example_g00916_impl_Traffic_uses_l0 y1 y2 y4) (walkL (f_loop_example_g00916_impl_Traffic_uses_l0 y2 y4) 0 (List.range y1.toNat) 0 y3).2.1 (walkL (f_loop_example_g00916_impl_Traffic_uses_l0 y2 y4) 0 (List.range y1.toNat) 0 y3).2.2) := by
  have key := lp_loop_example_g00916_impl_Traffic_uses_l0.along (st_loop_example_g00916_impl_Traffic_uses_l0 y1 y2 y4) pr_loop_example_g00916_impl_Traffic_uses_l0 (f_loop_example_g00916_impl_Traffic_uses_l0 y2 y4) 0 (fun i a => a = usesTo y2 (y4.take i)) (List.range y1.toNat) y3 (by subst h3; simp) (by simp only [lp_loop_example_g00916_impl_Traffic_uses_l0, st_loop_example_g00916_impl_Traffic_uses_l0, List.length_range]; omega) (fun i b a hb hI => ?_) (fun a hI => ?_)
  · exact key
  · obtain y3 := a
    obtain ⟨rfl, hlt⟩ := range_get hb
    have hw : IntKind.i64.wrap ((b : Int) + 1) = ((b + 1 : Nat) : Int) := by rw [wrap_i64 (by omega) (by omega)]; omega
    have hdec : ltI (b : Int) y1 = true := ltI_t (by omega)
    have hnn : leI (0 : Int) (b : Int) = true := leI_t (by omega)
    refine ⟨?_, ?_, ?_, ?_⟩
    · have h4 := (isT_iff.1 hT).2.1
      have hbl : b < y4.length := by omega
      have hm : mvOk y2 y4 (b : Int) = true := mvOk_iff.2 ⟨hT, hasT_iff.2 (by omega)⟩
      have hp : okP y2 (atI y4 (b : Int)) = true := isT_okP hT (by unfold atI; rw [Int.toNat_natCast, List.getElem?_eq_getElem hbl]; exact List.getElem_mem hbl)
      obtain ⟨i1, i2⟩ := inner_ok (qs := y4.take b) hp (by rw [List.length_take]; omega)
      subst hI
      simp only [loop_example_g00916_impl_Traffic_uses_l0_a0, loop_example_g00916_impl_Traffic_uses_l0_0, loop_example_g00916_impl_Traffic_uses_l0_1, loop_example_g00916_impl_Traffic_uses_l0_2, loop_example_g00916_impl_Traffic_uses_l0_3, loop_example_g00916_impl_Traffic_uses_l0_4, lt_loop_example_g00916_impl_Traffic_uses_l0, lp_loop_example_g00916_impl_Traffic_uses_l0, LT.nds, allT, st_loop_example_g00916_impl_Traffic_uses_l0, hdec, hm, i1, cond_true]
    · simp [loop_example_g00916_impl_Traffic_uses_l0_a0, loop_example_g00916_impl_Traffic_uses_l0_0, loop_example_g00916_impl_Traffic_uses_l0_1, loop_example_g00916_impl_Traffic_uses_l0_2, loop_example_g00916_impl_Traffic_uses_l0_3, loop_example_g00916_impl_Traffic_uses_l0_4, lt_loop_example_g00916_impl_Traffic_uses_l0, lp_loop_example_g00916_impl_Traffic_uses_l0, LT.each, st_loop_example_g00916_impl_Traffic_uses_l0, pr_loop_example_g00916_impl_Traffic_uses_l0, hw]
    · simp only [loop_example_g00916_impl_Traffic_uses_l0_a0, loop_example_g00916_impl_Traffic_uses_l0_0, loop_example_g00916_impl_Traffic_uses_l0_1, loop_example_g00916_impl_Traffic_uses_l0_2, loop_example_g00916_impl_Traffic_uses_l0_3, loop_example_g00916_impl_Traffic_uses_l0_4, lt_loop_example_g00916_impl_Traffic_uses_l0, lp_loop_example_g00916_impl_Traffic_uses_l0, LT.fn, st_loop_example_g00916_impl_Traffic_uses_l0, pr_loop_example_g00916_impl_Traffic_uses_l0, f_loop_example_g00916_impl_Traffic_uses_l0, Int.toNat_natCast, hdec, hnn, cond_true, Bool.cond_self]
    · intro a' hf
      have h4 := (isT_iff.1 hT).2.1
      have hbl : b < y4.length := by omega
      have hp : okP y2 (atI y4 (b : Int)) = true := isT_okP hT (by unfold atI; rw [Int.toNat_natCast, List.getElem?_eq_getElem hbl]; exact List.getElem_mem hbl)
      obtain ⟨i1, i2⟩ := inner_ok (qs := y4.take b) hp (by rw [List.length_take]; omega)
      subst hI
      simp only [f_loop_example_g00916_impl_Traffic_uses_l0, i2, Sum.inr.injEq] at hf
      rw [← hf, take_snoc hbl]
      rfl
  · obtain y3 := a
    simp only [loop_example_g00916_impl_Traffic_uses_l0_a0, loop_example_g00916_impl_Traffic_uses_l0_0, loop_example_g00916_impl_Traffic_uses_l0_1, loop_example_g00916_impl_Traffic_uses_l0_2, loop_example_g00916_impl_Traffic_uses_l0_3, loop_example_g00916_impl_Traffic_uses_l0_4, lt_loop_example_g00916_impl_Traffic_uses_l0, lp_loop_example_g00916_impl_Traffic_uses_l0, LT.out, st_loop_example_g00916_impl_Traffic_uses_l0, List.length_range, ltI_toNat, ltI_down, cond_false]

theorem uses_eq (n : Int) (ps : List Int) : ∀ (m : Nat), m ≤ ps.length → (∀ b, b < m → ∀ a, a = usesTo n (ps.take b) → f_loop_example_g00916_impl_Traffic_uses_l0 n ps b a = .inr (usesTo n (ps.take (b + 1)))) →
    (walkL (f_loop_example_g00916_impl_Traffic_uses_l0 n ps) 0 (List.range m) 0 (usesTo n [])).2.2 = usesTo n (ps.take m) := by
  have key : ∀ (k i s : Nat), (∀ b, b < s + k → ∀ a, a = usesTo n (ps.take b) → f_loop_example_g00916_impl_Traffic_uses_l0 n ps b a = .inr (usesTo n (ps.take (b + 1)))) →
      (walkL (f_loop_example_g00916_impl_Traffic_uses_l0 n ps) 0 ((List.range k).map (· + s)) i (usesTo n (ps.take s))).2.2 = usesTo n (ps.take (s + k)) := by
    intro k
    induction k with
    | zero => intro i s _; rfl
    | succ k ih =>
      intro i s hb
      rw [List.range_succ_eq_map, List.map_cons, List.map_map]
      simp only [walkL, Nat.zero_add]
      rw [hb s (by omega) _ rfl]
      have := ih (i + 1) (s + 1) (fun b hlt => hb b (by omega))
      have he : List.map ((fun x => x + s) ∘ Nat.succ) (List.range k) = (List.range k).map (· + (s + 1)) := List.map_congr_left fun x _ => by simp only [Function.comp]; omega
      rw [he]
      show (walkL (f_loop_example_g00916_impl_Traffic_uses_l0 n ps) 0 ((List.range k).map (· + (s + 1))) (i + 1) (usesTo n (ps.take (s + 1)))).2.2 = _
      rw [this]
      congr 2; omega
  intro m hm hb
  have := key m 0 0 (by simpa using hb)
  simpa using this

theorem uses_ok2 (n : Int) (ps : List Int) (hT : isT n ps = true) : loop_example_g00916_impl_Traffic_uses_0 n ps = usesTo n ps ∧ loop_example_g00916_impl_Traffic_uses_1 n ps = true := by
  have h1 := (isT_iff.1 hT).1
  have h4 := (isT_iff.1 hT).2.1
  have hr : List.replicate (Int.toNat n) (0 : Int) = usesTo n [] := by
    unfold usesTo
    refine List.ext_getElem (by simp) fun i h1 h2 => by simp [cntB]
  obtain ⟨w1, w2⟩ := w_loop_example_g00916_impl_Traffic_uses_l0 (ps.length : Int) n ps (usesTo n []) (by omega) rfl hT rfl
  have hw := uses_eq n ps ps.length (Nat.le_refl _) (fun b hb a ha => by
    have hp : okP n (atI ps (b : Int)) = true := isT_okP hT (by unfold atI; rw [Int.toNat_natCast, List.getElem?_eq_getElem hb]; exact List.getElem_mem hb)
    obtain ⟨i1, i2⟩ := inner_ok (qs := ps.take b) hp (by rw [List.length_take]; omega)
    subst ha
    simp only [f_loop_example_g00916_impl_Traffic_uses_l0, i2, take_snoc hb]
    rfl)
  have e1 : ((ps.length : Int)).toNat = ps.length := by omega
  rw [e1] at w2
  refine ⟨?_, ?_⟩
  · simp only [loop_example_g00916_impl_Traffic_uses_0, loop_example_g00916_impl_Traffic_uses_a0, impl_length_int64_0, hr, w2, st_loop_example_g00916_impl_Traffic_uses_l0, hw, List.take_length]
  · simp only [loop_example_g00916_impl_Traffic_uses_1, loop_example_g00916_impl_Traffic_uses_a0, impl_length_int64_0, hr, w1, allT]
    simp; omega

def N_loop_example_g00916_impl_Traffic_uses : List SV → List Entry → Option Out
  | [.one ⟨true, [.val (.int .i64 x0), .ref 0]⟩], [.row false 2 (.int .i64) x1] => some ⟨(.one ⟨false, [(.ref 1)]⟩), [(.row false 2 (CTy.int IntKind.i64) x1)], [(.row true 2 (CTy.int IntKind.i64) (usesTo x0 x1))], [isT x0 x1]⟩
  | _, _ => none

def n_loop_example_g00916_impl_Traffic_uses : PF Tryz.prog := PF.alt p_loop_example_g00916_impl_Traffic_uses N_loop_example_g00916_impl_Traffic_uses (by
  intro args es o h hnd; unfold N_loop_example_g00916_impl_Traffic_uses at h; split at h
  · rename_i x0 x1
    cases h
    have hnd := nd_fst hnd
    have hh := uses_ok2 x0 x1 hnd
    obtain ⟨e0, en⟩ := hh
    exact altok rfl (nd_one en) rfl rfl (by simp only [e0] <;> rfl)
  · cases h)

/-! ### The greatest of a list -/

theorem max_fold : ∀ (xs : List Int) (m : Int), leI (xs.foldl (fun m b => bif ltI m b then b else m) m) 1 = (leI m 1 && xs.all fun b => leI b 1)
  | [], m => by simp
  | x :: xs, m => by
    rw [List.foldl_cons, max_fold xs, List.all_cons]
    cases h : ltI m x with
    | true =>
      have := ltI_iff.1 h
      cases h1 : leI x 1 with
      | true => have := leI_iff.1 h1; simp [h1, leI_t (show m ≤ 1 by omega)]
      | false => simp [h1]
    | false =>
      have := ltI_not.1 h
      cases h1 : leI m 1 with
      | true => have := leI_iff.1 h1; simp [h1, leI_t (show x ≤ 1 by omega)]
      | false => simp [h1]

def maxL : List Int → Int
  | [] => 0
  | x :: xs => xs.foldl (fun m b => bif ltI m b then b else m) x

theorem maxL_le (xs : List Int) (h : 1 ≤ xs.length) : leI (maxL xs) 1 = xs.all fun b => leI b 1 := by
  match xs, h with
  | x :: xs, _ => simp only [maxL, max_fold, List.all_cons]

theorem max_ok (xs : List Int) (h : (leN 1 xs.length && leN xs.length 1048576) = true) : slices_Max_int64_int64_0 xs = maxL xs ∧ slices_Max_int64_int64_1 xs = true := by
  simp only [Bool.and_eq_true, leN_iff] at h
  match xs, h with
  | x :: xs, h =>
    obtain ⟨w1, w2⟩ := w_slices_Max_int64_int64_l0 (x :: xs) x (by omega)
    rw [walk_gather (f := f_slices_Max_int64_int64_l0) (g := fun m b => bif ltI m b then b else m) (fun b a => by simp only [f_slices_Max_int64_int64_l0, ifLt_eq])] at w2
    have e0 : Option.getD (x :: xs)[Int.toNat 0]? 0 = x := rfl
    refine ⟨?_, ?_⟩
    · simp only [slices_Max_int64_int64_0, slices_Max_int64_int64_a0, e0, w2, st_slices_Max_int64_int64_l0, maxL]
      rfl
    · simp only [slices_Max_int64_int64_1, slices_Max_int64_int64_a0, e0, w1, allT]
      simp; omega

def N_slices_Max_int64_int64 : List SV → List Entry → Option Out
  | [.one ⟨false, [.ref 0]⟩], [.row false 2 (.int .i64) x0] => some ⟨(.one ⟨false, [(.val (.int IntKind.i64 (maxL x0)))]⟩), [(.row false 2 (CTy.int IntKind.i64) x0)], [], [leN 1 x0.length && leN x0.length 1048576]⟩
  | _, _ => none

def n_slices_Max_int64_int64 : PF Tryz.prog := PF.alt p_slices_Max_int64_int64 N_slices_Max_int64_int64 (by
  intro args es o h hnd; unfold N_slices_Max_int64_int64 at h; split at h
  · rename_i x0
    cases h
    have hnd := nd_fst hnd
    have hh := max_ok x0 hnd
    obtain ⟨e0, en⟩ := hh
    exact altok rfl (nd_one en) (by simp only [e0] <;> rfl) rfl rfl
  · cases h)

theorem safe_max (n : Int) (ps : List Int) (hT : isT n ps = true) : leI (maxL (usesTo n ps)) 1 = safeL n ps := by
  have h1 := (isT_iff.1 hT).1
  rw [maxL_le _ (by rw [usesTo_length]; omega)]
  simp only [usesTo, safeL, List.all_map]
  rfl

end Go.SX

/- A symbolic evaluator over the model's own operations, part 8: a region, in whatever order. -/
import Derived.Test.YtjncnnpdaeociaaTX7
namespace Go.SX
open Go.RowKit

section
variable {P : Program} {tbl : List (PF P)} {s s' : St} {i : Nat} {W : Nat → Bool} {ops : List Oper} {o : Oper} {d : Dl} {B : Base} {ρ : Nm} {a : Act} {w : World} {Q : Exit → Act → World → Prop}

/-- Each operation's step stands at the state behind those before it. -/
theorem runT_at : ∀ (r : List Oper) (k : Nat) (s s' : St) (l : List Inf), runT P tbl W ops s k r = some (s', l) →
    l.length = r.length ∧ s' = applyD (fun _ => true) k l s ∧
    ∀ j o, r[j]? = some o → ∃ x, l[j]? = some x ∧ opD P tbl W ops (applyD (fun m => Nat.blt m (k + j)) k l s) (k + j) o = some x.d ∧ x.rs = looks ops (applyD (fun m => Nat.blt m (k + j)) k l s) o
  | [], k, s, s', l, h => by
    simp [runT] at h; obtain ⟨rfl, rfl⟩ := h
    exact ⟨rfl, rfl, fun j o ho => by simp at ho⟩
  | o :: r, k, s, s', l, h => by
    simp only [runT] at h
    split at h
    · cases h
    · rename_i d hd
      split at h
      · rename_i s1 l1 h1
        cases h
        obtain ⟨e1, e2, e3⟩ := runT_at r (k + 1) _ _ _ h1
        refine ⟨by simp [e1], by simp only [applyD, cond_true]; exact e2, fun j o' ho' => ?_⟩
        cases j with
        | zero =>
          simp at ho'; subst ho'
          have : applyD (fun m => Nat.blt m (k + 0)) k (⟨d, looks ops s o⟩ :: l1) s = s := by
            have h0 : ∀ (l : List Inf) (m : Nat) (s : St), k ≤ m → applyD (fun q => Nat.blt q (k + 0)) m l s = s := by
              intro l
              induction l with
              | nil => intros; rfl
              | cons y t ih =>
                intro m s hm
                simp only [applyD]
                have hb : Nat.blt m (k + 0) = false := by
                  cases hb : Nat.blt m (k + 0) with
                  | false => rfl
                  | true => have := Nat.le_of_ble_eq_true hb; omega
                rw [hb]; exact ih (m + 1) s (by omega)
            exact h0 _ _ _ (Nat.le_refl _)
          rw [this]
          exact ⟨⟨d, looks ops s o⟩, by simp, hd, rfl⟩
        | succ j =>
          obtain ⟨x, hx1, hx2, hx3⟩ := e3 j o' (by simpa using ho')
          have hb : Nat.blt k (k + (j + 1)) = true := Nat.ble_eq_true_of_le (by omega)
          refine ⟨x, by simpa using hx1, ?_⟩
          simp only [applyD, hb, cond_true]
          rw [show k + (j + 1) = k + 1 + j by omega]
          exact ⟨hx2, hx3⟩
      · cases h

/-- What has come up: with each operation all that it must come behind. -/
def Closed (ops : List Oper) (D : Nat → Bool) : Prop :=
  ∀ j o, ops[j]? = some o → D j = true → ∀ e ∈ o.after.toList, Region.binds .any e = true → D e.on = true

theorem maskOf_sound {D : Nat → Bool} {acc : List Nat} (hacc : ∀ j m i, acc[j]? = some m → m.testBit i = true → D j = true → D i = true) :
    ∀ (es : List Edge), (∀ e ∈ es, Region.binds .any e = true → D e.on = true) → ∀ i, (maskOf acc es).testBit i = true → D i = true
  | [], _, i, h => by simp [maskOf] at h
  | e :: r, he, i, h => by
    simp only [maskOf] at h
    have ih := maskOf_sound hacc r (fun e' h' => he e' (List.mem_cons_of_mem _ h')) i
    cases hb : Region.binds .any e with
    | false => simp only [hb, cond_false] at h; exact ih h
    | true =>
      simp only [hb, cond_true, Nat.testBit_or, Bool.or_eq_true] at h
      have hon := he e (by simp) hb
      rcases h with h | h | h
      · rw [Nat.testBit_two_pow] at h
        have : e.on = i := by simpa using h
        rw [← this]; exact hon
      · cases ha : acc[e.on]? with
        | none => simp [ha] at h
        | some m => simp [ha] at h; exact hacc _ m i ha h hon
      · exact ih h

theorem masks_sound {D : Nat → Bool} (hD : Closed ops D) : ∀ (r : List Oper) (acc : List Nat), (∀ j, r[j]? = ops[acc.length + j]?) → (∀ j m i, acc[j]? = some m → m.testBit i = true → D j = true → D i = true) →
    ∀ j m i, (masks acc r)[j]? = some m → m.testBit i = true → D j = true → D i = true
  | [], acc, _, hacc, j, m, i, hj, hm, hDj => hacc j m i (by simpa [masks] using hj) hm hDj
  | o :: r, acc, hr, hacc, j, m, i, hj, hm, hDj => by
    simp only [masks] at hj
    refine masks_sound hD r (acc ++ [maskOf acc o.after.toList]) (fun k => ?_) (fun j' m' i' hj' hm' hDj' => ?_) j m i hj hm hDj
    · have := hr (k + 1)
      simp only [List.length_append, List.length_cons, List.length_nil]
      rw [show acc.length + (0 + 1) + k = acc.length + (k + 1) by omega, ← this]; simp
    · rw [List.getElem?_append] at hj'
      split at hj'
      · exact hacc j' m' i' hj' hm' hDj'
      · rename_i hlt
        have h0 := hr 0
        have he : j' = acc.length := by
          rcases Nat.lt_or_ge (j' - acc.length) 1 with h | h
          · omega
          · rw [List.getElem?_eq_none (by simpa using h)] at hj'; cases hj'
        subst he
        simp at hj'; subst hj'
        simp at h0
        exact maskOf_sound hacc _ (fun e he hb => hD _ o h0.symm hDj' e he hb) i' hm'

theorem indepOne_spec {ms : List Nat} {i : Nat} {x : Inf} : ∀ (l : List Inf) (k : Nat), indepOne ms i x k l = true → ∀ j y, l[j]? = some y → conf x y = true → ((ms[k + j]?).getD 0).testBit i = true
  | [], _, _, j, y, hy, _ => by simp at hy
  | z :: r, k, h, j, y, hy, hc => by
    simp only [indepOne, Bool.and_eq_true] at h
    cases j with
    | zero => simp at hy; subst hy; rw [hc] at h; simpa using h.1
    | succ j =>
      have := indepOne_spec r (k + 1) h.2 j y (by simpa using hy) hc
      rwa [show k + 1 + j = k + (j + 1) by omega] at this

theorem indepAll_spec {ms : List Nat} : ∀ (l : List Inf) (k : Nat), indepAll ms k l = true → ∀ i j x y, l[i]? = some x → l[j]? = some y → i < j → conf x y = true → ((ms[k + j]?).getD 0).testBit (k + i) = true
  | [], _, _, i, j, x, y, hx, _, _, _ => by simp at hx
  | z :: r, k, h, i, j, x, y, hx, hy, hij, hc => by
    simp only [indepAll, Bool.and_eq_true] at h
    cases j with
    | zero => omega
    | succ j =>
      cases i with
      | zero =>
        simp at hx; subst hx
        have := indepOne_spec r (k + 1) h.1 j y (by simpa using hy) hc
        rwa [show k + 1 + j = k + (j + 1) by omega] at this
      | succ i =>
        have := indepAll_spec r (k + 1) h.2 i j x y (by simpa using hx) (by simpa using hy) (by omega) hc
        rwa [show k + 1 + j = k + (j + 1) by omega, show k + 1 + i = k + (i + 1) by omega] at this

theorem conf_symm (x y : Inf) : conf x y = conf y x := by
  have h : optEq x.d.dst y.d.dst = optEq y.d.dst x.d.dst := by
    cases x.d.dst with
    | none => cases y.d.dst <;> rfl
    | some a => cases y.d.dst with
      | none => rfl
      | some b => simp only [optEq]; rw [Bool.eq_iff_iff, Nat.beq_eq, Nat.beq_eq]; exact eq_comm
  simp only [conf, h]
  cases optIn x.d.dst y.rs <;> cases optIn y.d.dst x.rs <;> cases optEq y.d.dst x.d.dst <;> cases meets (wids x.d) y.d.ids <;> cases meets (wids y.d) x.d.ids <;> rfl

theorem conf_of_dst_rs {x y : Inf} {t : Nat} (hx : x.d.dst = some t) (ht : t ∈ y.rs) : conf x y = true := by
  cases h : conf x y with
  | true => rfl
  | false => simp only [conf, Bool.or_eq_false_iff] at h; rw [hx] at h; exact absurd ht (optIn_false h.1.1.1.1)

theorem conf_of_dst_dst {x y : Inf} {t : Nat} (hx : x.d.dst = some t) (hy : y.d.dst = some t) : conf x y = true := by
  simp [conf, hx, hy, optEq]

theorem conf_of_wids {x y : Inf} {t : Nat} (hx : t ∈ wids x.d) (hy : t ∈ y.d.ids) : conf x y = true := by
  cases h : conf x y with
  | true => rfl
  | false => simp only [conf, Bool.or_eq_false_iff] at h; exact absurd hy (meets_false h.1.2 t hx)

/-- The operation that may come up now stands where it stood in the order of the text. -/
theorem ready_step {l : List Inf} (hrun : runT P tbl W ops s 0 ops = some (s', l)) (hind : indepAll (masks [] ops) 0 l = true) {D : Nat → Bool} (hD : Closed ops D) {i : Nat} (ho : ops[i]? = some o) (hDi : D i = false)
    (hr : ∀ e ∈ o.after.toList, Region.binds .any e = true → D e.on = true) :
    ∃ x, l[i]? = some x ∧ opD P tbl W ops (applyD D 0 l s) i o = some x.d ∧ applyD (addD D i) 0 l s = (applyD D 0 l s).apply x.d := by
  obtain ⟨hlen, _, hat⟩ := runT_at ops 0 s s' l hrun
  obtain ⟨x, hx, hop, hrs⟩ := hat i o ho
  simp only [Nat.zero_add] at hop hrs
  -- the order of two that are in conflict
  have ord : ∀ p q xp xq, l[p]? = some xp → l[q]? = some xq → p < q → conf xp xq = true → ∀ D', Closed ops D' → D' q = true → D' p = true := by
    intro p q xp xq hp hq hpq hc D' hD' hDq
    have h1 := indepAll_spec l 0 hind p q xp xq hp hq hpq hc
    simp only [Nat.zero_add] at h1
    cases hm : (masks [] ops)[q]? with
    | none => simp [hm] at h1
    | some m =>
      simp [hm] at h1
      exact masks_sound hD' ops [] (fun j => by simp) (fun j m i hj => by simp at hj) q m p hm h1 hDq
  have hcl : Closed ops (addD D i) := by
    intro j o' ho' hj e he hb
    simp only [addD] at hj ⊢
    cases hji : Nat.beq j i with
    | true =>
      have := Nat.eq_of_beq_eq_true hji; subst this
      rw [ho] at ho'; cases ho'
      have := hr e he hb
      cases Nat.beq e.on j <;> simp [this]
    | false =>
      simp [hji] at hj
      have := hD j o' ho' hj e he hb
      cases Nat.beq e.on i <;> simp [this]
  -- who is in conflict with i has come up just if it stands before i
  have hsame : ∀ j y, l[j]? = some y → j ≠ i → conf x y = true → D j = Nat.blt j i := by
    intro j y hy hji hc
    rcases Nat.lt_or_ge j i with hlt | hge
    · have h1 := ord j i y x hy hx hlt (by rw [conf_symm]; exact hc) (addD D i) hcl (by simp [addD])
      simp only [addD] at h1
      have : Nat.beq j i = false := by
        cases hb : Nat.beq j i with
        | false => rfl
        | true => exact absurd (Nat.eq_of_beq_eq_true hb) hji
      simp [this] at h1
      rw [h1]; exact (Nat.ble_eq_true_of_le (by omega)).symm
    · have hgt : i < j := by omega
      have h1 : D j = false := by
        cases hDj : D j with
        | false => rfl
        | true => rw [ord i j x y hx hy hgt hc D hD hDj] at hDi; cases hDi
      rw [h1]
      cases hb : Nat.blt j i with
      | false => rfl
      | true => have := Nat.le_of_ble_eq_true hb; omega
  have hself : D i = Nat.blt i i := by
    rw [hDi]
    cases hb : Nat.blt i i with
    | false => rfl
    | true => have := Nat.le_of_ble_eq_true hb; omega
  have hagree : ∀ j y, l[j]? = some y → conf x y = true → D (0 + j) = Nat.blt (0 + j) i := by
    intro j y hy hc
    rw [Nat.zero_add]
    by_cases hji : j = i
    · subst hji; exact hself
    · exact hsame j y hy hji hc
  refine ⟨x, hx, ?_, ?_⟩
  · have hwx := opD_wids hop
    refine opD_congr hop (fun t ht => ?_) (fun t ht => ?_) (fun id hid => ?_) (fun id hid => ?_) ?_
    · exact agree_look l 0 s s rfl rfl fun j y hy hyd => hagree j y hy (by rw [conf_symm]; exact conf_of_dst_rs hyd (by rw [hrs]; exact ht))
    · have hxd : x.d.dst = some t := by rw [opD_dst hop]; exact ht
      exact (agree_look l 0 s s rfl rfl fun j y hy hyd => hagree j y hy (conf_of_dst_dst hxd hyd)).2
    · exact (agree_ent l 0 s s rfl rfl fun j y hy hyd => hagree j y hy (by rw [conf_symm]; exact conf_of_wids hyd hid)).1
    · exact (agree_ent l 0 s s rfl rfl fun j y hy hyd => hagree j y hy (by rw [conf_symm]; exact conf_of_wids hyd hid)).2
    · rw [applyD_next, applyD_next]
  · have hwx := opD_wids hop
    refine applyD_add hwx hDi l 0 s (by omega) (by simpa using hx) fun j y hy hij hDj => ?_
    rw [Nat.zero_add] at hij hDj
    cases hc : conf x y with
    | false => rfl
    | true => rw [ord i j x y hx hy hij hc D hD hDj] at hDi; cases hDi

theorem filter_set : ∀ (l : List Bool) (i : Nat), l[i]? = some false → ((l.set i true).filter (!·)).length + 1 = (l.filter (!·)).length
  | [], i, h => by simp at h
  | b :: r, 0, h => by simp at h; subst h; simp
  | b :: r, i + 1, h => by
    have := filter_set r i (by simpa using h)
    cases b <;> simp <;> omega

theorem backs_spec : ∀ (r : List Oper) (k : Nat), backs k r = true → ∀ j o, r[j]? = some o → ∀ e ∈ o.after.toList, Region.binds .any e = true → e.on < k + j
  | [], _, _, j, o, ho, _, _, _ => by simp at ho
  | q :: r, k, h, j, o, ho, e, he, hb => by
    simp only [backs, Bool.and_eq_true] at h
    cases j with
    | zero =>
      simp at ho; subst ho
      have := List.all_eq_true.1 h.1 e he
      rw [hb] at this
      have h2 : Nat.blt e.on k = true := by simpa only [Bool.not_true, Bool.false_or] using this
      have := Nat.le_of_ble_eq_true h2
      omega
    | succ j =>
      have := backs_spec r (k + 1) h.2 j o (by simpa using ho) e he hb
      omega

theorem applyD_used {D : Nat → Bool} {id : Nat} : ∀ (l : List Inf) (k : Nat) (s : St), s.used id = true → (applyD D k l s).used id = true
  | [], _, _, h => h
  | y :: r, k, s, h => by
    simp only [applyD]
    refine applyD_used r _ _ ?_
    cases D k with
    | false => exact h
    | true => exact apply_used h

theorem mem_ndsOf {b : Bool} : ∀ {l : List Inf} {j : Nat} {x : Inf}, l[j]? = some x → b ∈ x.d.nd → b ∈ ndsOf l
  | [], _, _, h, _ => by simp at h
  | y :: r, 0, x, h, hb => by simp at h; subst h; simp only [ndsOf, List.mem_append]; exact .inl hb
  | y :: r, j + 1, x, h, hb => by
    simp only [ndsOf, List.mem_append]
    exact .inr (mem_ndsOf (l := r) (j := j) (by simpa using h) hb)

/-- **Whatever order the tape picks, the state behind the region is that of the order of the text.** -/
theorem region_any {l : List Inf} (hrun : runT P tbl B.W ops s 0 ops = some (s', l)) (hind : indep ops l = true) (hnd : ∀ b ∈ ndsOf l, b = true) (ρ0 : Nm) (hQ : ∀ ρ' a' w', Ext B s.used ρ0 ρ' → Mdl B ρ' s' a' w' → Q .normal a' w') :
    ∀ (fuel : Nat) (listed : Array Bool) (ρ : Nm) (a : Act) (w : World), listed.size = ops.length → (listed.toList.filter (!·)).length ≤ fuel → Closed ops (fun j => listed.getD j false) → Ext B s.used ρ0 ρ → Mdl B ρ (applyD (fun j => listed.getD j false) 0 l s) a w →
      wpAny P .any ops.toArray Q fuel listed a w := by
  simp only [indep, Bool.and_eq_true] at hind
  obtain ⟨hlen, hs', _⟩ := runT_at ops 0 s s' l hrun
  have hdone : ∀ (listed : Array Bool) (ρ : Nm) (a : Act) (w : World), listed.size = ops.length → (∀ j, j < ops.length → listed.getD j false = true) → Ext B s.used ρ0 ρ → Mdl B ρ (applyD (fun j => listed.getD j false) 0 l s) a w → Q .normal a w := by
    intro listed ρ a w _ hall hag hM
    refine hQ ρ a w hag ?_
    rw [hs']
    rwa [applyD_congr l 0 s (D' := fun _ => true) fun j hj => by simpa using hall j (by omega)] at hM
  -- whoever stands first among those that have not come up is ready
  have hnil : ∀ (listed : Array Bool), listed.size = ops.length → Region.ready .any ops.toArray listed = [] → ∀ j, j < ops.length → listed.getD j false = true := by
    intro listed hsz hr j
    induction j using Nat.strongRecOn with
    | _ j ih =>
      intro hj
      cases hd : listed.getD j false with
      | true => rfl
      | false =>
        exfalso
        have hmem : j ∈ Region.ready .any ops.toArray listed := by
          refine mem_ready.2 ⟨?_, ops[j], by simp [hj], fun e he hb => ?_⟩
          · simp [hsz, hj] at hd ⊢; exact hd
          · have := backs_spec ops 0 hind.1 j ops[j] (by simp [hj]) e (by simpa using he) hb
            exact ih e.on (by omega) (by omega)
        rw [hr] at hmem; cases hmem
  intro fuel
  induction fuel with
  | zero =>
    intro listed ρ a w hsz hc hcl hag hM
    have hall : ∀ j, j < ops.length → listed.getD j false = true := by
      intro j hj
      have : listed.toList.filter (!·) = [] := List.length_eq_zero_iff.1 (Nat.le_zero.1 hc)
      rw [List.filter_eq_nil_iff] at this
      have := this listed[j] (by simp)
      simp at this
      simp [hsz, hj, this]
    refine ⟨?_, hdone listed ρ a w hsz hall hag hM⟩
    cases hr : Region.ready .any ops.toArray listed with
    | nil => rfl
    | cons i r =>
      have hi : i ∈ Region.ready .any ops.toArray listed := by rw [hr]; simp
      obtain ⟨hun, o, ho, _⟩ := mem_ready.1 hi
      have hlt : i < ops.length := by simpa using (Array.getElem?_eq_some_iff.1 ho).1
      have := hall i hlt
      simp [hsz, hlt] at this hun; rw [this] at hun; cases hun
  | succ fuel ih =>
    intro listed ρ a w hsz hc hcl hag hM
    refine ⟨fun hr => hdone listed ρ a w hsz (hnil listed hsz hr) hag hM, fun i hi => ?_⟩
    obtain ⟨hun, o, ho, hall⟩ := mem_ready.1 hi
    have ho' : ops[i]? = some o := by simpa using ho
    have hlt : i < ops.length := (List.getElem?_eq_some_iff.1 ho').1
    have hDi : listed.getD i false = false := by simp [hsz, hlt] at hun ⊢; exact hun
    obtain ⟨x, hx, hop, hadd⟩ := ready_step hrun hind.2 hcl ho' hDi (fun e he hb => hall e (by simpa using he) hb)
    have hnx : ∀ b ∈ x.d.nd, b = true := fun b hb => hnd b (mem_ndsOf hx hb)
    refine op_step hM ho' hop hnx fun ρ' a' w' hag' hM' => ?_
    have hD' : (fun j => (listed.setIfInBounds i true).getD j false) = addD (fun j => listed.getD j false) i := by
      funext j
      simp only [addD]
      cases hb : Nat.beq j i with
      | true => have := Nat.eq_of_beq_eq_true hb; subst this; simp [hsz, hlt]
      | false =>
        have hne : i ≠ j := fun e => by subst e; simp at hb
        simp [Array.getElem?_setIfInBounds_ne hne]
    refine ih _ ρ' a' w' (by simpa using hsz) ?_ ?_ (hag.trans hag' fun id hid => applyD_used l 0 s hid) ?_
    · have h1 := filter_set listed.toList i (by simp [hsz, hlt] at hDi ⊢; exact hDi)
      simp only [Array.toList_setIfInBounds]
      omega
    · rw [hD']
      intro j o' hj hDj e he hb
      simp only [addD] at hDj ⊢
      cases hji : Nat.beq j i with
      | true =>
        have := Nat.eq_of_beq_eq_true hji; subst this
        rw [ho'] at hj; cases hj
        have := hall e (by simpa using he) hb
        cases Nat.beq e.on j <;> simp [this]
      | false =>
        simp only [hji, cond_false] at hDj
        have := hcl j o' hj hDj e he hb
        simp only at this
        cases Nat.beq e.on i <;> simp [this]
    · rw [hD', hadd]; exact hM'

theorem Hp.drawn {ent : Nat → Option Entry} {used : Nat → Bool} (h : Hp B ρ ent used w) : Hp B ρ ent used { w with drawn := w.drawn + 1 } := by
  refine ⟨fun id e he => ?_, h.hi, ⟨h.hf.os, h.hf.tape, h.hf.output, h.hf.size, h.hf.mem, h.hf.dat⟩⟩
  obtain ⟨h1, h2, h3⟩ := h.he id e he
  exact ⟨Entry.holds_keep (fun _ _ => rfl) (fun _ _ h => h) h2 h3 h1 (fun _ _ => rfl) fun b hb => (Entry.ob_lt h1 hb).2.2, h2, h3⟩

/-- A region. -/
theorem execRegion_sound {id : Nat} {draw : Bool} (hmix : P.follows .mixedOrders = true) {nd : List Bool} (h : execRegion P tbl B.W s ops draw = some (s', nd)) (hnd : ∀ b ∈ nd, b = true) (hM : Mdl B ρ s a w) (hQ : ∀ ρ' a' w', Ext B s.used ρ ρ' → Mdl B ρ' s' a' w' → Q .normal a' w') :
    (Code.region id ops.toArray draw).wp P Q a w := by
  unfold execRegion at h
  split at h
  · rename_i s1 l hl
    cases hb : (!draw || indep ops l) with
    | false => simp [hb] at h
    | true =>
      simp only [hb, cond_true, Option.some.injEq, Prod.mk.injEq] at h
      obtain ⟨h, h'⟩ := h
      subst h; subst h'
      have hQ' : ∀ ρ' a' w', Ext B s.clean.used ρ ρ' → Mdl B ρ' s1 a' w' → Q .normal a' w' := fun ρ' a' w' hag hM' => hQ ρ' a' w' hag (hM'.fin _ _)
      cases draw with
      | false =>
        refine wp_region ?_
        have := runT_sound (Q := Q) ops 0 _ _ _ (fun j => by simp) hl hnd ρ a w hM.clean hQ'
        simpa [List.range_eq_range'] using this
      | true =>
        simp only [Bool.not_true, Bool.false_or] at hb
        refine wp_region_any hmix ?_
        have hM' : Mdl B ρ s.clean a { w with drawn := w.drawn + 1 } := by
          have := hM.clean
          exact ⟨this.hd, this.hn, this.hs, this.hg, this.hu, this.hp.drawn, this.hl⟩
        refine region_any hl hb hnd ρ hQ' ops.toArray.size _ ρ a _ (by simp) ?_ ?_ (Ext.refl _ _ _) ?_
        · refine Nat.le_trans (List.length_filter_le _ _) (by simp)
        · intro j o hj hD
          simp only [Array.getD_eq_getD_getElem?] at hD
          rw [Array.getElem?_replicate] at hD
          split at hD <;> simp at hD
        · rw [applyD_congr l 0 _ (D' := fun _ => false) fun j hj => by
            simp only [Array.getD_eq_getD_getElem?]
            rw [Array.getElem?_replicate]
            split <;> rfl]
          have : ∀ (l : List Inf) (k : Nat) (s : St), applyD (fun _ => false) k l s = s := by
            intro l
            induction l with
            | nil => intros; rfl
            | cons y r ih => intro k s; exact ih (k + 1) s
          rw [this]; exact hM'
  · cases h

end
end Go.SX

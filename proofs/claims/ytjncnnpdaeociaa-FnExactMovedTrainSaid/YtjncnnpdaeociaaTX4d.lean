/- A symbolic evaluator over the model's own operations, part 4d: a call keeps what is said. -/
import Derived.Test.YtjncnnpdaeociaaTX4c
namespace Go.SX
open Go.RowKit

section
variable {P : Program} {tbl : List (PF P)} {s : St} {look : Nat → Option SS} {ent : Nat → Option Entry} {A : List (Nat × Bool)} {nid : Nat} {o : Oper} {r : Raw} {B : Base} {ρ : Nm} {a : Act} {w : World} {K : Act → World → Prop} {Q : Exit → Act → World → Prop}

/-- A block that one of the listed owns. -/
def OwnOf (ent : Nat → Option Entry) (ρ : Nm) (L : List Nat) (b : Nat) : Prop := ∃ i ∈ L, ∃ e, ent i = some e ∧ b ∈ e.ob (ρ i)

open Classical in
  noncomputable def memBig (w : World) (ent : Nat → Option Entry) (ρ : Nm) (L : List Nat) (b : Nat) : Option Obj := if OwnOf ent ρ L b then none else w.heap[b]?

theorem memBig_some {L : List Nat} {b : Nat} {o : Obj} (h : memBig w ent ρ L b = some o) : w.heap[b]? = some o := by
  unfold memBig at h; split at h
  · cases h
  · exact h

theorem memBig_own {L : List Nat} {b : Nat} (h : OwnOf ent ρ L b) : memBig w ent ρ L b = none := by
  unfold memBig; rw [if_pos h]

theorem memBig_none {L : List Nat} {b : Nat} (h : memBig w ent ρ L b = none) : OwnOf ent ρ L b ∨ w.heap.size ≤ b := by
  unfold memBig at h; split at h
  · rename_i h'; exact .inl h'
  · right
    rcases Nat.lt_or_ge b w.heap.size with hlt | hge
    · rw [Array.getElem?_eq_getElem hlt] at h; cases h
    · exact hge

  noncomputable def subNm (ρ : Nm) (L : List Nat) : Nm := ⟨fun j => match L[j]? with | some i => ρ.nm i | none => .nilFunc, ρ.mem⟩

theorem subNm_at {L : List Nat} {j i : Nat} (h : L[j]? = some i) : subNm ρ L j = ρ i := by
  simp only [Nm.of, subNm, h]

theorem renE_get {L : List Nat} {es : List Entry} (hE : ∀ id e, ent id = some e → s.ent id = some e) (h : mapO (renE ent L) L = some es) {j : Nat} {e' : Entry} (hj : es[j]? = some e') :
    ∃ i e, L[j]? = some i ∧ s.ent i = some e ∧ e.ren (posN L) = some e' := by
  obtain ⟨i, h1, h2⟩ := (mapO_get h).2 j e' hj
  unfold renE at h2
  split at h2
  · rename_i e he; exact ⟨i, e, h1, hE _ _ he, h2⟩
  · cases h2

/-- What is lent holds under its new names. -/
theorem lend (hE : ∀ id e, ent id = some e → s.ent id = some e) (hp : Hp B ρ s.ent s.used w) {L : List Nat} (hn : L.Nodup) {es : List Entry} (hes : mapO (renE ent L) L = some es) :
    HpL w (memBig w s.ent ρ L) es (subNm ρ L) w := by
  have hlen := (mapO_get hes).1
  have hpos : ∀ i j, (fun _ : Nat => true) i = true → posN L i = some j → subNm ρ L j = ρ i := fun i j _ h => subNm_at (posN_get h)
  have hob : ∀ j e' i e, L[j]? = some i → s.ent i = some e → e.ren (posN L) = some e' → ∀ b, b ∈ e'.ob (subNm ρ L j) → b ∈ e.ob (ρ i) := by
    intro j e' i e h1 h2 h3 b hb
    rw [subNm_at h1] at hb
    cases e with
    | box T cs => simp only [Entry.ren, Option.map_eq_some_iff] at h3; obtain ⟨cs', _, rfl⟩ := h3; exact hb
    | row own e t xs => simp only [Entry.ren, Option.some.injEq] at h3; subst h3; exact hb
    | gone => simp only [Entry.ren, Option.some.injEq] at h3; subst h3; exact hb
  refine ⟨fun j e' he' => ?_, fun j j' e e' b he he' hb hb' => ?_, rfl, rfl, rfl, Nat.le_refl _, fun b o hb => memBig_some hb, hp.hf.dat⟩
  · obtain ⟨i, e, h1, h2, h3⟩ := renE_get hE hes he'
    have hlt : j < es.length := (List.getElem?_eq_some_iff.1 he').1
    obtain ⟨g1, g2, g3⟩ := hp.he i e h2
    have hU : ∀ i j, posN L i = some j → Nat.blt j es.length = true := fun i j h => by
      have := (List.getElem?_eq_some_iff.1 (posN_get h)).1
      simp only [Nat.blt, Nat.ble_eq]; omega
    refine ⟨?_, by simp only [Nat.blt, Nat.ble_eq]; omega, ?_⟩
    · have hown : ∀ b ∈ e.ob (ρ i), memBig w s.ent ρ L b = none := fun b hb => memBig_own ⟨i, List.mem_of_getElem? h1, e, h2, hb⟩
      cases e with
      | box T cs =>
        simp only [Entry.ren, Option.map_eq_some_iff] at h3
        obtain ⟨cs', hcs, rfl⟩ := h3
        obtain ⟨b, k1, k2, k3, k4⟩ := g1
        refine ⟨b, by rw [subNm_at h1]; exact k1, ?_, hown b (by simp [Entry.ob, k1, blks]), k4⟩
        rw [mapO_map hcs fun x hx y hy => Cell.ren_conc (U := fun _ => true) hpos (by cases x <;> simp [Cell.inU]) hy]
        exact k2
      | row own e0 t xs =>
        simp only [Entry.ren, Option.some.injEq] at h3; subst h3
        cases own with
        | false => simp only [Entry.holds]; rw [subNm_at h1]; exact g1
        | true =>
          obtain ⟨cs, k1, k2, k3⟩ := g1
          simp only [Entry.holds]; rw [subNm_at h1]
          exact ⟨cs, k1, k2, fun b hb => ⟨hown b hb, (k3 b hb).2⟩⟩
      | gone => simp only [Entry.ren, Option.some.injEq] at h3; subst h3; trivial
    · cases e with
      | box T cs =>
        simp only [Entry.ren, Option.map_eq_some_iff] at h3
        obtain ⟨cs', hcs, rfl⟩ := h3
        exact mapO_all hcs fun x _ y hy => Cell.ren_inU hU hy
      | row own e0 t xs => simp only [Entry.ren, Option.some.injEq] at h3; subst h3; trivial
      | gone => simp only [Entry.ren, Option.some.injEq] at h3; subst h3; trivial
  · obtain ⟨i, e1, h1, h2, h3⟩ := renE_get hE hes he
    obtain ⟨i', e1', h1', h2', h3'⟩ := renE_get hE hes he'
    have := hp.hi i i' e1 e1' b h2 h2' (hob j e i e1 h1 h2 h3 b hb) (hob j' e' i' e1' h1' h2' h3' b hb')
    subst this
    exact nodup_get hn h1 h1'

/-- What comes back holds under the old names, and new ones. -/
theorem back (hE : ∀ id e, ent id = some e → s.ent id = some e) (hp : Hp B ρ s.ent s.used w) {L : List Nat} (hn : L.Nodup) {es0 es1 es' : List Entry} (hes : mapO (renE ent L) L = some es0)
    {m : Nat} (hnew : ∀ i ∈ idsFrom nid m, s.used i = false) {ρc : Nm} {w' : World} (hlen : es1.length = L.length + m)
    (hx : Ext (memB w (memBig w s.ent ρ L)) (fun i => Nat.blt i es0.length) (subNm ρ L) ρc) (h : HpL w (memBig w s.ent ρ L) es1 ρc w') (hr : mapO (Entry.ren (backF (L ++ idsFrom nid m))) es1 = some es') :
    ∃ ρ' : Nm, Ext B s.used ρ ρ' ∧ (∀ i j, Nat.blt i es1.length = true → backF (L ++ idsFrom nid m) i = some j → ρ' j = ρc i) ∧
      Hp B ρ' (entOf s.ent (zipE ent (L ++ idsFrom nid m) es')) (usedOf s.used (idsFrom nid m)) w' := by
  have hL : ∀ i ∈ L, s.used i = true := fun i hi => by
    obtain ⟨j, hj⟩ := List.mem_iff_getElem?.1 hi
    have hjl := (List.getElem?_eq_some_iff.1 hj).1
    have : j < es0.length := by rw [(mapO_get hes).1]; exact hjl
    obtain ⟨i', e, h1, h2, _⟩ := renE_get hE hes (List.getElem?_eq_getElem this)
    rw [hj] at h1; cases h1
    exact (hp.he i e h2).2.1
  have hids : ∀ k n j : Nat, j < k → (idsFrom n k)[j]? = some (n + j) := by
    intro k
    induction k with
    | zero => intro n j hj; omega
    | succ k ih =>
      intro n j hj
      cases j with
      | zero => simp [idsFrom]
      | succ j => simp only [idsFrom, List.getElem?_cons_succ]; rw [ih (n + 1) j (by omega)]; congr 1; omega
  have hidl : ∀ k n : Nat, (idsFrom n k).length = k := by
    intro k
    induction k with
    | zero => intro n; rfl
    | succ k ih => intro n; simp [idsFrom, ih]
  have hLL : (L ++ idsFrom nid m).length = es1.length := by rw [List.length_append, hidl, hlen]
  have hl0 : es0.length = L.length := (mapO_get hes).1
  have hl' : es'.length = es1.length := (mapO_get hr).1
  let ρ' : Nm := ⟨fun id => bif s.used id then ρ.nm id else ρc.nm (L.length + (id - nid)), ρc.mem⟩
  have hold : ∀ id, s.used id = true → ρ' id = ρ id := fun id hid => by simp only [Nm.of, ρ', hid, cond_true]
  have hget : ∀ i j : Nat, (L ++ idsFrom nid m)[i]? = some j → ρ' j = ρc i := by
    intro i j hj
    by_cases hi : i < L.length
    · rw [List.getElem?_append_left hi] at hj
      rw [hold j (hL j (List.mem_of_getElem? hj)), ← subNm_at hj]
      exact (hx.nm i (by simp only [Nat.blt, Nat.ble_eq]; omega)).symm
    · rw [List.getElem?_append_right (by omega)] at hj
      have hlt : i - L.length < m := by
        have := (List.getElem?_eq_some_iff.1 hj).1; rwa [hidl] at this
      rw [hids m nid _ hlt] at hj; cases hj
      have hu := hnew (nid + (i - L.length)) (List.mem_of_getElem? (hids m nid _ hlt))
      simp only [Nm.of, ρ', hu, cond_false]
      rw [show L.length + (nid + (i - L.length) - nid) = i by omega]
  have hnodup : ∀ i i' j : Nat, (L ++ idsFrom nid m)[i]? = some j → (L ++ idsFrom nid m)[i']? = some j → i = i' := by
    intro i i' j h1 h2
    by_cases hi : i < L.length
    · rw [List.getElem?_append_left hi] at h1
      by_cases hi' : i' < L.length
      · rw [List.getElem?_append_left hi'] at h2; exact nodup_get hn h1 h2
      · rw [List.getElem?_append_right (by omega)] at h2
        have := hnew j (List.mem_of_getElem? h2)
        rw [hL j (List.mem_of_getElem? h1)] at this; cases this
    · rw [List.getElem?_append_right (by omega)] at h1
      have hlt : i - L.length < m := by
        have := (List.getElem?_eq_some_iff.1 h1).1; rwa [hidl] at this
      by_cases hi' : i' < L.length
      · rw [List.getElem?_append_left hi'] at h2
        have := hnew j (List.mem_of_getElem? h1)
        rw [hL j (List.mem_of_getElem? h2)] at this; cases this
      · rw [List.getElem?_append_right (by omega)] at h2
        have hlt' : i' - L.length < m := by
          have := (List.getElem?_eq_some_iff.1 h2).1; rwa [hidl] at this
        rw [hids m nid _ hlt] at h1
        rw [hids m nid _ hlt'] at h2
        cases h1
        have := Option.some.inj h2
        omega
  have hwas : ∀ b, OwnOf s.ent ρ L b → Was s.ent ρ (zipE ent (L ++ idsFrom nid m) es') b := by
    rintro b ⟨i, hi, e, he, hb⟩
    obtain ⟨j, hj⟩ := List.mem_iff_getElem?.1 hi
    have hjl := (List.getElem?_eq_some_iff.1 hj).1
    obtain ⟨e', he'⟩ := zipE_mem (ent := ent) (es := es') (i := i) (j := j) (L := L ++ idsFrom nid m) (by rw [List.getElem?_append_left hjl]; exact hj) (by rw [hl', hLL]) (fun e0 t xs hh => by
      rw [hE _ _ hh] at he; cases he; simp [Entry.ob] at hb)
    exact ⟨i, e, e', he, hb, he'⟩
  have hBnone : ∀ b, memBig w s.ent ρ L b = none → B.mem b = none := fun b hb => by
    rcases memBig_none hb with ⟨i, _, e, he, hb⟩ | hge
    · exact (Entry.ob_lt (hp.he i e he).1 hb).2.1
    · cases hm : B.mem b with
      | none => rfl
      | some o => have := (Array.getElem?_eq_some_iff.1 (hp.hf.mem _ _ hm)).1; omega
  have hren : ∀ i j, Nat.blt i es1.length = true → backF (L ++ idsFrom nid m) i = some j → ρ' j = ρc i := fun i j _ h => hget i j h
  have hUj : ∀ i j, backF (L ++ idsFrom nid m) i = some j → usedOf s.used (idsFrom nid m) j = true := fun i j hj => by
    rcases List.mem_append.1 (List.mem_of_getElem? hj) with hm | hm
    · exact usedOf_mono _ (hL j hm)
    · exact usedOf_keys hm
  have hlook : ∀ id e, look? (zipE ent (L ++ idsFrom nid m) es') id = some e → ∃ (i : Nat) (e0 : Entry), (L ++ idsFrom nid m)[i]? = some id ∧ es1[i]? = some e0 ∧ e0.ren (backF (L ++ idsFrom nid m)) = some e ∧ e.ob (ρ' id) = e0.ob (ρc i) := by
    intro id e hl
    obtain ⟨i, h1, h2⟩ := zipE_look hl
    obtain ⟨e0, h3, h4⟩ := (mapO_get hr).2 i e h2
    refine ⟨i, e0, h1, h3, h4, ?_⟩
    rw [hget i id h1]
    cases e0 with
    | box T cs => simp only [Entry.ren, Option.map_eq_some_iff] at h4; obtain ⟨cs', _, rfl⟩ := h4; rfl
    | row own e t xs => simp only [Entry.ren, Option.some.injEq] at h4; subst h4; rfl
    | gone => simp only [Entry.ren, Option.some.injEq] at h4; subst h4; rfl
  have hchg : Chg w w' (OwnOf s.ent ρ L) := ⟨h.hf.os, h.hf.tape, h.hf.output, h.hf.size, fun k hk hX => by
    have : memBig w s.ent ρ L k = w.heap[k]? := by unfold memBig; rw [if_neg hX]
    rw [Array.getElem?_eq_getElem hk] at this ⊢
    exact h.hf.mem k _ this⟩
  have key := hp.chg (ρ' := ρ') (es := zipE ent (L ++ idsFrom nid m) es') (new := idsFrom nid m) hchg hold (fun b o hb => hx.old b o hb) hwas
    (fun b o hb => (hx.new b o hb).imp (fun h => h) fun hb' => ⟨h.hf.dat b o hb, (memBig_none hb').symm.imp (fun h => h) (hwas b)⟩)
    (fun id e hl => by
      obtain ⟨i, e0, h1, h2, h3, _⟩ := hlook id e hl
      obtain ⟨g1, _, g3⟩ := h.he i e0 h2
      have hUid : usedOf s.used (idsFrom nid m) id = true := hUj i id h1
      refine ⟨?_, hUid, ?_⟩
      · cases e0 with
        | box T cs =>
          simp only [Entry.ren, Option.map_eq_some_iff] at h3
          obtain ⟨cs', hcs, rfl⟩ := h3
          obtain ⟨b, k1, k2, k3, k4⟩ := g1
          refine ⟨b, by rw [hget i id h1]; exact k1, ?_, hBnone b k3, k4⟩
          rw [mapO_map hcs fun x hx y hy => Cell.ren_conc hren (g3 x hx) hy]
          exact k2
        | row own e1 t xs =>
          simp only [Entry.ren, Option.some.injEq] at h3; subst h3
          cases own with
          | false => simp only [Entry.holds]; rw [hget i id h1]; exact g1
          | true =>
            obtain ⟨cs, k1, k2, k3⟩ := g1
            simp only [Entry.holds]; rw [hget i id h1]
            exact ⟨cs, k1, k2, fun b hb => ⟨hBnone b (k3 b hb).1, (k3 b hb).2⟩⟩
        | gone => simp only [Entry.ren, Option.some.injEq] at h3; subst h3; trivial
      · cases e0 with
        | box T cs =>
          simp only [Entry.ren, Option.map_eq_some_iff] at h3
          obtain ⟨cs', hcs, rfl⟩ := h3
          exact mapO_all hcs fun x _ y hy => Cell.ren_inU hUj hy
        | row own e1 t xs => simp only [Entry.ren, Option.some.injEq] at h3; subst h3; trivial
        | gone => simp only [Entry.ren, Option.some.injEq] at h3; subst h3; trivial)
    (fun id e b hl hb => by
      obtain ⟨i, e0, h1, h2, _, h4⟩ := hlook id e hl
      rw [h4] at hb
      exact (memBig_none (Entry.ob_lt (h.he i e0 h2).1 hb).2.1).symm.imp (fun h => h) (hwas b))
    (fun id id' e e' b hl hl' hb hb' => by
      obtain ⟨i, e0, h1, h2, _, h4⟩ := hlook id e hl
      obtain ⟨i', e0', h1', h2', _, h4'⟩ := hlook id' e' hl'
      rw [h4] at hb; rw [h4'] at hb'
      have := h.hi i i' e0 e0' b h2 h2' hb hb'
      subst this
      rw [h1] at h1'; exact Option.some.inj h1')
  exact ⟨ρ', key.1, hren, key.2⟩

end
end Go.SX

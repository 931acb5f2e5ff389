/- A symbolic evaluator over the model's own operations, part 9m: the loop rule. -/
import Derived.Test.YtjncnnpdaeociaaTX9l
import Derived.Test.YtjncnnpdaeociaaTXa
namespace Go.SX
open Go.RowKit

structure Fits (ids : List Nat) (t : St) : Prop where
  hused : ∀ id, t.used id = memN ids id
  hsome : ∀ id, memN ids id = true → ∃ e, t.ent id = some e
  hnone : ∀ id, memN ids id = false → t.ent id = none
  hg : ∀ k z, t.look k = some z → z.g = none

/-- A state behind the loop: the ids that keep their names are there. -/
structure FitsX (h : Shape) (t : St) : Prop where
  hused : ∀ id, t.used id = true → id ∈ h.idsX
  hsome : ∀ id ∈ h.fx, ∃ e, t.ent id = some e
  hg : ∀ k z, t.look k = some z → z.g = none

section
variable {P : Program} {tbl : List (PF P)} {s s' t : St} {W : Nat → Bool} {lf : List (St → R)} {B : Base} {ρ : Nm} {a : Act} {w : World} {post post' : Ex → St → Prop} {σ : Nat → Option Nat}

theorem mem_entsL {h : Shape} {τ σ : Nat → Option Nat} {y : St} : ∀ {l : List Nat} {k : Nat} {e : Entry}, look? (entsL h τ σ y l) k = some e →
    (∃ id ∈ l, ∃ e0, τ id = some k ∧ y.ent id = some e0 ∧ e0.ren τ = some e) ∨ ((∃ id ∈ h.rw, σ id = some k) ∧ e = .gone)
  | [], k, e, hl => by
    right
    simp only [entsL] at hl
    have key : ∀ l : List Nat, look? (l.map fun k => (k, Entry.gone)) k = some e → k ∈ l ∧ e = .gone := by
      intro l
      induction l with
      | nil => intro h; simp [look?] at h
      | cons p r ih =>
        intro h
        simp only [List.map_cons, look?] at h
        cases hb : Nat.beq p k with
        | true =>
          have := Nat.eq_of_beq_eq_true hb; subst this
          simp at h; exact ⟨by simp, h.symm⟩
        | false => simp [hb] at h; exact ⟨by simp [(ih h).1], (ih h).2⟩
    obtain ⟨h1, h2⟩ := key _ hl
    obtain ⟨id, h3, h4⟩ := List.mem_filterMap.1 h1
    exact ⟨⟨id, h3, h4⟩, h2⟩
  | id :: r, k, e, hl => by
    simp only [entsL] at hl
    have rec' : look? (entsL h τ σ y r) k = some e → (∃ i ∈ id :: r, ∃ e0, τ i = some k ∧ y.ent i = some e0 ∧ e0.ren τ = some e) ∨ ((∃ id ∈ h.rw, σ id = some k) ∧ e = .gone) := fun hh =>
      (mem_entsL hh).imp (fun ⟨i, hi, q⟩ => ⟨i, by simp [hi], q⟩) fun q => q
    split at hl
    · rename_i k' e0 h1 h2
      split at hl
      · rename_i e' h3
        simp only [look?] at hl
        cases hb : Nat.beq k' k with
        | true =>
          have := Nat.eq_of_beq_eq_true hb; subst this
          simp at hl; subst hl
          exact .inl ⟨id, by simp, e0, h1, h2, h3⟩
        | false => simp [hb] at hl; exact rec' hl
      · exact rec' hl
    · exact rec' hl

/-- Whatever was lent turns. -/
theorem entsL_old {h : Shape} {τ σ : Nat → Option Nat} {y : St} {k : Nat} : ∀ {l : List Nat}, (∃ id ∈ h.rw, σ id = some k) ∨ (∃ id ∈ l, ∃ e0 e, τ id = some k ∧ y.ent id = some e0 ∧ e0.ren τ = some e) → ∃ e, look? (entsL h τ σ y l) k = some e
  | [], hk => by
    simp only [entsL]
    rcases hk with ⟨id, h1, h2⟩ | ⟨id, h1, _⟩
    · have hm : k ∈ h.rw.filterMap σ := List.mem_filterMap.2 ⟨id, h1, h2⟩
      have key : ∀ l : List Nat, k ∈ l → ∃ e, look? (l.map fun k => (k, Entry.gone)) k = some e := by
        intro l
        induction l with
        | nil => intro h; cases h
        | cons p r ih =>
          intro h
          simp only [List.map_cons, look?]
          cases hb : Nat.beq p k with
          | true => exact ⟨_, rfl⟩
          | false =>
            rcases List.mem_cons.1 h with rfl | h
            · simp at hb
            · exact ih h
      exact key _ hm
    · cases h1
  | id :: r, hk => by
    simp only [entsL]
    have up : ∀ (p : Nat × Entry), (∃ e, look? (entsL h τ σ y r) k = some e) → ∃ e, look? (p :: entsL h τ σ y r) k = some e := fun p ⟨e, he⟩ => by
      simp only [look?]
      cases Nat.beq p.1 k with
      | true => exact ⟨_, rfl⟩
      | false => exact ⟨e, he⟩
    rcases hk with hk | ⟨i, hi, e0, e, h1, h2, h3⟩
    · have := entsL_old (h := h) (τ := τ) (y := y) (l := r) (.inl hk)
      split
      · split
        · exact up _ this
        · exact this
      · exact this
    · rcases List.mem_cons.1 hi with rfl | hi
      · simp only [h1, h2, h3]
        exact ⟨e, look?_same _ _ _⟩
      · have := entsL_old (h := h) (τ := τ) (σ := σ) (y := y) (l := r) (.inr ⟨i, hi, e0, e, h1, h2, h3⟩)
        split
        · split
          · exact up _ this
          · exact this
        · exact this

theorem posN_some : ∀ {L : List Nat} {i : Nat}, i ∈ L → ∃ j, posN L i = some j
  | [], i, h => by cases h
  | p :: r, i, h => by
    simp only [posN]
    cases hb : Nat.beq p i with
    | true => exact ⟨0, rfl⟩
    | false =>
      rcases List.mem_cons.1 h with rfl | h
      · simp at hb
      · obtain ⟨j, hj⟩ := posN_some h; exact ⟨j + 1, by simp [hj]⟩

theorem idsFrom_inj {n k i j v : Nat} (h : (idsFrom n k)[i]? = some v) (h' : (idsFrom n k)[j]? = some v) : i = j := by
  have hi := (List.getElem?_eq_some_iff.1 h).1
  have hj := (List.getElem?_eq_some_iff.1 h').1
  rw [idsFrom_length] at hi hj
  rw [idsFrom_get hi] at h
  rw [idsFrom_get hj] at h'
  have := Option.some.inj (h.trans h'.symm)
  omega

/-- Memory behind a loop. B': the base that the loop ran by. -/
theorem Hp.behind {h : Shape} {B' : Base} {Jx0 Jy : St} {ρ2 : Nm} {w' : World} (hp : Hp B ρ s.ent s.used w) (hx : SubR σ Jx0 s) (hf0 : Fits h.ids Jx0) (hfy : FitsX h Jy)
    (hfresh : ∀ i ∈ h.fresh s, s.used i = false) (hw0 : B'.w0 = w) (hmem : B'.mem = memBig w s.ent ρ (h.ids.filterMap σ)) (hMy : Hp B' ρ2 Jy.ent Jy.used w')
    (hnm : ∀ id ∈ h.fx, ∀ k, σ id = some k → ρ2 id = ρ k) (hold : ∀ b o, ρ.mem b = some o → ρ2.mem b = some o) (hnew : ∀ b o, ρ2.mem b = some o → ρ.mem b = some o ∨ B'.mem b = none)
    (hren : ∀ id ∈ h.idsX, ∀ e, Jy.ent id = some e → ∃ e', e.ren (h.tau σ s) = some e') :
    ∃ ρ' : Nm, Ext B s.used ρ ρ' ∧ (∀ id ∈ h.idsX, ∀ k, h.tau σ s id = some k → ρ' k = ρ2 id ∧ usedOf s.used (h.fresh s) k = true) ∧
      Hp B ρ' (entOf s.ent (entsL h (h.tau σ s) σ Jy h.idsX)) (usedOf s.used (h.fresh s)) w' := by
  have hσ : ∀ id ∈ h.ids, ∃ k e, σ id = some k ∧ s.ent k = some e := fun id hid => by
    obtain ⟨e, he⟩ := hf0.hsome id (memN_true hid)
    obtain ⟨k, e', h1, h2, _⟩ := hx.ent id e he
    exact ⟨k, e', h1, h2⟩
  let ρ' : Nm := ⟨fun k => bif s.used k then ρ.nm k else match posN (h.fresh s) k with | some i => (match h.out[i]? with | some id => ρ2.nm id | none => .nilFunc) | none => .nilFunc, ρ2.mem⟩
  have hold' : ∀ k, s.used k = true → ρ' k = ρ k := fun k hk => by simp only [Nm.of, ρ', hk, cond_true]
  have hτ : ∀ id ∈ h.idsX, ∀ k, h.tau σ s id = some k → ρ' k = ρ2 id ∧ usedOf s.used (h.fresh s) k = true := by
    intro id hid k hk
    unfold Shape.tau at hk
    cases hm : memN h.fx id with
    | true =>
      simp only [hm, cond_true] at hk
      obtain ⟨k', e, h1, h2⟩ := hσ id (List.mem_append_left _ (SX.memN_mem.1 hm))
      rw [hk] at h1; cases h1
      have hu := (hp.he k e h2).2.1
      exact ⟨by rw [hold' k hu, hnm id (SX.memN_mem.1 hm) k hk], usedOf_mono _ hu⟩
    | false =>
      simp only [hm, cond_false] at hk
      split at hk
      · rename_i i hi
        have hkm := List.mem_of_getElem? hk
        have hu := hfresh k hkm
        obtain ⟨i', hi'⟩ := posN_some hkm
        have : i' = i := idsFrom_inj (posN_get hi') hk
        subst this
        refine ⟨?_, usedOf_keys hkm⟩
        simp only [Nm.of, ρ', hu, cond_false, hi', posN_get hi]
      · cases hk
  have hwas : ∀ b, OwnOf s.ent ρ (h.ids.filterMap σ) b → Was s.ent ρ (entsL h (h.tau σ s) σ Jy h.idsX) b := by
    rintro b ⟨k, hk, e, he, hb⟩
    obtain ⟨id, hid, hks⟩ := List.mem_filterMap.1 hk
    have : ∃ e', look? (entsL h (h.tau σ s) σ Jy h.idsX) k = some e' := by
      refine entsL_old ?_
      rcases List.mem_append.1 hid with hf | hr
      · right
        have hidx : id ∈ h.idsX := List.mem_append_left _ hf
        obtain ⟨e0, he0⟩ := hfy.hsome id hf
        obtain ⟨e', he'⟩ := hren id hidx e0 he0
        exact ⟨id, hidx, e0, e', by simp only [Shape.tau, memN_true hf, cond_true]; exact hks, he0, he'⟩
      · exact .inl ⟨id, hr, hks⟩
    obtain ⟨e', he'⟩ := this
    exact ⟨k, e, e', he, hb, he'⟩
  have hBnone : ∀ b, B'.mem b = none → B.mem b = none := fun b hb => by
    rw [hmem] at hb
    rcases memBig_none hb with ⟨i, _, e, he, hb⟩ | hge
    · exact (Entry.ob_lt (hp.he i e he).1 hb).2.1
    · cases hm : B.mem b with
      | none => rfl
      | some o => have := (Array.getElem?_eq_some_iff.1 (hp.hf.mem _ _ hm)).1; omega
  have hlook : ∀ k e, look? (entsL h (h.tau σ s) σ Jy h.idsX) k = some e → (∃ id ∈ h.idsX, ∃ e0, h.tau σ s id = some k ∧ Jy.ent id = some e0 ∧ e0.ren (h.tau σ s) = some e ∧ e.ob (ρ' k) = e0.ob (ρ2 id)) ∨ (e = .gone ∧ s.used k = true) := by
    intro k e hl
    rcases mem_entsL hl with ⟨id, hid, e0, h1, h2, h3⟩ | ⟨⟨id, hid, h1⟩, h2⟩
    · refine .inl ⟨id, hid, e0, h1, h2, h3, ?_⟩
      rw [(hτ id hid k h1).1]
      cases e0 with
      | box T cs => simp only [Entry.ren, Option.map_eq_some_iff] at h3; obtain ⟨cs', _, rfl⟩ := h3; rfl
      | row own e t xs => simp only [Entry.ren, Option.some.injEq] at h3; subst h3; rfl
      | gone => simp only [Entry.ren, Option.some.injEq] at h3; subst h3; rfl
    · obtain ⟨k', e', h3, h4⟩ := hσ id (List.mem_append_right _ hid)
      rw [h1] at h3; cases h3
      exact .inr ⟨h2, (hp.he k e' h4).2.1⟩
  have hUJ : ∀ i, Jy.used i = true → i ∈ h.idsX := hfy.hused
  have hchg : Chg w w' (OwnOf s.ent ρ (h.ids.filterMap σ)) := by
    have hf := hMy.hf
    refine ⟨by rw [← hw0]; exact hf.os, by rw [← hw0]; exact hf.tape, by rw [← hw0]; exact hf.output, by rw [← hw0]; exact hf.size, fun k hk hX => ?_⟩
    have : memBig w s.ent ρ (h.ids.filterMap σ) k = w.heap[k]? := by unfold memBig; rw [if_neg hX]
    rw [Array.getElem?_eq_getElem hk] at this ⊢
    exact hf.mem k _ (by rw [hmem]; exact this)
  have key := hp.chg (ρ' := ρ') (es := entsL h (h.tau σ s) σ Jy h.idsX) (new := h.fresh s) hchg hold' hold hwas
    (fun b o hb => (hnew b o hb).imp (fun h => h) fun hb' => ⟨hMy.hf.dat b o hb, (memBig_none (by rw [← hmem]; exact hb')).symm.imp (fun h => h) (hwas b)⟩)
    (fun k e hl => by
      rcases hlook k e hl with ⟨id, hid, e0, h1, h2, h3, _⟩ | ⟨rfl, hu⟩
      · obtain ⟨g1, _, g3⟩ := hMy.he id e0 h2
        obtain ⟨q1, q2⟩ := hτ id hid k h1
        have hc : ∀ i j, Jy.used i = true → h.tau σ s i = some j → ρ' j = ρ2 i := fun i j hi hj => (hτ i (hUJ i hi) j hj).1
        refine ⟨?_, q2, ?_⟩
        · cases e0 with
          | box T cs =>
            simp only [Entry.ren, Option.map_eq_some_iff] at h3
            obtain ⟨cs', hcs, rfl⟩ := h3
            obtain ⟨b, k1, k2, k3, k4⟩ := g1
            refine ⟨b, by rw [q1]; exact k1, ?_, hBnone b k3, k4⟩
            rw [mapO_map hcs fun x hx y hy => Cell.ren_conc hc (g3 x hx) hy]
            exact k2
          | row own e1 t xs =>
            simp only [Entry.ren, Option.some.injEq] at h3; subst h3
            cases own with
            | false => simp only [Entry.holds]; rw [q1]; exact g1
            | true =>
              obtain ⟨cs, k1, k2, k3⟩ := g1
              simp only [Entry.holds]; rw [q1]
              exact ⟨cs, k1, k2, fun b hb => ⟨hBnone b (k3 b hb).1, (k3 b hb).2⟩⟩
          | gone => simp only [Entry.ren, Option.some.injEq] at h3; subst h3; trivial
        · cases e0 with
          | box T cs =>
            simp only [Entry.ren, Option.map_eq_some_iff] at h3
            obtain ⟨cs', hcs, rfl⟩ := h3
            refine mapO_all hcs fun x hx y hy => ?_
            have hxu := SX.ids_inU (g3 x hx)
            cases x with
            | val v => simp [Cell.ren] at hy; subst hy; trivial
            | ptr i off => simp only [Cell.ren, Option.map_eq_some_iff] at hy; obtain ⟨j, hj, rfl⟩ := hy; exact (hτ i (hUJ i (hxu i (by simp [Cell.ids]))) j hj).2
            | ref i => simp only [Cell.ren, Option.map_eq_some_iff] at hy; obtain ⟨j, hj, rfl⟩ := hy; exact (hτ i (hUJ i (hxu i (by simp [Cell.ids]))) j hj).2
            | el i z q off => simp only [Cell.ren, Option.map_eq_some_iff] at hy; obtain ⟨j, hj, rfl⟩ := hy; exact (hτ i (hUJ i (hxu i (by simp [Cell.ids]))) j hj).2
            | clo f caps =>
              simp only [Cell.ren, Option.map_eq_some_iff] at hy
              obtain ⟨js, hj, rfl⟩ := hy
              exact mapO_all hj fun i hi j hij => (hτ i (hUJ i (hxu i hi)) j hij).2
          | row own e1 t xs => simp only [Entry.ren, Option.some.injEq] at h3; subst h3; trivial
          | gone => simp only [Entry.ren, Option.some.injEq] at h3; subst h3; trivial
      · exact ⟨trivial, usedOf_mono _ hu, trivial⟩)
    (fun k e b hl hb => by
      rcases hlook k e hl with ⟨id, hid, e0, h1, h2, h3, h4⟩ | ⟨rfl, _⟩
      · rw [h4] at hb
        have := (Entry.ob_lt (hMy.he id e0 h2).1 hb).2.1
        rw [hmem] at this
        exact (memBig_none this).symm.imp (fun h => h) (hwas b)
      · simp [Entry.ob] at hb)
    (fun k k' e e' b hl hl' hb hb' => by
      rcases hlook k e hl with ⟨id, hid, e0, h1, h2, h3, h4⟩ | ⟨rfl, _⟩
      · rcases hlook k' e' hl' with ⟨id', hid', e0', h1', h2', h3', h4'⟩ | ⟨rfl, _⟩
        · rw [h4] at hb; rw [h4'] at hb'
          have := hMy.hi id id' e0 e0' b h2 h2' hb hb'
          subst this
          rw [h1] at h1'; exact Option.some.inj h1'
        · simp [Entry.ob] at hb'
      · simp [Entry.ob] at hb)
  exact ⟨ρ', key.1, hτ, key.2⟩

end
end Go.SX

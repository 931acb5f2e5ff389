/- A symbolic evaluator over the model's own operations, part 5g: an operation of a region, under its guard. -/
import Derived.Test.YtjncnnpdaeociaaTX5
namespace Go.SX
open Go.RowKit

section
variable {P : Program} {tbl : List (PF P)} {s : St} {i : Nat} {ops : List Oper} {o : Oper} {d : Dl} {B : Base} {ρ : Nm} {a : Act} {w : World} {K : Act → World → Prop} {Q : Exit → Act → World → Prop}

theorem Hp.swap {ent1 ent2 : Nat → Option Entry} {used : Nat → Bool} (h : Hp B ρ ent1 used w)
    (hs : ∀ id e2, ent2 id = some e2 → ∃ e1, ent1 id = some e1 ∧ e2.holds B ρ w id ∧ e2.ob (ρ id) = e1.ob (ρ id) ∧ e2.inU used) : Hp B ρ ent2 used w := by
  refine ⟨fun id e he => ?_, fun id id' e e' b he he' hb hb' => ?_, h.hf⟩
  · obtain ⟨e1, h1, h2, _, h4⟩ := hs id e he
    exact ⟨h2, (h.he id e1 h1).2.1, h4⟩
  · obtain ⟨e1, h1, _, h3, _⟩ := hs id e he
    obtain ⟨e1', h1', _, h3', _⟩ := hs id' e' he'
    rw [h3] at hb; rw [h3'] at hb'
    exact h.hi id id' e1 e1' b h1 h1' hb hb'

theorem look?_guardEs {c : Bool} {ent : Nat → Option Entry} : ∀ {es es' : List (Nat × Entry)}, guardEs c ent es = some es' →
    keys es' = keys es ∧ ∀ i e2, look? es' i = some e2 → ∃ e, look? es i = some e ∧ guardE c e (ent i) = some e2
  | [], es', h => by simp [guardEs] at h; subst h; exact ⟨rfl, fun i e2 he => by simp [look?] at he⟩
  | p :: r, es', h => by
    simp only [guardEs] at h
    split at h
    · rename_i e es h1 h2
      cases h
      obtain ⟨k1, k2⟩ := look?_guardEs h2
      refine ⟨by simp only [keys, List.map_cons] at k1 ⊢; rw [k1], fun i e2 he => ?_⟩
      simp only [look?] at he ⊢
      cases hb : Nat.beq p.1 i with
      | true =>
        have := Nat.eq_of_beq_eq_true hb; subst this
        simp at he; subst he
        exact ⟨p.2, by simp, h1⟩
      | false => simp [hb] at he; simpa using k2 i e2 he
    · cases h

theorem guardE_true {used : Nat → Bool} {id : Nat} {e e2 : Entry} {old : Option Entry} (h : guardE true e old = some e2) (hh : e.holds B ρ w id) (hin : e.inU used) : e2.holds B ρ w id ∧ e2.ob (ρ id) = e.ob (ρ id) ∧ e2.inU used := by
  unfold guardE at h
  split at h
  · cases h; exact ⟨hh, rfl, hin⟩
  · rename_i own e0 t xs own' e' t' xs'
    split at h
    · rename_i ht
      subst ht
      cases hb : (own == own' && Nat.beq e0 e') with
      | false => simp [hb] at h
      | true => simp only [hb, cond_true] at h; cases h; exact ⟨hh, rfl, hin⟩
    · cases h
  · rename_i T cs T' cs'
    cases hb : Nat.beq T T' with
    | false => simp [hb] at h
    | true =>
      simp only [hb, cond_true, Option.map_eq_some_iff] at h
      obtain ⟨ms, hm, rfl⟩ := h
      obtain ⟨b, k1, k2, k3, k4⟩ := hh
      have := (mergeCells_sound ρ hm).1
      simp only [cond_true] at this
      exact ⟨⟨b, k1, by rw [this]; exact k2, k3, k4⟩, rfl, mergeCells_inU hin hm⟩
  · cases h; exact ⟨hh, rfl, hin⟩
  · cases h

theorem guardE_false {used : Nat → Bool} {id : Nat} {e e2 old : Entry} (h : guardE false e (some old) = some e2) (hin0 : ∀ T cs, e = .box T cs → ∀ c ∈ cs, c.inU used) (hh : old.holds B ρ w id) : e2.holds B ρ w id ∧ e2.ob (ρ id) = old.ob (ρ id) ∧ e2.inU used := by
  unfold guardE at h
  split at h
  · rename_i heq; cases heq
  · rename_i own e0 t xs own' e' t' xs' heq
    cases heq
    split at h
    · rename_i ht
      subst ht
      cases hb : (own == own' && Nat.beq e0 e') with
      | false => simp [hb] at h
      | true =>
        simp only [hb, cond_true] at h; cases h
        simp only [Bool.and_eq_true, beq_iff_eq] at hb
        obtain ⟨rfl, h2⟩ := hb
        have := Nat.eq_of_beq_eq_true h2; subst this
        exact ⟨hh, rfl, trivial⟩
    · cases h
  · rename_i T cs T' cs' heq
    cases heq
    cases hb : Nat.beq T T' with
    | false => simp [hb] at h
    | true =>
      have := Nat.eq_of_beq_eq_true hb; subst this
      simp only [hb, cond_true, Option.map_eq_some_iff] at h
      obtain ⟨ms, hm, rfl⟩ := h
      obtain ⟨b, k1, k2, k3, k4⟩ := hh
      have := (mergeCells_sound ρ hm).1
      simp only [cond_false] at this
      exact ⟨⟨b, k1, by rw [this]; exact k2, k3, k4⟩, rfl, mergeCells_inU (hin0 T cs rfl) hm⟩
  · rename_i heq; cases heq; cases h; exact ⟨trivial, rfl, trivial⟩
  · cases h

theorem guardE_new {c : Bool} {e e2 : Entry} (h : guardE c e none = some e2) : ∃ own e0 t xs, e2 = .row own e0 t (cond c xs []) := by
  unfold guardE at h
  split at h
  · cases h; exact ⟨_, _, _, _, rfl⟩
  · rename_i heq; cases heq
  · rename_i heq; cases heq
  · rename_i heq; cases heq
  · cases h

theorem esIn_sound {U : Nat → Bool} : ∀ {es : List (Nat × Entry)} {i : Nat} {e : Entry}, esIn U es = true → look? es i = some e → e.inU U
  | [], i, e, _, h => by simp [look?] at h
  | p :: r, i, e, hb, h => by
    simp only [esIn, List.all_cons, Bool.and_eq_true] at hb
    simp only [look?] at h
    cases hq : Nat.beq p.1 i with
    | true =>
      simp [hq] at h; subst h
      cases he : p.2 with
      | box T cs =>
        rw [he] at hb
        have := hb.1
        simp only [List.all_eq_true] at this
        exact fun c hc => Cell.inUb_sound (this c hc)
      | _ => trivial
    | false => simp [hq] at h; exact esIn_sound (es := r) (by simp only [esIn]; exact hb.2) h

/-- The guard does not hold: nothing turns; what would be new is nil. -/
theorem Hp.idle {ent : Nat → Option Entry} {used : Nat → Bool} (h : Hp B ρ ent used w) {es es' : List (Nat × Entry)} {new : List Nat} (hg : guardEs false ent es = some es') (hnew : ∀ i ∈ new, used i = false)
    (hk : ∀ i ∈ keys es, ent i = none → i ∈ new) (hin : esIn (usedOf used new) es = true) :
    Ext B used ρ (nilNm ρ new) ∧ Hp B (nilNm ρ new) (entOf ent es') (usedOf used new) w := by
  obtain ⟨k1, k2⟩ := look?_guardEs hg
  have hnm : ∀ id, used id = true → nilNm ρ new id = ρ id := fun id hid => by
    have : memN new id = false := by
      cases hm : memN new id with
      | false => rfl
      | true => rw [hnew id (memN_mem.1 hm)] at hid; cases hid
    simp [Nm.of, nilNm, this]
  have hnil : ∀ id ∈ new, nilNm ρ new id = .slice none 0 0 := fun id hid => by
    simp [Nm.of, nilNm, memN_mem.2 hid, slim]
  let esN := es'.filter fun p => (ent p.1).isNone
  have hlookN : ∀ i e, look? esN i = some e → look? es' i = some e ∧ ent i = none := by
    intro i e he
    have : ∀ l : List (Nat × Entry), look? (l.filter fun p => (ent p.1).isNone) i = some e → look? l i = some e ∧ ent i = none := by
      intro l
      induction l with
      | nil => intro h; simp [look?] at h
      | cons p r ih =>
        intro h
        simp only [List.filter_cons] at h
        split at h
        · rename_i hp
          simp only [look?] at h ⊢
          cases hb : Nat.beq p.1 i with
          | true =>
            have := Nat.eq_of_beq_eq_true hb; subst this
            simp at h; subst h
            exact ⟨by simp, by simpa using hp⟩
          | false => simp [hb] at h; simpa using ih h
        · rename_i hp
          obtain ⟨h1, h2⟩ := ih h
          refine ⟨?_, h2⟩
          simp only [look?]
          cases hb : Nat.beq p.1 i with
          | true =>
            have := Nat.eq_of_beq_eq_true hb; subst this
            rw [h2] at hp; simp at hp
          | false => exact h1
    exact this es' he
  have hlookN' : ∀ i e, look? es' i = some e → ent i = none → look? esN i = some e := by
    intro i e he hn
    have : ∀ l : List (Nat × Entry), look? l i = some e → look? (l.filter fun p => (ent p.1).isNone) i = some e := by
      intro l
      induction l with
      | nil => intro h; exact h
      | cons p r ih =>
        intro h
        simp only [look?] at h
        simp only [List.filter_cons]
        cases hb : Nat.beq p.1 i with
        | true =>
          have := Nat.eq_of_beq_eq_true hb; subst this
          simp at h; subst h
          simp [hn, look?]
        | false =>
          simp [hb] at h
          split
          · simp only [look?, hb]; exact ih h
          · exact ih h
    exact this es' he
  obtain ⟨hX, hp⟩ := h.names (ρ' := nilNm ρ new) (es := esN) (new := new) hnm rfl fun id e he => by
    obtain ⟨h1, h2⟩ := hlookN id e he
    obtain ⟨e0, h3, h4⟩ := k2 id e h1
    rw [h2] at h4
    obtain ⟨own, e1, t, xs, rfl⟩ := guardE_new h4
    have hid : id ∈ new := hk id (keys_mem h3) h2
    have hv := hnil id hid
    refine ⟨?_, usedOf_keys hid, trivial, ?_⟩
    · cases own with
      | false => simp only [Entry.holds, hv, cond_false]; exact .inl ⟨.inl rfl, rfl⟩
      | true => simp only [Entry.holds, hv, cond_false]; exact ⟨[], ownR_nil _ _ _, RepL.nil _ _, by simp [blks]⟩
    · cases own <;> simp [Entry.ob, hv, blks]
  refine ⟨hX, hp.swap fun id e2 he => ?_⟩
  simp only [entOf] at he ⊢
  cases hl : look? es' id with
  | none =>
    simp [hl] at he
    have hlN : look? esN id = none := by
      cases hq : look? esN id with
      | none => rfl
      | some e => rw [(hlookN id e hq).1] at hl; cases hl
    refine ⟨e2, by simp only [hlN]; exact he, ?_⟩
    have := hp.he id e2 (by simp only [entOf, hlN]; exact he)
    exact ⟨this.1, rfl, this.2.2⟩
  | some e =>
    simp [hl] at he; subst he
    cases hn : ent id with
    | none =>
      have hlN := hlookN' id e hl hn
      refine ⟨e, by simp only [hlN], ?_⟩
      have := hp.he id e (by simp only [entOf, hlN])
      exact ⟨this.1, rfl, this.2.2⟩
    | some old =>
      have hlN : look? esN id = none := by
        cases hq : look? esN id with
        | none => rfl
        | some e => rw [(hlookN id e hq).2] at hn; cases hn
      obtain ⟨e0, h3, h4⟩ := k2 id e hl
      rw [hn] at h4
      have hold := hp.he id old (by simp only [entOf, hlN]; exact hn)
      obtain ⟨g1, g2, g3⟩ := guardE_false (used := usedOf used new) h4 (fun T cs hb => by
        have := esIn_sound hin h3
        rw [hb] at this; exact this) hold.1
      exact ⟨old, by simp only [hlN], g1, g2, g3⟩

/-- The guard holds. -/
theorem Hp.busy {ent : Nat → Option Entry} {used : Nat → Bool} {es es' : List (Nat × Entry)} (h : Hp B ρ (entOf ent es) used w) (hg : guardEs true ent es = some es') : Hp B ρ (entOf ent es') used w := by
  obtain ⟨k1, k2⟩ := look?_guardEs hg
  refine h.swap fun id e2 he => ?_
  simp only [entOf] at he
  cases hl : look? es' id with
  | none =>
    simp [hl] at he
    have hl0 : look? es id = none := by
      by_cases hm : id ∈ keys es
      · rw [← k1] at hm
        exfalso
        have : ∀ l : List (Nat × Entry), id ∈ keys l → look? l id ≠ none := by
          intro l
          induction l with
          | nil => intro h; simp [keys] at h
          | cons p r ih =>
            intro h
            simp only [keys, List.map_cons, List.mem_cons] at h
            simp only [look?]
            cases hb : Nat.beq p.1 id with
            | true => simp
            | false =>
              rcases h with rfl | h
              · simp at hb
              · exact ih h
        exact this es' hm hl
      · cases hq : look? es id with
        | none => rfl
        | some e => exact (hm (keys_mem hq)).elim
    have := h.he id e2 (by simp only [entOf, hl0]; exact he)
    exact ⟨e2, by simp only [entOf, hl0]; exact he, this.1, rfl, this.2.2⟩
  | some e =>
    simp [hl] at he; subst he
    obtain ⟨e0, h3, h4⟩ := k2 id e hl
    have := h.he id e0 (by simp only [entOf, h3])
    obtain ⟨g1, g2, g3⟩ := guardE_true (used := used) h4 this.1 this.2.2
    exact ⟨e0, by simp only [entOf, h3], g1, g2, g3⟩

theorem ids_inU {U : Nat → Bool} {c : Cell} (h : c.inU U) : ∀ i ∈ c.ids, U i = true := by
  cases c with
  | val v => intro i hi; simp [Cell.ids] at hi
  | ptr id off => intro i hi; simp [Cell.ids] at hi; subst hi; exact h
  | ref id => intro i hi; simp [Cell.ids] at hi; subst hi; exact h
  | el id z k off => intro i hi; simp [Cell.ids] at hi; subst hi; exact h
  | clo f caps => exact fun i hi => h i hi

theorem mem_joinL {α : Type} {i : α} : ∀ {l : List (List α)}, i ∈ joinL l → ∃ x ∈ l, i ∈ x
  | [], h => by simp [joinL] at h
  | a :: l, h => by
    simp only [joinL, List.mem_append] at h
    rcases h with h | h
    · exact ⟨a, by simp, h⟩
    · obtain ⟨x, h1, h2⟩ := mem_joinL h; exact ⟨x, by simp [h1], h2⟩

theorem V1.ids_inU {U : Nat → Bool} {v : V1} (h : v.inU U) : ∀ i ∈ v.ids, U i = true := by
  intro i hi
  obtain ⟨x, h1, h2⟩ := mem_joinL hi
  obtain ⟨c, h3, rfl⟩ := List.mem_map.1 h1
  exact SX.ids_inU (h c h3) i h2

theorem SV.ids_inU {U : Nat → Bool} {v : SV} (h : v.inU U) : ∀ i ∈ v.ids, U i = true := by
  cases v with
  | one v => exact V1.ids_inU h
  | tup vs =>
    intro i hi
    obtain ⟨x, h1, h2⟩ := mem_joinL hi
    obtain ⟨c, h3, rfl⟩ := List.mem_map.1 h1
    exact V1.ids_inU (h c h3) i h2

theorem slotIds_used (hM : Mdl B ρ s a w) : ∀ (l : List Nat), ∀ i ∈ slotIds s.look l, s.used i = true
  | [], i, h => by simp [slotIds] at h
  | t :: r, i, h => by
    simp only [slotIds, List.mem_append] at h
    rcases h with h | h
    · split at h
      · rename_i x hx; exact SV.ids_inU (hM.hu t x hx) i h
      · cases h
    · exact slotIds_used hM r i h

theorem srcs_used (hM : Mdl B ρ s a w) {ids new : List Nat} : ∀ i, memN (srcs s.look s.ent ids o new) i = true → usedOf s.used new i = true := by
  intro i hi
  have hi := memN_mem.1 hi
  simp only [srcs, List.mem_append] at hi
  rcases hi with hi | hi | hi
  · exact usedOf_mono _ (slotIds_used hM _ i hi)
  · obtain ⟨x, h1, h2⟩ := mem_joinL hi
    obtain ⟨k, _, rfl⟩ := List.mem_map.1 h1
    unfold entIds at h2
    split at h2
    · rename_i e he
      cases e with
      | box T cs =>
        obtain ⟨x, h3, h4⟩ := mem_joinL (show i ∈ joinL (cs.map Cell.ids) from h2)
        obtain ⟨c, h5, rfl⟩ := List.mem_map.1 h3
        exact usedOf_mono _ (SX.ids_inU ((hM.he k _ he).2.2 c h5) i h4)
      | _ => cases h2
    · cases h2
  · exact usedOf_keys hi

theorem Cell.inUb_mono {U U' : Nat → Bool} (h : ∀ i, U i = true → U' i = true) {c : Cell} (hc : c.inUb U = true) : c.inUb U' = true := by
  simp only [Cell.inUb, List.all_eq_true] at hc ⊢
  exact fun i hi => h i (hc i hi)

theorem esIn_mono {U U' : Nat → Bool} (h : ∀ i, U i = true → U' i = true) {es : List (Nat × Entry)} (hc : esIn U es = true) : esIn U' es = true := by
  simp only [esIn, List.all_eq_true] at hc ⊢
  intro p hp
  have := hc p hp
  cases he : p.2 with
  | box T cs =>
    rw [he] at this
    simp only [List.all_eq_true] at this ⊢
    exact fun c hcc => Cell.inUb_mono h (this c hcc)
  | _ => rfl

/-- One operation of a region. -/
theorem op_step (hM : Mdl B ρ s a w) (hi : ops[i]? = some o) (h : opD P tbl B.W ops s i o = some d) (hnd : ∀ b ∈ d.nd, b = true) (hK : ∀ ρ' a' w', Ext B s.used ρ ρ' → Mdl B ρ' (s.apply d) a' w' → K a' w') : wpOp P ops.toArray Q i K a w := by
  unfold opD at h
  split at h
  · cases h
  · rename_i g hg
    have hw := gslot_yl hg a.tmps
    cases hok : (dstOk B.W s o.dst && guardOk s g) with
    | false => simp [hok] at h
    | true =>
      simp only [hok, cond_true] at h
      obtain ⟨hdst, hgo⟩ := Bool.and_eq_true_iff.1 hok
      split at h
      · cases h
      · rename_i r hr
        cases hck : (r.new.all (fun i => !s.used i) && r.v.inUb (memN (srcs s.look s.ent (touch s.look s.ent (asm s 32 g) o) o r.new))) with
        | false => simp [hck] at h
        | true =>
          simp only [hck, cond_true] at h
          obtain ⟨hck1, hck2⟩ := Bool.and_eq_true_iff.1 hck
          have hnew : ∀ i ∈ r.new, s.used i = false := fun i hi => by simpa using List.all_eq_true.1 hck1 i hi
          have hin := SV.inU_mono (srcs_used hM) (SV.inUb_sound hck2)
          unfold wpOp
          simp only [List.getElem?_toArray, hi]
          cases g with
          | none =>
            simp only [finD, Option.some.injEq] at h
            subst h
            simp only [hw, if_true]
            have c : Ctx B ρ s a w (rsF s.look (tmpsOf (opsOf o.op))) (rsF s.ent (touch s.look s.ent (asm s 32 none) o)) (asm s 32 none) := ⟨hM, rsF_some, rsF_some, asm_sound hM 32 none (by simp)⟩
            refine .inl (opV_sound c hr hnew hnd fun ρ' u w' hx hu hp => ?_)
            exact hK ρ' _ _ hx (hM.step (d := ⟨o.dst, ⟨none, r.v⟩, r.es, r.new, _, r.nd⟩) hx.nm hdst rfl hu hin hp)
          | some p =>
            cases hy : (yl a.tmps p.1 == some p.2) with
            | true =>
              simp only [hw, hy, if_true]
              have hy' : yl a.tmps p.1 = some p.2 := by simpa using hy
              have c : Ctx B ρ s a w (rsF s.look (tmpsOf (opsOf o.op))) (rsF s.ent (touch s.look s.ent (asm s 32 (some p)) o)) (asm s 32 (some p)) := ⟨hM, rsF_some, rsF_some, asm_sound hM 32 (some p) (fun q hq => by cases hq; exact hy')⟩
              have hndr : ∀ b ∈ r.nd, b = true := by
                refine underG_sound hM hy' fun b hb => hnd b ?_
                unfold finD at h
                simp only at h
                split at h
                · cases h; exact hb
                · split at h
                  · split at h
                    · split at h
                      · cases h; exact hb
                      · cases h
                    · cases h
                  · cases h
              refine .inl (opV_sound c hr hnew hndr fun ρ' u w' hx hu hp => ?_)
              unfold finD at h
              simp only at h
              split at h
              · rename_i h1 h2
                cases h
                rw [h1, h2] at hp
                rw [h2] at hin
                exact hK ρ' _ _ hx (hM.step (d := ⟨o.dst, ⟨some p, r.v⟩, [], [], _, _⟩) hx.nm hdst hgo (by simp only [hy', if_true]; exact hu) hin hp)
              · split at h
                · rename_i cc hcc
                  have hct : cc = true := (gval_sound hM 32 (some p) cc hcc).1 (fun q hq => by cases hq; exact hy')
                  subst hct
                  split at h
                  · rename_i es' hes'
                    split at h
                    · cases h
                      exact hK ρ' _ _ hx (hM.step (d := ⟨o.dst, ⟨some p, r.v⟩, es', r.new, _, _⟩) hx.nm hdst hgo (by simp only [hy', if_true]; exact hu) hin (hp.busy hes'))
                    · cases h
                  · cases h
                · cases h
            | false =>
              simp only [hw, hy, Bool.false_eq_true, if_false]
              have hy' : ¬ yl a.tmps p.1 = some p.2 := by simpa using hy
              unfold finD at h
              simp only at h
              split at h
              · rename_i h1 h2
                cases h
                rw [h2] at hin
                exact hK ρ _ _ (Ext.refl _ _ _) (hM.step (d := ⟨o.dst, ⟨some p, r.v⟩, [], [], _, _⟩) (fun _ _ => rfl) hdst hgo (by simp only [hy', if_false]) hin hM.hp)
              · split at h
                · rename_i cc hcc
                  have hcf : cc = false := by
                    cases cc with
                    | false => rfl
                    | true => exact (hy' ((gval_sound hM 32 (some p) true hcc).2 rfl p rfl)).elim
                  subst hcf
                  split at h
                  · rename_i es' hes'
                    split at h
                    · rename_i hb
                      cases h
                      simp only [Bool.and_eq_true, List.all_eq_true, Bool.or_eq_true] at hb
                      obtain ⟨hx, hp⟩ := hM.hp.idle hes' hnew (fun i hi hn => by
                        rcases hb.2 i hi with h | h
                        · rw [hn] at h; cases h
                        · exact memN_mem.1 h) (esIn_mono (srcs_used hM) hb.1)
                      exact hK _ _ _ hx (hM.step (d := ⟨o.dst, ⟨some p, r.v⟩, es', r.new, _, _⟩) hx.nm hdst hgo (by simp only [hy', if_false]) hin hp)
                    · cases h
                  · cases h
                · cases h

end
end Go.SX

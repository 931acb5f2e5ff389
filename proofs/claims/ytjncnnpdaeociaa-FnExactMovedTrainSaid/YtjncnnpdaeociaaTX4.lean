/- A symbolic evaluator over the model's own operations, part 4: what is said of one operation holds. -/
import Derived.Test.YtjncnnpdaeociaaTX3v
import Derived.Laws.OwnMore
namespace Go.SX
open Go.RowKit

/-- What one operation may look at. -/
structure Ctx (B : Base) (ρ : Nm) (s : St) (a : Act) (w : World) (look : Nat → Option SS) (ent : Nat → Option Entry) (A : List (Nat × Bool)) : Prop where
  hM : Mdl B ρ s a w
  hL : ∀ k x, look k = some x → s.look k = some x
  hE : ∀ id e, ent id = some e → s.ent id = some e
  hA : ∀ q ∈ A, yl a.tmps q.1 = some q.2

/-- What follows behind the operation. -/
def Cont (B : Base) (s : St) (ρ : Nm) (r : Raw) (o : Oper) (a : Act) (K : Act → World → Prop) : Prop :=
  ∀ (ρ' : Nm) (u : Value) (w' : World), Ext B s.used ρ ρ' → u = r.v.conc ρ' → Hp B ρ' (entOf s.ent r.es) (usedOf s.used r.new) w' → K (a.put o.dst u) w'

section
variable {P : Program} {tbl : List (PF P)} {s : St} {look : Nat → Option SS} {ent : Nat → Option Entry} {A : List (Nat × Bool)} {nid : Nat} {o : Oper} {r : Raw} {B : Base} {ρ : Nm} {a : Act} {w : World} {K : Act → World → Prop} {Q : Exit → Act → World → Prop}

theorem Ctx.ev (c : Ctx B ρ s a w look ent A) {x : Operand} {v : SV} (h : ev look A x = some v) : a.eval x = v.conc ρ ∧ v.inU s.used := ⟨ev_conc c.hM c.hL c.hA h, ev_inU c.hM c.hL h⟩

theorem Ctx.evC (c : Ctx B ρ s a w look ent A) {x : Operand} {v : Cell} (h : evC look A x = some v) : a.eval x = v.conc ρ ∧ v.inU s.used := by
  unfold SX.evC at h
  split at h
  · rename_i u hu
    cases h
    obtain ⟨h1, h2⟩ := c.ev hu
    exact ⟨h1, h2 _ (by simp)⟩
  · cases h

theorem Ctx.evI (c : Ctx B ρ s a w look ent A) {x : Operand} {i : Int} (h : evI look A x = some i) : ∃ k, a.eval x = .int k i := by
  unfold SX.evI at h
  split at h
  · rename_i k i' hu
    cases h
    exact ⟨k, (c.evC hu).1⟩
  · cases h

theorem Ctx.ev1 (c : Ctx B ρ s a w look ent A) {x : Operand} {v : V1} (h : ev1 look A x = some v) : a.eval x = v.conc ρ ∧ v.inU s.used := by
  unfold SX.ev1 at h
  split at h
  · rename_i u hu
    cases h
    exact c.ev hu
  · cases h

theorem Ctx.hp (c : Ctx B ρ s a w look ent A) : Hp B ρ s.ent s.used w := c.hM.hp

theorem V1.cells?_conc (ρ : Nm) {v : V1} {cs : List Cell} (h : v.cells? = some cs) : (v.conc ρ).cells = (cs.map (Cell.conc ρ)).toArray := by
  obtain ⟨g, l⟩ := v
  unfold V1.cells? at h
  split at h
  · rename_i e1; simp only at e1 h; subst e1; cases h; rfl
  · cases h
  · rename_i c hne e1 e2
    simp only at e1 e2; subst e1 e2; cases h
    show ((V1.mk false [c]).conc ρ).cells = _
    simp only [V1.conc]
    cases c with
    | val v =>
      cases v with
      | agg x => exact (hne x rfl).elim
      | _ => rfl
    | ref id => simp only [Cell.conc, List.map_cons, List.map_nil]; exact slim_cells _
    | _ => rfl
  · cases h

theorem V1.cells?_inU {U : Nat → Bool} {v : V1} {cs : List Cell} (hv : v.inU U) (h : v.cells? = some cs) : ∀ c ∈ cs, c.inU U := by
  obtain ⟨g, l⟩ := v
  unfold V1.cells? at h
  split at h
  · cases h; exact hv
  · cases h
  · rename_i e1 e2; simp only at e1 e2; subst e1 e2; cases h; exact hv
  · cases h

theorem wp_of_value {u : Value} {w' : World} (hr : (execOp a.eval o).run P w = .ok (.value u) w') (h : K (a.put o.dst u) w') : o.wp P a w K Q := by
  unfold Oper.wp; rw [hr]; exact h

theorem wp_of_skip {w' : World} (hr : (execOp a.eval o).run P w = .ok .skip w') (h : K (a.put o.dst undef) w') : o.wp P a w K Q := by
  unfold Oper.wp; rw [hr]; exact h

/-- The world stays as it is. -/
theorem Cont.same {v : SV} {nd : List Bool} (hr : r = ⟨v, [], [], nd⟩) (hC : Cont B s ρ r o a K) {w' : World} (hp : Hp B ρ s.ent s.used w') : K (a.put o.dst (v.conc ρ)) w' := by
  subst hr
  exact hC ρ _ w' (Ext.refl _ _ _) rfl hp

/-! ### Nil slices -/

def nilNm (ρ : Nm) (L : List Nat) : Nm := ⟨fun i => bif memN L i then .slice none 0 0 else ρ.nm i, ρ.mem⟩

theorem memN_mem : ∀ {l : List Nat} {i : Nat}, memN l i = true ↔ i ∈ l
  | [], i => by simp [memN]
  | p :: l, i => by
    simp only [memN, List.mem_cons]
    cases hb : Nat.beq p i with
    | true => have := Nat.eq_of_beq_eq_true hb; simp [this]
    | false =>
      have hne : p ≠ i := fun e => by subst e; simp at hb
      simp only [cond_false, memN_mem]
      constructor
      · exact .inr
      · rintro (rfl | h)
        · exact (hne rfl).elim
        · exact h

theorem isNil_conc {c : Cell} (h : isNil c = true) (ρ : Nm) : c.conc ρ = .slice none 0 0 := by
  unfold isNil at h
  split at h
  · rfl
  · cases h

theorem nilC_conc {ρ : Nm} {L : List Nat} : ∀ (ts : List (Option (TypeId × CTy))) (cs : List Cell) (n : Nat), (∀ i ∈ keys (nilE ts cs n), i ∈ L) → (∀ c ∈ cs, c.conc (nilNm ρ L) = c.conc ρ) →
    (nilC ts cs n).map (Cell.conc (nilNm ρ L)) = cs.map (Cell.conc ρ)
  | [], cs, n, _, hc => by simp only [nilC]; exact List.map_congr_left hc
  | none :: ts, [], n, _, hc => rfl
  | some _ :: ts, [], n, _, hc => rfl
  | none :: ts, c :: cs, n, hk, hc => by
    simp only [nilC, List.map_cons]
    rw [hc c (by simp), nilC_conc ts cs n hk fun c hm => hc c (by simp [hm])]
  | some (e, t) :: ts, c :: cs, n, hk, hc => by
    simp only [nilC]
    simp only [nilE] at hk
    cases hn : isNil c with
    | true =>
      simp only [hn, cond_true] at hk ⊢
      simp only [List.map_cons]
      rw [nilC_conc ts cs (n + 1) (fun i hi => hk i (by simp [keys] at hi ⊢; exact .inr hi)) fun c hm => hc c (by simp [hm])]
      have : memN L n = true := memN_mem.2 (hk n (by simp [keys]))
      rw [isNil_conc hn]
      simp [Cell.conc, Nm.of, nilNm, this, slim]
    | false =>
      simp only [hn, cond_false] at hk ⊢
      simp only [List.map_cons]
      rw [hc c (by simp), nilC_conc ts cs n hk fun c hm => hc c (by simp [hm])]

theorem nilE_look : ∀ (ts : List (Option (TypeId × CTy))) (cs : List Cell) (n : Nat) (i : Nat) (e : Entry), look? (nilE ts cs n) i = some e → i ∈ keys (nilE ts cs n) ∧ ∃ e0 t, e = .row true e0 t []
  | [], cs, n, i, e, h => by simp [nilE, look?] at h
  | none :: ts, [], n, i, e, h => by simp [nilE, look?] at h
  | some _ :: ts, [], n, i, e, h => by simp [nilE, look?] at h
  | none :: ts, c :: cs, n, i, e, h => nilE_look ts cs n i e h
  | some (e0, t) :: ts, c :: cs, n, i, e, h => by
    simp only [nilE] at h ⊢
    cases hn : isNil c with
    | true =>
      simp only [hn, cond_true] at h ⊢
      simp only [look?] at h
      cases hb : Nat.beq n i with
      | true =>
        have := Nat.eq_of_beq_eq_true hb; subst this
        simp at h; subst h
        exact ⟨by simp [keys], e0, t, rfl⟩
      | false =>
        simp [hb] at h
        obtain ⟨h1, h2⟩ := nilE_look ts cs (n + 1) i e h
        exact ⟨by simp only [keys, List.map_cons, List.mem_cons] at h1 ⊢; exact .inr h1, h2⟩
    | false =>
      simp only [hn, cond_false] at h ⊢
      exact nilE_look ts cs n i e h

theorem nilE_ge : ∀ (ts : List (Option (TypeId × CTy))) (cs : List Cell) (n : Nat) (i : Nat), i ∈ keys (nilE ts cs n) → n ≤ i
  | [], cs, n, i, h => by simp [nilE, keys] at h
  | none :: ts, [], n, i, h => by simp [nilE, keys] at h
  | some _ :: ts, [], n, i, h => by simp [nilE, keys] at h
  | none :: ts, c :: cs, n, i, h => nilE_ge ts cs n i h
  | some (e0, t) :: ts, c :: cs, n, i, h => by
    simp only [nilE] at h
    cases hn : isNil c with
    | true =>
      simp only [hn, cond_true, keys, List.map_cons, List.mem_cons] at h
      rcases h with rfl | h
      · exact Nat.le_refl _
      · have := nilE_ge ts cs (n + 1) i h; omega
    | false => simp only [hn, cond_false] at h; exact nilE_ge ts cs n i h

theorem nilC_inU {U : Nat → Bool} : ∀ (ts : List (Option (TypeId × CTy))) (cs : List Cell) (n : Nat), (∀ i ∈ keys (nilE ts cs n), U i = true) → (∀ c ∈ cs, c.inU U) → ∀ c ∈ nilC ts cs n, c.inU U
  | [], cs, n, _, hc => by simp only [nilC]; exact hc
  | none :: ts, [], n, _, hc => by simp [nilC]
  | some _ :: ts, [], n, _, hc => by simp [nilC]
  | none :: ts, c :: cs, n, hk, hc => by
    simp only [nilC]
    intro x hx
    rcases List.mem_cons.1 hx with rfl | hx
    · exact hc _ (by simp)
    · exact nilC_inU ts cs n hk (fun c hm => hc c (by simp [hm])) x hx
  | some (e, t) :: ts, c :: cs, n, hk, hc => by
    simp only [nilC]
    simp only [nilE] at hk
    cases hn : isNil c with
    | true =>
      simp only [hn, cond_true] at hk ⊢
      intro x hx
      rcases List.mem_cons.1 hx with rfl | hx
      · exact hk n (by simp [keys])
      · exact nilC_inU ts cs (n + 1) (fun i hi => hk i (by simp [keys] at hi ⊢; exact .inr hi)) (fun c hm => hc c (by simp [hm])) x hx
    | false =>
      simp only [hn, cond_false] at hk ⊢
      intro x hx
      rcases List.mem_cons.1 hx with rfl | hx
      · exact hc _ (by simp)
      · exact nilC_inU ts cs n hk (fun c hm => hc c (by simp [hm])) x hx

theorem fixV_inU {U : Nat → Bool} {T : TypeId} {n : Nat} {v : V1} (hv : v.inU U) (hk : ∀ i ∈ keys (fixV P T n v).es, U i = true) : (fixV P T n v).v.inU U := by
  unfold fixV at hk ⊢
  cases hb : v.cs.any isNil with
  | false => exact hv
  | true => simp only [hb] at hk ⊢; exact nilC_inU _ _ _ hk hv

theorem fixV_ge {T : TypeId} {n : Nat} {v : V1} {i : Nat} (h : i ∈ keys (fixV P T n v).es) : n ≤ i := by
  unfold fixV at h
  cases hb : v.cs.any isNil with
  | false => simp [hb, keys] at h
  | true => simp only [hb] at h; exact nilE_ge _ _ _ _ h

theorem fixV_sound {ent : Nat → Option Entry} {used : Nat → Bool} (h : Hp B ρ ent used w) {T : TypeId} {n : Nat} {v : V1} (hv : v.inU used) (hun : ∀ i ∈ keys (fixV P T n v).es, used i = false) :
    ∃ ρ' : Nm, Ext B used ρ ρ' ∧ ρ'.mem = ρ.mem ∧ Hp B ρ' (entOf ent (fixV P T n v).es) (usedOf used (keys (fixV P T n v).es)) w ∧ (fixV P T n v).v.conc ρ' = v.conc ρ ∧
      ((fixV P T n v).v.agg = v.agg) ∧ (fixV P T n v).v.cs.map (Cell.conc ρ') = v.cs.map (Cell.conc ρ) := by
  obtain ⟨g, cs⟩ := v
  unfold fixV at hun ⊢
  cases hb : cs.any isNil with
  | false => exact ⟨ρ, Ext.refl _ _ _, rfl, h, rfl, rfl, rfl⟩
  | true =>
    simp only [hb] at hun ⊢
    let L := keys (nilE (slotsOf P 12 T) cs n)
    have hnm : ∀ id, used id = true → nilNm ρ L id = ρ id := fun id hid => by
      have : memN L id = false := by
        cases hm : memN L id with
        | false => rfl
        | true => rw [hun id (memN_mem.1 hm)] at hid; cases hid
      simp [Nm.of, nilNm, this]
    have hcc := nilC_conc (ρ := ρ) (L := L) (slotsOf P 12 T) cs n (fun i hi => hi) fun c hc => Cell.conc_congr hnm (hv c hc)
    obtain ⟨hx, hp⟩ := h.names (ρ' := nilNm ρ L) (es := nilE (slotsOf P 12 T) cs n) (new := L) hnm rfl fun id e he => by
      obtain ⟨h1, e0, t, rfl⟩ := nilE_look _ _ _ _ _ he
      have hm : memN L id = true := memN_mem.2 h1
      have hv : nilNm ρ L id = .slice none 0 0 := by simp [Nm.of, nilNm, hm, slim]
      refine ⟨?_, by simp [usedOf, hm], trivial, by simp only [Entry.ob, hv, blks]⟩
      simp only [Entry.holds, hv]
      exact ⟨[], ownR_nil _ _ _, RepL.nil _ _, by simp [blks]⟩
    refine ⟨nilNm ρ L, hx, rfl, hp, ?_, trivial, hcc⟩
    simp only [V1.conc]
    cases g with
    | true => simp only [hcc]
    | false =>
      match cs, hcc with
      | [], _ => cases slotsOf P 12 T with
        | nil => rfl
        | cons t _ => cases t <;> rfl
      | [c], hcc =>
        have hl : ∃ c', nilC (slotsOf P 12 T) [c] n = [c'] := by
          match slotsOf P 12 T with
          | [] => exact ⟨c, rfl⟩
          | none :: ts => exact ⟨c, by cases ts with | nil => rfl | cons t _ => cases t <;> rfl⟩
          | some t :: ts =>
            simp only [nilC]
            cases isNil c with
            | true => exact ⟨.ref n, by cases ts with | nil => rfl | cons t _ => cases t <;> rfl⟩
            | false => exact ⟨c, by cases ts with | nil => rfl | cons t _ => cases t <;> rfl⟩
        obtain ⟨c', hc'⟩ := hl
        rw [hc'] at hcc ⊢
        simpa using hcc
      | c1 :: c2 :: cr, hcc =>
        have := congrArg List.length hcc
        simp only [List.length_map, List.length_cons] at this
        match hq : nilC (slotsOf P 12 T) (c1 :: c2 :: cr) n, this with
        | _ :: _ :: _, _ => rfl

end
end Go.SX

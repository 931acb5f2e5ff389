/- A symbolic evaluator over the model's own operations, part 9l: loops. -/
import Derived.Test.YtjncnnpdaeociaaTX9
import Derived.Deep.LoopGhost
namespace Go.SX
open Go.RowKit

section
variable {P : Program} {tbl : List (PF P)} {s s' t : St} {W : Nat → Bool} {lf : List (St → R)} {B : Base} {ρ : Nm} {a : Act} {w : World} {post post' : Ex → St → Prop} {σ : Nat → Option Nat}

/-- The same names, numbered anew. -/
def renNm (σ : Nat → Option Nat) (ρ : Nm) : Nm := ⟨fun id => match σ id with | some j => ρ.nm j | none => .nilFunc, ρ.mem⟩

theorem renNm_at {i j : Nat} (h : σ i = some j) : renNm σ ρ i = ρ j := by simp only [Nm.of, renNm, h]

/-- What the state t says, with its ids turned by σ, the state s says too. -/
structure SubR (σ : Nat → Option Nat) (t s : St) : Prop where
  look : ∀ k x, t.look k = some x → ∃ y, s.look k = some y ∧ x.g = none ∧ y.g = none ∧ x.v.ren σ = some y.v ∧ x.v.inU t.used
  ent : ∀ id e, t.ent id = some e → ∃ j e', σ id = some j ∧ s.ent j = some e' ∧ e.ren σ = some e' ∧ t.used id = true ∧ e.inU t.used
  inj : ∀ id id' j, σ id = some j → σ id' = some j → id = id'

theorem SubR.mdl (h : SubR σ t s) (hM : Mdl B ρ s a w) : Mdl B (renNm σ ρ) t a w := by
  have hr : ∀ i j, (fun _ : Nat => true) i = true → σ i = some j → ρ j = renNm σ ρ i := fun i j _ hj => (renNm_at hj).symm
  have hall : ∀ c : Cell, c.inU fun _ => true := fun c => by cases c <;> simp [Cell.inU]
  have hallV : ∀ v : SV, v.inU fun _ => true := fun v => by
    cases v with
    | one v => exact fun c _ => hall c
    | tup vs => exact fun v _ c _ => hall c
  have hob : ∀ (id : Nat) (e : Entry) (j : Nat) (e' : Entry), σ id = some j → e.ren σ = some e' → e.ob (renNm σ ρ id) = e'.ob (ρ j) := by
    intro id e j e' h1 h3
    rw [renNm_at h1]
    cases e with
    | box T cs => simp only [Entry.ren, Option.map_eq_some_iff] at h3; obtain ⟨cs', _, rfl⟩ := h3; rfl
    | row own e t xs => simp only [Entry.ren, Option.some.injEq] at h3; subst h3; rfl
    | gone => simp only [Entry.ren, Option.some.injEq] at h3; subst h3; rfl
  refine ⟨hM.hd, hM.hn, fun k x hx => ?_, fun k x j b hx hj => ?_, fun k x hx => ?_, ⟨fun id e he => ?_, fun id id' e e' b he he' hb hb' => ?_, hM.hp.hf.os, hM.hp.hf.tape, hM.hp.hf.output, hM.hp.hf.size, hM.hp.hf.mem, hM.hp.hf.dat⟩, hM.hl⟩
  · obtain ⟨y, h1, h2, h3, h4, _⟩ := h.look k x hx
    rw [hM.hs k y h1]
    simp only [SS.at, h2, h3]
    rw [SV.ren_conc (U := fun _ => true) hr (hallV _) h4]
  · obtain ⟨_, _, h2, _⟩ := h.look k x hx; rw [h2] at hj; cases hj
  · obtain ⟨_, _, _, _, _, h5⟩ := h.look k x hx; exact h5
  · obtain ⟨j, e', h1, h2, h3, h4, h5⟩ := h.ent id e he
    refine ⟨?_, h4, h5⟩
    have g1 := (hM.he j e' h2).1
    cases e with
    | box T cs =>
      simp only [Entry.ren, Option.map_eq_some_iff] at h3
      obtain ⟨cs', hcs, rfl⟩ := h3
      obtain ⟨b, k1, k2, k3, k4⟩ := g1
      refine ⟨b, by rw [renNm_at h1]; exact k1, ?_, k3, k4⟩
      rw [← mapO_map hcs fun x hx y hy => Cell.ren_conc (U := fun _ => true) hr (hall x) hy]
      exact k2
    | row own e0 t xs =>
      simp only [Entry.ren, Option.some.injEq] at h3; subst h3
      cases own with
      | false => simp only [Entry.holds]; rw [renNm_at h1]; exact g1
      | true =>
        obtain ⟨cs, k1, k2, k3⟩ := g1
        simp only [Entry.holds]; rw [renNm_at h1]
        exact ⟨cs, k1, k2, k3⟩
    | gone => trivial
  · obtain ⟨j, e1, h1, h2, h3, _⟩ := h.ent id e he
    obtain ⟨j', e1', h1', h2', h3', _⟩ := h.ent id' e' he'
    rw [hob id e j e1 h1 h3] at hb
    rw [hob id' e' j' e1' h1' h3'] at hb'
    have := hM.hp.hi j j' e1 e1' b h2 h2' hb hb'
    subst this
    exact h.inj id id' j h1 h1'

/-- A loop, by a relation that bears a number, which every round lowers; the ids in U keep their names. -/
theorem Sat.loop {b : Code} (U : Nat → Bool) (I : Nat → St → Prop) (hU : ∀ m s, I m s → ∀ id, U id = true → s.used id = true)
    (round : ∀ m s, I m s → Sat P B b s fun x s' => match x with | .normal => ∃ m' s'' σ, m' < m ∧ I m' s'' ∧ SubR σ s'' s' ∧ (∀ id, U id = true → σ id = some id) | x => post x s')
    (m : Nat) (s : St) (h : I m s) (hM : Mdl B ρ s a w) :
    (Code.loop b).wp P (fun e a' w' => ∃ x s' ρ', e = Ex.out x ∧ Ext B U ρ ρ' ∧ Mdl B ρ' s' a' w' ∧ post x s') a w := by
  refine Go.wp_loop_ghost (fun m a w => ∃ s ρ', I m s ∧ Ext B U ρ ρ' ∧ Mdl B ρ' s a w) m ⟨s, ρ, h, Ext.refl _ _ _, hM⟩ fun m a w ⟨s, ρ1, hI, hag, hM⟩ => ?_
  refine wp_mono (round m s hI ρ1 a w hM) fun e a' w' ⟨x, s', ρ', he, hag', hM', hp⟩ => ?_
  subst he
  have hagg : Ext B U ρ ρ' := hag.trans (hag'.sub (hU m s hI)) fun _ h => h
  cases x with
  | normal =>
    obtain ⟨m', s'', σ, hlt, hI', hsub, hσ⟩ := hp
    refine ⟨m', hlt, s'', renNm σ ρ', hI', ⟨fun id hid => ?_, hagg.old, hagg.new⟩, hsub.mdl hM'⟩
    rw [renNm_at (hσ id hid)]; exact hagg.nm id hid
  | exit id => exact ⟨.exit id, s', ρ', rfl, hagg, hM', hp⟩
  | ret => exact ⟨.ret, s', ρ', rfl, hagg, hM', hp⟩

end

/-! ### A loop by states of its own -/

/-- The loop's own states: slots in D, ids as numbers: 'fx' keep their names, 'rw' may be other slices after each round, 'nw' are there only behind the loop. -/
structure Shape where
  D : List Nat
  fx : List Nat
  rw : List Nat
  nw : List Nat

def Shape.ids (h : Shape) : List Nat := h.fx ++ h.rw
def Shape.out (h : Shape) : List Nat := h.rw ++ h.nw
def Shape.idsX (h : Shape) : List Nat := h.fx ++ h.out

def Shape.fresh (h : Shape) (s : St) : List Nat := idsFrom (s.next * 64) h.out.length

/-- The names behind the loop. -/
def Shape.tau (h : Shape) (σ : Nat → Option Nat) (s : St) (id : Nat) : Option Nat :=
  bif memN h.fx id then σ id else match posN h.out id with
    | some i => (h.fresh s)[i]?
    | none => none

def Shape.old (h : Shape) (σ : Nat → Option Nat) : List Nat := h.ids.filterMap σ

/-- What turns behind the loop. -/
def entsL (h : Shape) (τ : Nat → Option Nat) (σ : Nat → Option Nat) (y : St) : List Nat → List (Nat × Entry)
  | [] => (h.rw.filterMap σ).map fun k => (k, Entry.gone)
  | id :: r => match τ id, y.ent id with
    | some k, some e => match e.ren τ with
      | some e' => (k, e') :: entsL h τ σ y r
      | none => entsL h τ σ y r
    | _, _ => entsL h τ σ y r

/-- The state behind the loop: of the slots in D and of the ids what y says, of all else what s says. -/
def encL (h : Shape) (σ : Nat → Option Nat) (y s : St) : St :=
  let τ := h.tau σ s
  { look := fun k => bif memN h.D k then (match y.look k with | some x => (x.v.ren τ).map (SS.mk none) | none => none) else s.clean.look k
    ent := entOf s.ent (entsL h τ σ y h.idsX)
    used := usedOf s.used (h.fresh s), wr := fun _ => false, next := s.next + 1, log := h.D ++ s.log, logE := keys (entsL h τ σ y h.idsX) ++ s.logE }

theorem encL_unch (h : Shape) (σ : Nat → Option Nat) (y s : St) : Unch s (encL h σ y s) := by
  refine ⟨fun k hk => ?_, fun k hk => ?_, fun k hk => List.mem_append_right _ hk, fun k hk => List.mem_append_right _ hk, fun k hk => usedOf_mono _ hk⟩
  · simp only [encL, List.mem_append, not_or] at hk ⊢
    have : memN h.D k = false := by cases hm : memN h.D k with | false => rfl | true => exact absurd (SX.memN_mem.1 hm) hk.1
    simp only [this, cond_false]
    exact clean_look s k
  · simp only [encL, List.mem_append, not_or] at hk ⊢
    simp only [entOf]
    rw [look?_none (by simpa [keys] using hk.1)]

end Go.SX

/- A symbolic evaluator over the model's own operations, part 3: what turns in memory. -/
import Derived.Test.YtjncnnpdaeociaaTX2
import Derived.Laws.AppendOwn
import Derived.Laws.MakeOwn
namespace Go.SX
open Go.RowKit

theorem usedOf_mono {used : Nat → Bool} {new : List Nat} : ∀ id, used id = true → usedOf used new id = true := by
  intro id h; simp only [usedOf]; cases memN new id <;> simp [h]

theorem Entry.inU_mono {U U' : Nat → Bool} (h : ∀ id, U id = true → U' id = true) {e : Entry} (he : e.inU U) : e.inU U' := by
  cases e with
  | box T cs => exact fun c hc => Cell.inU_mono h (he c hc)
  | _ => trivial

theorem blks_own {v : Value} {w : World} {e : TypeId} {z n : Nat} {cs : List Value} (h : ownR w e z v n cs) {b : Nat} (hb : b ∈ blks v) :
    ∃ cap cur, v = .slice (some ⟨b, 0, none⟩) n cap ∧ w.heap[b]? = some (.cells cur e (0, 0)) ∧ n ≤ cap ∧ cap ≤ maxLen ∧ cur.size = cap * z ∧ cur.toList.take (n * z) = cs := by
  rcases h.2 with ⟨hz, _⟩ | ⟨g, cap, cur, rfl, h0, hg, h1, h2, h3, h4⟩
  · rw [blks_zero hz] at hb; cases hb
  · rw [blks_slice h0, List.mem_singleton] at hb; subst hb
    exact ⟨cap, cur, rfl, hg, h1, h2, h3, h4⟩

theorem Entry.ob_lt {B : Base} {ρ : Nm} {w : World} {id : Nat} {e : Entry} (h : e.holds B ρ w id) {b : Nat} (hb : b ∈ e.ob (ρ id)) : b < w.heap.size ∧ B.mem b = none ∧ ρ.mem b = none := by
  cases e with
  | box T cs =>
    obtain ⟨c, h1, h2, h3, h4⟩ := h
    simp only [Entry.ob, h1, blks, List.mem_singleton] at hb
    subst hb
    exact ⟨(Array.getElem?_eq_some_iff.1 h2).1, h3, h4⟩
  | row own e t xs =>
    cases own with
    | false => simp [Entry.ob] at hb
    | true =>
      obtain ⟨cs, h1, _, h3⟩ := h
      simp only [Entry.ob] at hb
      obtain ⟨_, _, _, hg, _⟩ := blks_own h1 hb
      exact ⟨(Array.getElem?_eq_some_iff.1 hg).1, h3 b hb⟩
  | gone => simp [Entry.ob] at hb

theorem ownsRow_keep {v : Value} {w w' : World} {e : TypeId} {z n : Nat} {cs : List Value} (h : ownR w e z v n cs) (hk : ∀ b ∈ blks v, w'.heap[b]? = w.heap[b]?) : ownR w' e z v n cs := by
  refine ⟨h.1, h.2.imp id ?_⟩
  rintro ⟨g, cap, cur, rfl, h1, h2, rest⟩
  exact ⟨g, cap, cur, rfl, h1, by rw [hk g (by rw [blks_slice h1]; simp)]; exact h2, rest⟩

theorem Entry.holds_keep {B : Base} {ρ ρ' : Nm} {U : Nat → Bool} {w w' : World} {id : Nat} {e : Entry} (hnm : ∀ id, U id = true → ρ' id = ρ id) (hold : ∀ b o, ρ.mem b = some o → ρ'.mem b = some o)
    (hU : U id = true) (hin : e.inU U) (hh : e.holds B ρ w id) (hw : ∀ b ∈ e.ob (ρ id), w'.heap[b]? = w.heap[b]?) (hm : ∀ b ∈ e.ob (ρ id), ρ'.mem b = none) : e.holds B ρ' w' id := by
  cases e with
  | box T cs =>
    obtain ⟨b, h1, h2, h3, h4⟩ := hh
    simp only [Entry.ob, h1, blks, List.mem_singleton, forall_eq] at hw hm
    exact ⟨b, by rw [hnm id hU, h1], by rw [map_conc_congr hnm hin, hw, h2], h3, hm⟩
  | row own e t xs =>
    cases own with
    | false =>
      simp only [Entry.holds] at hh ⊢
      rw [hnm id hU]; exact hh.mono hold
    | true =>
      obtain ⟨cs, h1, h2, h3⟩ := hh
      simp only [Entry.ob] at hw hm
      simp only [Entry.holds]
      rw [hnm id hU]
      exact ⟨cs, ownsRow_keep h1 hw, h2.mono hold, fun b hb => ⟨(h3 b hb).1, hm b hb⟩⟩
  | gone => trivial

/-- What may have turned: the blocks of X; and there may be new ones. -/
structure Chg (w w' : World) (X : Nat → Prop) : Prop where
  os : w'.os = w.os
  tape : w'.tape = w.tape
  output : w'.output = w.output
  size : w.heap.size ≤ w'.heap.size
  block : ∀ k, k < w.heap.size → ¬ X k → w'.heap[k]? = w.heap[k]?

theorem Chg.refl (w : World) (X : Nat → Prop) : Chg w w X := ⟨rfl, rfl, rfl, Nat.le_refl _, fun _ _ _ => rfl⟩

theorem Chg.grown {w w' : World} {r : Option Nat} (h : w.grownBy w' r) : Chg w w' (fun k => r = some k) :=
  ⟨h.os, h.tape, h.output, h.size, fun k hk hX => h.block k hk fun e => hX e.symm⟩

theorem Chg.alloc (w : World) (o : Obj) : Chg w (w.alloc o) (fun _ => False) :=
  ⟨rfl, rfl, rfl, by simp, fun k hk _ => heap_alloc_old w o hk⟩

theorem Chg.setRow (w : World) (b : Nat) (r : Array Value) : Chg w (w.setRow b r) (fun k => k = b) :=
  ⟨rfl, rfl, rfl, by simp [World.setRow], fun k _ hX => setRow_other w b k _ hX⟩

/-- A block that one of the changed ids owned before. -/
def Was (ent : Nat → Option Entry) (ρ : Nm) (es : List (Nat × Entry)) (b : Nat) : Prop := ∃ id e e', ent id = some e ∧ b ∈ e.ob (ρ id) ∧ look? es id = some e'

/-- Memory turns, and so does what is known of it. -/
theorem Hp.chg {B : Base} {ρ ρ' : Nm} {ent : Nat → Option Entry} {used : Nat → Bool} {w w' : World} {X : Nat → Prop} {es : List (Nat × Entry)} {new : List Nat} (h : Hp B ρ ent used w)
    (hc : Chg w w' X) (hnm : ∀ id, used id = true → ρ' id = ρ id) (hold : ∀ b o, ρ.mem b = some o → ρ'.mem b = some o)
    (hX : ∀ k, X k → Was ent ρ es k)
    (hfr : ∀ b o, ρ'.mem b = some o → ρ.mem b = some o ∨ (w'.heap[b]? = some o ∧ (w.heap.size ≤ b ∨ Was ent ρ es b)))
    (hes : ∀ id e, look? es id = some e → e.holds B ρ' w' id ∧ usedOf used new id = true ∧ e.inU (usedOf used new))
    (hob : ∀ id e b, look? es id = some e → b ∈ e.ob (ρ' id) → w.heap.size ≤ b ∨ Was ent ρ es b)
    (hdis : ∀ id id' e e' b, look? es id = some e → look? es id' = some e' → b ∈ e.ob (ρ' id) → b ∈ e'.ob (ρ' id') → id = id') :
    Ext B used ρ ρ' ∧ Hp B ρ' (entOf ent es) (usedOf used new) w' := by
  have hwas : ∀ b, Was ent ρ es b → b < w.heap.size ∧ B.mem b = none ∧ ρ.mem b = none := fun b ⟨id, e, _, h1, h2, _⟩ => Entry.ob_lt (h.he id e h1).1 h2
  have hnw : ∀ b o, B.mem b = some o → ¬ w.heap.size ≤ b := fun b o hb hle => by
    have := (Array.getElem?_eq_some_iff.1 (h.hf.mem b o hb)).1; omega
  have oth : ∀ id e b, ent id = some e → look? es id = none → b ∈ e.ob (ρ id) → ¬ Was ent ρ es b := by
    intro id e b he hl hb ⟨id0, e0, e', h1, h2, h3⟩
    have := h.hi _ _ _ _ b he h1 hb h2
    subst this; rw [hl] at h3; cases h3
  have key : ∀ id e, ent id = some e → look? es id = none → e.holds B ρ' w' id ∧ usedOf used new id = true ∧ e.inU (usedOf used new) := by
    intro id e he hl
    obtain ⟨h1, h2, h3⟩ := h.he id e he
    refine ⟨Entry.holds_keep hnm hold h2 h3 h1 (fun b hb => hc.block b (Entry.ob_lt h1 hb).1 fun hx => oth id e b he hl hb (hX b hx)) (fun b hb => ?_), usedOf_mono _ h2, Entry.inU_mono usedOf_mono h3⟩
    cases hm : ρ'.mem b with
    | none => rfl
    | some o =>
      obtain ⟨h4, _, h5⟩ := Entry.ob_lt h1 hb
      rcases hfr b o hm with h6 | ⟨_, h6 | h6⟩
      · rw [h5] at h6; cases h6
      · omega
      · exact (oth id e b he hl hb h6).elim
  have hnew : ∀ b o, ρ'.mem b = some o → ρ.mem b = some o ∨ B.mem b = none := by
    intro b o hb
    rcases hfr b o hb with h6 | ⟨_, h6⟩
    · exact .inl h6
    · right
      cases hm : B.mem b with
      | none => rfl
      | some o' =>
        rcases h6 with h6 | h6
        · exact (hnw b o' hm h6).elim
        · rw [(hwas b h6).2.1] at hm; cases hm
  refine ⟨⟨hnm, hold, hnew⟩, fun id e he => ?_, fun id id' e e' b he he' hb hb' => ?_, hc.os.trans h.hf.os, hc.tape.trans h.hf.tape, hc.output.trans h.hf.output, Nat.le_trans h.hf.size hc.size, fun b o hb => ?_, fun b o hb => ?_⟩
  · simp only [entOf] at he
    cases hl : look? es id with
    | some e1 => simp [hl] at he; subst he; exact hes id _ hl
    | none => simp [hl] at he; exact key id e he hl
  · have hsame : ∀ id e b, ent id = some e → b ∈ e.ob (ρ' id) → b ∈ e.ob (ρ id) := fun id e b he hb => by rw [← hnm id (h.he id e he).2.1]; exact hb
    simp only [entOf] at he he'
    cases hl : look? es id with
    | some e1 =>
      simp [hl] at he; subst he
      cases hl' : look? es id' with
      | some e2 => simp [hl'] at he'; subst he'; exact hdis _ _ _ _ b hl hl' hb hb'
      | none =>
        simp [hl'] at he'
        have hb2 := hsame _ _ _ he' hb'
        rcases hob id _ b hl hb with h6 | h6
        · have := (Entry.ob_lt (h.he id' e' he').1 hb2).1; omega
        · exact (oth id' e' b he' hl' hb2 h6).elim
    | none =>
      simp [hl] at he
      have hb1 := hsame _ _ _ he hb
      cases hl' : look? es id' with
      | some e2 =>
        simp [hl'] at he'; subst he'
        rcases hob id' _ b hl' hb' with h6 | h6
        · have := (Entry.ob_lt (h.he id e he).1 hb1).1; omega
        · exact (oth id e b he hl hb1 h6).elim
      | none =>
        simp [hl'] at he'
        exact h.hi _ _ _ _ b he he' hb1 (hsame _ _ _ he' hb')
  · have h1 := h.hf.mem b o hb
    rw [hc.block b (Array.getElem?_eq_some_iff.1 h1).1 fun hx => by rw [(hwas b (hX b hx)).2.1] at hb; cases hb]; exact h1
  · rcases hfr b o hb with h6 | ⟨h6, _⟩
    · have h1 := h.hf.dat b o h6
      rw [hc.block b (Array.getElem?_eq_some_iff.1 h1).1 fun hx => by rw [(hwas b (hX b hx)).2.2] at h6; cases h6]; exact h1
    · exact h6

theorem look?_append {α : Type} : ∀ (l r : List (Nat × α)) (k : Nat), look? (l ++ r) k = match look? l k with | some x => some x | none => look? r k
  | [], r, k => rfl
  | p :: l, r, k => by
    simp only [List.cons_append, look?]
    cases Nat.beq p.1 k with
    | true => rfl
    | false => exact look?_append l r k

theorem memN_append : ∀ (l r : List Nat) (k : Nat), memN (l ++ r) k = (memN l k || memN r k)
  | [], r, k => by simp [memN]
  | p :: l, r, k => by
    simp only [List.cons_append, memN]
    cases Nat.beq p k with
    | true => simp
    | false => simpa using memN_append l r k

theorem entOf_append (ent : Nat → Option Entry) (l r : List (Nat × Entry)) : entOf (entOf ent r) l = entOf ent (l ++ r) := by
  funext i
  simp only [entOf, look?_append]
  cases look? l i <;> rfl

theorem usedOf_append (used : Nat → Bool) (l r : List Nat) : usedOf (usedOf used r) l = usedOf used (l ++ r) := by
  funext i
  simp only [usedOf, memN_append]
  cases memN l i <;> cases memN r i <;> rfl

theorem entOf_nil (ent : Nat → Option Entry) : entOf ent [] = ent := rfl
theorem usedOf_nil (used : Nat → Bool) : usedOf used [] = used := rfl

def upd (ρ : Nm) (nid : Nat) (v : Value) : Nm := ⟨fun i => bif Nat.beq i nid then v else ρ.nm i, ρ.mem⟩
theorem upd_same (ρ : Nm) (nid : Nat) {v : Value} (hv : slim v = v) : upd ρ nid v nid = v := by simp [Nm.of, upd, hv]

theorem blks_new {a : Addr} {n c b : Nat} (h : b ∈ blks (.slice (some a) n c)) : b = a.block := by
  simp only [blks] at h
  cases hq : Nat.beq c 0 with
  | true => rw [hq] at h; cases h
  | false => rw [hq] at h; simpa using h

theorem zeroS_len {v : Value} (h : zeroS v) : ∃ b, v = .slice b 0 0 := by
  rcases h with rfl | ⟨b, rfl⟩
  · exact ⟨_, rfl⟩
  · exact ⟨_, rfl⟩

theorem zeroS_slim {v : Value} (h : zeroS v) : slim v = v := by
  rcases h with rfl | ⟨_, rfl⟩ <;> rfl

theorem ownsRow_slim {w : World} {e : TypeId} {z n : Nat} {v : Value} {cs : List Value} (h : ownR w e z v n cs) : slim v = v := by
  rcases h.2 with ⟨h, _⟩ | ⟨_, _, _, rfl, _⟩
  · exact zeroS_slim h
  · rfl

/-- The library's frame of an own slice's change. -/
theorem Chg.own {w w' : World} {v : Value} (h : w.grownBy w' v.ownBlock) (hv : ∀ g, v.ownBlock = some g → g ∈ blks v) : Chg w w' (fun k => k ∈ blks v) :=
  ⟨h.os, h.tape, h.output, h.size, fun k hk hX => h.block k hk fun e => hX (hv k e.symm)⟩
theorem upd_old {used : Nat → Bool} {nid : Nat} (hn : used nid = false) (ρ : Nm) (v : Value) : ∀ id, used id = true → upd ρ nid v id = ρ id := by
  intro id hid
  have : Nat.beq id nid = false := by
    cases hb : Nat.beq id nid with
    | false => rfl
    | true => rw [Nat.eq_of_beq_eq_true hb, hn] at hid; cases hid
  simp only [Nm.of, upd, this, cond_false]

theorem look?_one {α : Type} {i k : Nat} {x y : α} (h : look? [(i, x)] k = some y) : k = i ∧ y = x := by
  simp only [look?] at h
  cases hb : Nat.beq i k with
  | true => simp [hb] at h; exact ⟨(Nat.eq_of_beq_eq_true hb).symm, h.symm⟩
  | false => simp [hb] at h

theorem look?_same {α : Type} (i : Nat) (x : α) (l : List (Nat × α)) : look? ((i, x) :: l) i = some x := by simp [look?]

section
variable {B : Base} {ρ : Nm} {ent : Nat → Option Entry} {used : Nat → Bool} {w : World}

/-- A new variable. -/
theorem Hp.alloc (h : Hp B ρ ent used w) {nid : Nat} (hn : used nid = false) (T : TypeId) (cs : List Cell) (hcs : ∀ c ∈ cs, c.inU used) :
    let ρ' := upd ρ nid (.pointer (some ⟨w.heap.size, 0, none⟩))
    Ext B used ρ ρ' ∧ Hp B ρ' (entOf ent [(nid, .box T cs)]) (usedOf used [nid]) (w.alloc (.cells (cs.map (Cell.conc ρ)).toArray T)) := by
  intro ρ'
  have hnm := upd_old hn ρ (.pointer (some ⟨w.heap.size, 0, none⟩))
  refine h.chg (Chg.alloc w _) hnm (fun _ _ h => h) (fun _ hx => hx.elim) (fun _ _ hb => .inl hb) (fun id e he => ?_) (fun id e b he hb => ?_) (fun id id' e e' b he he' _ _ => ?_)
  · obtain ⟨rfl, rfl⟩ := look?_one he
    refine ⟨⟨w.heap.size, upd_same _ _ rfl, ?_, ?_, ?_⟩, by simp [usedOf, memN], fun c hc => Cell.inU_mono usedOf_mono (hcs c hc)⟩
    · rw [map_conc_congr hnm hcs]; exact heap_alloc_new w _
    · cases hm : B.mem w.heap.size with
      | none => rfl
      | some o => have := (Array.getElem?_eq_some_iff.1 (h.hf.mem _ _ hm)).1; omega
    · show ρ.mem w.heap.size = none
      cases hm : ρ.mem w.heap.size with
      | none => rfl
      | some o => have := (Array.getElem?_eq_some_iff.1 (h.hf.dat _ _ hm)).1; omega
  · obtain ⟨rfl, rfl⟩ := look?_one he
    simp only [Entry.ob] at hb
    rw [show ρ' id = .pointer (some ⟨w.heap.size, 0, none⟩) from upd_same _ _ rfl] at hb
    simp only [blks, List.mem_singleton] at hb
    subst hb; exact .inl (Nat.le_refl _)
  · exact (look?_one he).1.trans (look?_one he').1.symm

/-- A store into an own variable. -/
theorem Hp.setBox (h : Hp B ρ ent used w) {id : Nat} {T : TypeId} {cs ns : List Cell} (he : ent id = some (.box T cs)) (hns : ∀ c ∈ ns, c.inU used) :
    Ext B used ρ ρ ∧ Hp B ρ (entOf ent [(id, .box T ns)]) used (w.setRow (blkN (ρ id)) (ns.map (Cell.conc ρ)).toArray) := by
  obtain ⟨⟨b, h1, h2, h3, h4⟩, hid, _⟩ := h.he _ _ he
  have hbk : blkN (ρ id) = b := by rw [h1]; rfl
  have hwas : Was ent ρ [(id, .box T ns)] b := ⟨id, _, _, he, by simp [Entry.ob, h1, blks], look?_same _ _ _⟩
  rw [hbk, show used = usedOf used [] from rfl]
  refine h.chg (Chg.setRow w b _) (fun _ _ => rfl) (fun _ _ h => h) (fun k hk => by subst hk; exact hwas) (fun _ _ hb => .inl hb) (fun i e hl => ?_) (fun i e b' hl hb' => ?_) (fun i i' e e' b' hl hl' _ _ => ?_)
  · obtain ⟨rfl, rfl⟩ := look?_one hl
    exact ⟨⟨b, h1, setRow_heap w _ _ _ T _ h2, h3, h4⟩, hid, hns⟩
  · obtain ⟨rfl, rfl⟩ := look?_one hl
    simp only [Entry.ob, h1, blks, List.mem_singleton] at hb'
    subst hb'; exact .inr hwas
  · exact (look?_one hl).1.trans (look?_one hl').1.symm

/-- New names of data. -/
theorem Hp.names (h : Hp B ρ ent used w) {ρ' : Nm} {es : List (Nat × Entry)} {new : List Nat} (hnm : ∀ id, used id = true → ρ' id = ρ id) (hmem : ρ'.mem = ρ.mem)
    (hes : ∀ id e, look? es id = some e → e.holds B ρ' w id ∧ usedOf used new id = true ∧ e.inU (usedOf used new) ∧ e.ob (ρ' id) = []) :
    Ext B used ρ ρ' ∧ Hp B ρ' (entOf ent es) (usedOf used new) w := by
  refine h.chg (Chg.refl w (fun _ => False)) hnm (fun _ _ h => by rw [hmem]; exact h) (fun _ hx => hx.elim) (fun _ _ hb => .inl (by rw [← hmem]; exact hb)) (fun id e he => ?_) (fun id e b he hb => ?_) (fun id id' e e' b he he' hb _ => ?_)
  · obtain ⟨h1, h2, h3, _⟩ := hes id e he; exact ⟨h1, h2, h3⟩
  · rw [(hes id e he).2.2.2] at hb; cases hb
  · rw [(hes id e he).2.2.2] at hb; cases hb

/-- An own slice turns into another one, or is made. -/
theorem Hp.rowTo (h : Hp B ρ ent used w) {id nid : Nat} {e : TypeId} {t : CTy} {xs xs' : List (E t)} {w' : World} {v' : Value} {cs : List Value} (he : ent id = some (.row true e t xs)) (hn : used nid = false)
    (hg : Chg w w' (fun k => k ∈ blks (ρ id))) (hown : ownR w' e t.size v' xs'.length cs) (hrep : RepL ρ.mem t cs xs') (hb : ∀ b ∈ blks v', w.heap.size ≤ b ∨ b ∈ blks (ρ id)) :
    let ρ' := upd ρ nid v'
    Ext B used ρ ρ' ∧ Hp B ρ' (entOf ent [(nid, .row true e t xs'), (id, .gone)]) (usedOf used [nid]) w' := by
  intro ρ'
  obtain ⟨⟨cs0, h1, h2, h3⟩, hid, _⟩ := h.he _ _ he
  have hnm := upd_old hn ρ v'
  have hne : Nat.beq nid id = false := by
    cases hq : Nat.beq nid id with
    | false => rfl
    | true => rw [Nat.eq_of_beq_eq_true hq, hid] at hn; cases hn
  have hlid : look? [(nid, Entry.row true e t xs'), (id, .gone)] id = some .gone := by simp [look?, hne]
  have hwas : ∀ b ∈ blks (ρ id), Was ent ρ [(nid, .row true e t xs'), (id, .gone)] b := fun b hb => ⟨id, _, _, he, hb, hlid⟩
  have hcase : ∀ i x, look? [(nid, Entry.row true e t xs'), (id, .gone)] i = some x → (i = nid ∧ x = .row true e t xs') ∨ (i = id ∧ x = .gone) := by
    intro i x hl
    simp only [look?] at hl
    cases hq : Nat.beq nid i with
    | true => simp [hq] at hl; exact .inl ⟨(Nat.eq_of_beq_eq_true hq).symm, hl.symm⟩
    | false =>
      simp [hq] at hl
      cases hq' : Nat.beq id i with
      | true => simp [hq'] at hl; exact .inr ⟨(Nat.eq_of_beq_eq_true hq').symm, hl.symm⟩
      | false => simp [hq'] at hl
  refine h.chg hg hnm (fun _ _ h => h) (fun k hk => hwas k hk) (fun _ _ hb => .inl hb) (fun i x hl => ?_) (fun i x b hl hb' => ?_) (fun i i' x x' b hl hl' hb1 hb2 => ?_)
  · rcases hcase i x hl with ⟨rfl, rfl⟩ | ⟨rfl, rfl⟩
    · refine ⟨?_, by simp [usedOf, memN], trivial⟩
      simp only [Entry.holds]
      rw [show ρ' i = v' from upd_same _ _ (ownsRow_slim hown)]
      refine ⟨cs, hown, hrep, fun b hb' => ?_⟩
      rcases hb b hb' with h6 | h6
      · constructor
        · cases hm : B.mem b with
          | none => rfl
          | some o => have := (Array.getElem?_eq_some_iff.1 (h.hf.mem _ _ hm)).1; omega
        · show ρ.mem b = none
          cases hm : ρ.mem b with
          | none => rfl
          | some o => have := (Array.getElem?_eq_some_iff.1 (h.hf.dat _ _ hm)).1; omega
      · exact h3 b h6
    · exact ⟨trivial, usedOf_mono _ hid, trivial⟩
  · rcases hcase i x hl with ⟨rfl, rfl⟩ | ⟨rfl, rfl⟩
    · simp only [Entry.ob] at hb'
      rw [show ρ' i = v' from upd_same _ _ (ownsRow_slim hown)] at hb'
      exact (hb b hb').imp (fun h => h) (hwas b)
    · simp [Entry.ob] at hb'
  · rcases hcase i x hl with ⟨rfl, rfl⟩ | ⟨rfl, rfl⟩
    · rcases hcase i' x' hl' with ⟨rfl, rfl⟩ | ⟨rfl, rfl⟩
      · rfl
      · simp [Entry.ob] at hb2
    · simp [Entry.ob] at hb1

/-- A new own slice. -/
theorem Hp.rowNew (h : Hp B ρ ent used w) {nid : Nat} {e : TypeId} {t : CTy} {xs : List (E t)} {w' : World} {v : Value} {cs : List Value} (hn : used nid = false)
    (hg : w.grownBy w' none) (hown : ownR w' e t.size v xs.length cs) (hrep : RepL ρ.mem t cs xs) (hb : ∀ b ∈ blks v, w.heap.size ≤ b) :
    let ρ' := upd ρ nid v
    Ext B used ρ ρ' ∧ Hp B ρ' (entOf ent [(nid, .row true e t xs)]) (usedOf used [nid]) w' := by
  intro ρ'
  have hnm := upd_old hn ρ v
  refine h.chg (Chg.grown hg) hnm (fun _ _ h => h) (fun k hk => by cases hk) (fun _ _ hb => .inl hb) (fun i x hl => ?_) (fun i x b hl hb' => ?_) (fun i i' x x' b hl hl' hb1 hb2 => ?_)
  · obtain ⟨rfl, rfl⟩ := look?_one hl
    refine ⟨?_, by simp [usedOf, memN], trivial⟩
    simp only [Entry.holds]
    rw [show ρ' i = v from upd_same _ _ (ownsRow_slim hown)]
    refine ⟨cs, hown, hrep, fun b hb' => ?_⟩
    have h6 := hb b hb'
    constructor
    · cases hm : B.mem b with
      | none => rfl
      | some o => have := (Array.getElem?_eq_some_iff.1 (h.hf.mem _ _ hm)).1; omega
    · show ρ.mem b = none
      cases hm : ρ.mem b with
      | none => rfl
      | some o => have := (Array.getElem?_eq_some_iff.1 (h.hf.dat _ _ hm)).1; omega
  · obtain ⟨rfl, rfl⟩ := look?_one hl
    simp only [Entry.ob] at hb'
    rw [show ρ' i = v from upd_same _ _ (ownsRow_slim hown)] at hb'
    exact .inl (hb b hb')
  · exact (look?_one hl).1.trans (look?_one hl').1.symm

/-- A store into an own slice. -/
theorem Hp.rowSet (h : Hp B ρ ent used w) {id : Nat} {e : TypeId} {t : CTy} {xs xs' : List (E t)} {w' : World} {cs : List Value} (he : ent id = some (.row true e t xs))
    (hg : Chg w w' (fun k => k ∈ blks (ρ id))) (hown : ownR w' e t.size (ρ id) xs'.length cs) (hrep : RepL ρ.mem t cs xs') :
    Ext B used ρ ρ ∧ Hp B ρ (entOf ent [(id, .row true e t xs')]) used w' := by
  obtain ⟨⟨cs0, h1, h2, h3⟩, hid, _⟩ := h.he _ _ he
  have hwas : ∀ b ∈ blks (ρ id), Was ent ρ [(id, .row true e t xs')] b := fun b hb => ⟨id, _, _, he, hb, look?_same _ _ _⟩
  rw [show used = usedOf used [] from rfl]
  refine h.chg hg (fun _ _ => rfl) (fun _ _ h => h) (fun k hk => hwas k hk) (fun _ _ hb => .inl hb) (fun i x hl => ?_) (fun i x b hl hb' => ?_) (fun i i' x x' b hl hl' hb1 hb2 => ?_)
  · obtain ⟨rfl, rfl⟩ := look?_one hl
    exact ⟨⟨cs, hown, hrep, h3⟩, hid, trivial⟩
  · obtain ⟨rfl, rfl⟩ := look?_one hl
    exact .inr (hwas b hb')
  · exact (look?_one hl).1.trans (look?_one hl').1.symm

/-- An own slice becomes data. -/
theorem Hp.freeze (h : Hp B ρ ent used w) {id : Nat} {e : TypeId} {t : CTy} {xs : List (E t)} (he : ent id = some (.row true e t xs)) :
    ∃ ρ' : Nm, ρ'.nm = ρ.nm ∧ Ext B used ρ ρ' ∧ Hp B ρ' (entOf ent [(id, .row false e t xs)]) used w := by
  obtain ⟨⟨cs, h1, h2, h3⟩, hid, _⟩ := h.he _ _ he
  have hwas : ∀ b ∈ blks (ρ id), Was ent ρ [(id, .row false e t xs)] b := fun b hb => ⟨id, _, _, he, hb, look?_same _ _ _⟩
  refine ⟨⟨ρ.nm, fun b => if b ∈ blks (ρ id) then w.heap[b]? else ρ.mem b⟩, rfl, ?_⟩
  have hold : ∀ b o, ρ.mem b = some o → (if b ∈ blks (ρ id) then w.heap[b]? else ρ.mem b) = some o := by
    intro b o hb
    split
    · exact h.hf.dat b o hb
    · exact hb
  rw [show used = usedOf used [] from rfl]
  refine h.chg (Chg.refl w (fun _ => False)) (fun _ _ => rfl) hold (fun _ hx => hx.elim) (fun b o hb => ?_) (fun i x hl => ?_) (fun i x b hl hb' => ?_) (fun i i' x x' b hl hl' hb1 hb2 => ?_)
  · simp only at hb
    split at hb
    · rename_i hm; exact .inr ⟨hb, .inr (hwas b hm)⟩
    · exact .inl hb
  · obtain ⟨rfl, rfl⟩ := look?_one hl
    refine ⟨?_, hid, trivial⟩
    show RepS _ t (ρ i) xs
    rcases h1.2 with ⟨hv, hn0⟩ | ⟨g, cap, cur, hv, h0, hg, hle, hcm, hsz, htk⟩
    · exact .inl ⟨hv, List.length_eq_zero_iff.1 hn0⟩
    · refine .inr ⟨g, 0, cap, cur, e, (0, 0), hv, hle, hcm, ?_, fun j x hx => ?_⟩
      · show (if g ∈ blks (ρ i) then w.heap[g]? else ρ.mem g) = _
        rw [if_pos (by rw [hv, blks_slice h0]; simp)]; exact hg
      · have := Rep.mono hold _ _ _ (h2.2 j x hx)
        rw [← htk] at this
        have hj : j < xs.length := (List.getElem?_eq_some_iff.1 hx).1
        have hlt : j * t.size + t.size ≤ xs.length * t.size := by
          have : (j + 1) * t.size ≤ xs.length * t.size := Nat.mul_le_mul_right _ hj
          rwa [Nat.add_mul, Nat.one_mul] at this
        rw [List.drop_take, List.take_take] at this
        rw [Nat.zero_add]
        rwa [Nat.min_eq_left (by omega)] at this
  · obtain ⟨rfl, rfl⟩ := look?_one hl
    simp [Entry.ob] at hb'
  · exact (look?_one hl).1.trans (look?_one hl').1.symm

end
end Go.SX

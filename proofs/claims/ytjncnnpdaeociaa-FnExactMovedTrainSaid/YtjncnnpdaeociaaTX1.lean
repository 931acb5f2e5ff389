/- A symbolic evaluator over the model's own operations, part 1: values, states, what a state says of a frame and a world. Nothing here names a program. -/
import Derived.WalkKit
import Derived.KernelRfl
namespace Go.SX
open Go.RowKit

/-- The model's own operation, run where it asks nothing of the world. -/
def pureRun (P : Program) {α : Type} : Sem α → Option α
  | .pure a => some a
  | .program k => pureRun P (k P)
  | .mark _ k => pureRun P k
  | _ => none

theorem pureRun_run (P : Program) {α : Type} : ∀ (s : Sem α) (v : α), pureRun P s = some v → ∀ w, s.run P w = .ok v w
  | .pure a, v, h, w => by simp [pureRun] at h; subst h; rfl
  | .program k, v, h, w => by simp only [pureRun] at h; simp only [Sem.run]; exact pureRun_run P _ v h w
  | .mark _ k, v, h, w => by simp only [pureRun] at h; simp only [Sem.run]; exact pureRun_run P _ v h w
  | .load .., v, h, w | .store .., v, h, w | .new .., v, h, w | .shape .., v, h, w | .freeze .., v, h, w | .frozen .., v, h, w | .getObj .., v, h, w
  | .setObj .., v, h, w | .choose .., v, h, w | .sys .., v, h, w | .halt _, v, h, w => by simp [pureRun] at h

/-! ### Typed contents of a slice -/

inductive CTy where
  | int (k : IntKind)
  | bool
  | str
  | pair (a b : CTy)
  | sl (e : TypeId) (t : CTy)
  deriving DecidableEq

def E : CTy → Type
  | .int _ => Int
  | .bool => Bool
  | .str => ByteArray
  | .pair a b => E a × E b
  | .sl _ t => List (E t)

def CTy.size : CTy → Nat
  | .pair a b => a.size + b.size
  | _ => 1

/-- No slice within. -/
def CTy.flat : CTy → Bool
  | .pair a b => a.flat && b.flat
  | .sl _ _ => false
  | _ => true

def dflt : (t : CTy) → E t
  | .int _ => (0 : Int)
  | .bool => false
  | .str => ByteArray.empty
  | .pair a b => (dflt a, dflt b)
  | .sl _ _ => []

/-- The cells of an element, where no slice lies within. -/
def cellsE : (t : CTy) → E t → List Value
  | .int k, x => [.int k x]
  | .bool, b => [.bool b]
  | .str, s => [.string s]
  | .pair a b, p => cellsE a p.1 ++ cellsE b p.2
  | .sl _ _, _ => [undef]

theorem cellsE_length : ∀ (t : CTy) (x : E t), (cellsE t x).length = t.size
  | .int _, _ => rfl
  | .bool, _ => rfl
  | .str, _ => rfl
  | .pair a b, p => by simp only [cellsE, List.length_append, CTy.size, cellsE_length a, cellsE_length b]
  | .sl _ _, _ => rfl

/-- A slice that has no cells: nil, or of length and capacity 0 wherever. -/
def zeroS (v : Value) : Prop := v = .slice none 0 0 ∨ ∃ a, v = .slice (some a) 0 0

/-- A slice's value and its contents; p: what cells say of an element of z cells. H: the memory that is looked at. -/
def RepG {α : Type} (p : List Value → α → Prop) (z : Nat) (H : Nat → Option Obj) (v : Value) (xs : List α) : Prop :=
  (zeroS v ∧ xs = []) ∨
  ∃ b off cap arr T fz, v = .slice (some ⟨b, off, none⟩) xs.length cap ∧ xs.length ≤ cap ∧ cap ≤ maxLen ∧ H b = some (.cells arr T fz) ∧ (∀ i x, xs[i]? = some x → p ((arr.toList.drop (off + i * z)).take z) x)

theorem RepG.mono {α : Type} {p p' : List Value → α → Prop} {z : Nat} {H H' : Nat → Option Obj} (hp : ∀ cs x, p cs x → p' cs x) (h : ∀ b o, H b = some o → H' b = some o) {v : Value} {xs : List α} (hr : RepG p z H v xs) : RepG p' z H' v xs :=
  hr.imp id fun ⟨b, off, cap, arr, T, fz, h1, h2, h3, h4, h5⟩ => ⟨b, off, cap, arr, T, fz, h1, h2, h3, h _ _ h4, fun i x hx => hp _ _ (h5 i x hx)⟩

/-- Cells of memory say this element. -/
def Rep (H : Nat → Option Obj) : (t : CTy) → List Value → E t → Prop
  | .int k, cs, (x : Int) => cs = [.int k x]
  | .bool, cs, (b : Bool) => cs = [.bool b]
  | .str, cs, (s : ByteArray) => cs = [.string s]
  | .pair a b, cs, (p : E a × E b) => ∃ c1 c2, cs = c1 ++ c2 ∧ Rep H a c1 p.1 ∧ Rep H b c2 p.2
  | .sl _ t, cs, (xs : List (E t)) => ∃ v, cs = [v] ∧ RepG (Rep H t) t.size H v xs

theorem Rep.mono {H H' : Nat → Option Obj} (h : ∀ b o, H b = some o → H' b = some o) : ∀ (t : CTy) (cs : List Value) (x : E t), Rep H t cs x → Rep H' t cs x
  | .int _, _, _, hr => by simp only [Rep] at hr ⊢; exact hr
  | .bool, _, _, hr => by simp only [Rep] at hr ⊢; exact hr
  | .str, _, _, hr => by simp only [Rep] at hr ⊢; exact hr
  | .pair a b, _, _, hr => by
    simp only [Rep] at hr ⊢
    obtain ⟨c1, c2, e, h1, h2⟩ := hr
    exact ⟨c1, c2, e, Rep.mono h a _ _ h1, Rep.mono h b _ _ h2⟩
  | .sl _ t, _, _, hr => by
    simp only [Rep] at hr ⊢
    obtain ⟨v, e, hv⟩ := hr
    exact ⟨v, e, hv.mono (Rep.mono h t) h⟩

/-- A slice's value and its contents. -/
def RepS (H : Nat → Option Obj) (t : CTy) (v : Value) (xs : List (E t)) : Prop := RepG (Rep H t) t.size H v xs

theorem RepS.mono {H H' : Nat → Option Obj} (h : ∀ b o, H b = some o → H' b = some o) {t : CTy} {v : Value} {xs : List (E t)} (hr : RepS H t v xs) : RepS H' t v xs :=
  RepG.mono (Rep.mono h t) h hr

theorem Rep.flat {H : Nat → Option Obj} : ∀ (t : CTy) (cs : List Value) (x : E t), t.flat = true → Rep H t cs x → cs = cellsE t x
  | .int _, _, _, _, h => by simp only [Rep] at h; exact h
  | .bool, _, _, _, h => by simp only [Rep] at h; exact h
  | .str, _, _, _, h => by simp only [Rep] at h; exact h
  | .pair a b, _, _, hf, h => by
    simp only [Rep] at h
    obtain ⟨c1, c2, e, h1, h2⟩ := h
    simp only [CTy.flat, Bool.and_eq_true] at hf
    rw [e, Rep.flat a _ _ hf.1 h1, Rep.flat b _ _ hf.2 h2]; rfl
  | .sl _ _, _, _, hf, _ => by cases hf

theorem Rep.of_flat {H : Nat → Option Obj} : ∀ (t : CTy) (x : E t), t.flat = true → Rep H t (cellsE t x) x
  | .int _, _, _ => by simp only [Rep]; rfl
  | .bool, _, _ => by simp only [Rep]; rfl
  | .str, _, _ => by simp only [Rep]; rfl
  | .pair a b, p, hf => by
    simp only [CTy.flat, Bool.and_eq_true] at hf
    simp only [Rep]
    exact ⟨_, _, rfl, Rep.of_flat a p.1 hf.1, Rep.of_flat b p.2 hf.2⟩
  | .sl _ _, _, hf => by cases hf

/-! ### Names -/

/-- What a name stands for: a variable's address, or a slice's value; and the memory that data lies in, which stays as it is. -/
structure Nm where
  nm : Nat → Value
  mem : Nat → Option Obj

/-- An address or a slice. -/
def slim : Value → Value
  | .slice a n c => .slice a n c
  | .pointer a => .pointer a
  | _ => .slice none 0 0

def Nm.of (ρ : Nm) (i : Nat) : Value := slim (ρ.nm i)

instance : CoeFun Nm (fun _ => Nat → Value) := ⟨Nm.of⟩

theorem slim_slim (v : Value) : slim (slim v) = slim v := by cases v <;> rfl
theorem slim_one (v : Value) : (slim v).oneCell' = true := by cases v <;> rfl
theorem slim_cells (v : Value) : (slim v).cells = #[slim v] := by cases v <;> rfl

def blkN : Value → Nat
  | .pointer (some a) => a.block
  | .slice (some a) _ _ => a.block
  | _ => 0

def offN : Value → Nat
  | .slice (some a) _ _ => a.off
  | _ => 0

def blks : Value → List Nat
  | .pointer (some a) => [a.block]
  | .slice (some a) _ c => bif Nat.beq c 0 then [] else [a.block]
  | _ => []

theorem blks_zero {v : Value} (h : zeroS v) : blks v = [] := by
  rcases h with rfl | ⟨b, rfl⟩ <;> rfl

theorem blks_slice {a : Addr} {n c : Nat} (h : 0 < c) : blks (.slice (some a) n c) = [a.block] := by
  cases c with
  | zero => omega
  | succ c => rfl

inductive Cell where
  | val (v : Value)
  /-- The address of cell off of variable id. -/
  | ptr (id off : Nat)
  /-- The slice id. -/
  | ref (id : Nat)
  /-- The address of cell off of element i of slice id (z cells an element). -/
  | el (id z i off : Nat)
  /-- A function literal with the variables that it captured. -/
  | clo (f : FuncId) (caps : List Nat)

def Cell.conc (ρ : Nm) : Cell → Value
  | .val v => v
  | .ptr id off => .pointer (some ⟨blkN (ρ id), off, none⟩)
  | .ref id => ρ id
  | .el id z i off => .pointer (some ⟨blkN (ρ id), offN (ρ id) + (i * z + off), none⟩)
  | .clo f caps => .func (.func f) #[] (caps.map fun id => Value.pointer (some ⟨blkN (ρ id), 0, none⟩)).toArray

/-- The ids that a cell names are all in U. -/
def Cell.inU (U : Nat → Bool) : Cell → Prop
  | .val _ => True
  | .ptr id _ => U id = true
  | .ref id => U id = true
  | .el id _ _ _ => U id = true
  | .clo _ caps => ∀ id ∈ caps, U id = true

theorem Cell.conc_congr {ρ ρ' : Nm} {U : Nat → Bool} (h : ∀ id, U id = true → ρ' id = ρ id) {c : Cell} (hc : c.inU U) : c.conc ρ' = c.conc ρ := by
  cases c with
  | val v => rfl
  | ptr id off => simp only [Cell.conc]; rw [h id hc]
  | ref id => exact h id hc
  | el id z i off => simp only [Cell.conc]; rw [h id hc]
  | clo f caps =>
    simp only [Cell.conc]
    rw [List.map_congr_left fun id hid => by rw [h id (hc id hid)]]

theorem Cell.inU_mono {U U' : Nat → Bool} (h : ∀ id, U id = true → U' id = true) {c : Cell} (hc : c.inU U) : c.inU U' := by
  cases c with
  | val v => trivial
  | ptr id off => exact h id hc
  | ref id => exact h id hc
  | el id z i off => exact h id hc
  | clo f caps => exact fun id hid => h id (hc id hid)

/-- One Go value: an aggregate of cells, or one cell. -/
structure V1 where
  agg : Bool
  cs : List Cell

def V1.conc (ρ : Nm) (v : V1) : Value :=
  match v.agg, v.cs with
  | true, cs => .agg (cs.map (Cell.conc ρ)).toArray
  | false, [c] => c.conc ρ
  | false, _ => undef

def V1.inU (U : Nat → Bool) (v : V1) : Prop := ∀ c ∈ v.cs, c.inU U

theorem map_conc_congr {ρ ρ' : Nm} {U : Nat → Bool} (h : ∀ id, U id = true → ρ' id = ρ id) {cs : List Cell} (hc : ∀ c ∈ cs, c.inU U) : cs.map (Cell.conc ρ') = cs.map (Cell.conc ρ) :=
  List.map_congr_left fun c hm => Cell.conc_congr h (hc c hm)

theorem V1.conc_congr {ρ ρ' : Nm} {U : Nat → Bool} (h : ∀ id, U id = true → ρ' id = ρ id) {v : V1} (hc : v.inU U) : v.conc ρ' = v.conc ρ := by
  obtain ⟨g, cs⟩ := v
  cases g with
  | true => simp only [V1.conc]; rw [map_conc_congr h hc]
  | false =>
    match cs, hc with
    | [], _ => rfl
    | [c], hc => exact Cell.conc_congr h (hc c (by simp))
    | _ :: _ :: _, _ => rfl

inductive SV where
  | one (v : V1)
  | tup (vs : List V1)

def SV.conc (ρ : Nm) : SV → Value
  | .one v => v.conc ρ
  | .tup vs => .tuple (vs.map (V1.conc ρ)).toArray

def SV.inU (U : Nat → Bool) : SV → Prop
  | .one v => v.inU U
  | .tup vs => ∀ v ∈ vs, v.inU U

theorem SV.conc_congr {ρ ρ' : Nm} {U : Nat → Bool} (h : ∀ id, U id = true → ρ' id = ρ id) {v : SV} (hc : v.inU U) : v.conc ρ' = v.conc ρ := by
  cases v with
  | one v => exact V1.conc_congr h hc
  | tup vs => simp only [SV.conc]; rw [List.map_congr_left fun v hv => V1.conc_congr h (hc v hv)]

theorem V1.inU_mono {U U' : Nat → Bool} (h : ∀ id, U id = true → U' id = true) {v : V1} (hc : v.inU U) : v.inU U' := fun c hm => Cell.inU_mono h (hc c hm)

theorem SV.inU_mono {U U' : Nat → Bool} (h : ∀ id, U id = true → U' id = true) {v : SV} (hc : v.inU U) : v.inU U' := by
  cases v with
  | one v => exact V1.inU_mono h hc
  | tup vs => exact fun v hv => V1.inU_mono h (hc v hv)

def V1.ofValue : Value → V1
  | .agg a => ⟨true, a.toList.map .val⟩
  | v => ⟨false, [.val v]⟩

def SV.ofValue : Value → SV
  | .tuple a => .tup (a.toList.map V1.ofValue)
  | v => .one (V1.ofValue v)

theorem V1.conc_ofValue (ρ : Nm) (v : Value) : (V1.ofValue v).conc ρ = v := by
  cases v with
  | agg a =>
    simp only [V1.ofValue, V1.conc, List.map_map]
    congr 1
    rw [show (Cell.conc ρ ∘ Cell.val) = id from rfl, List.map_id]
  | _ => rfl

theorem V1.ofValue_inU (U : Nat → Bool) (v : Value) : (V1.ofValue v).inU U := by
  cases v with
  | agg a => intro c hc; simp only [V1.ofValue, List.mem_map] at hc; obtain ⟨x, _, rfl⟩ := hc; trivial
  | _ => intro c hc; simp only [V1.ofValue, List.mem_singleton] at hc; subst hc; trivial

theorem SV.conc_ofValue (ρ : Nm) (v : Value) : (SV.ofValue v).conc ρ = v := by
  cases v with
  | tuple a =>
    simp only [SV.ofValue, SV.conc, List.map_map]
    congr 1
    rw [show (V1.conc ρ ∘ V1.ofValue) = id from funext fun v => V1.conc_ofValue ρ v, List.map_id]
  | _ => simp only [SV.ofValue, SV.conc]; exact V1.conc_ofValue ρ _

theorem SV.ofValue_inU (U : Nat → Bool) (v : Value) : (SV.ofValue v).inU U := by
  cases v with
  | tuple a => intro u hu; simp only [List.mem_map] at hu; obtain ⟨x, _, rfl⟩ := hu; exact V1.ofValue_inU U x
  | _ => simp only [SV.ofValue, SV.inU]; exact V1.ofValue_inU U _

def Cell.toValue? : Cell → Option Value
  | .val v => some v
  | _ => none

def allVals : List Cell → Option (List Value)
  | [] => some []
  | c :: cs => match c.toValue?, allVals cs with
    | some v, some vs => some (v :: vs)
    | _, _ => none

theorem allVals_conc (ρ : Nm) : ∀ {cs : List Cell} {vs : List Value}, allVals cs = some vs → cs.map (Cell.conc ρ) = vs
  | [], vs, h => by simp [allVals] at h; simp [h]
  | c :: cs, vs, h => by
    simp only [allVals] at h
    split at h
    · rename_i v vs' hv hvs
      cases h
      simp only [List.map_cons, allVals_conc ρ hvs]
      cases c with
      | val u => simp [Cell.toValue?] at hv; simp [Cell.conc, hv]
      | _ => simp [Cell.toValue?] at hv
    · cases h

def V1.toValue? (v : V1) : Option Value :=
  match v.agg, v.cs with
  | true, cs => (allVals cs).map fun vs => .agg vs.toArray
  | false, [.val v] => some v
  | _, _ => none

theorem V1.toValue?_conc (ρ : Nm) {v : V1} {x : Value} (h : v.toValue? = some x) : v.conc ρ = x := by
  obtain ⟨g, cs⟩ := v
  simp only [V1.toValue?] at h
  split at h
  · cases hv : allVals cs with
    | none => simp [hv] at h
    | some vs => simp [hv] at h; subst h; simp only [V1.conc, allVals_conc ρ hv]
  · cases h; rfl
  · cases h

def SV.toValue? : SV → Option Value
  | .one v => v.toValue?
  | .tup _ => none

theorem SV.toValue?_conc (ρ : Nm) {v : SV} {x : Value} (h : v.toValue? = some x) : v.conc ρ = x := by
  cases v with
  | one v => exact V1.toValue?_conc ρ h
  | tup vs => simp [SV.toValue?] at h

/-- What a slot holds: a value; under a guard (slot j yields want), the value only if the guard holds, else nothing. -/
structure SS where
  g : Option (Nat × Bool)
  v : SV

def yl (tmps : Array Value) (j : Nat) : Option Bool :=
  match tmps[j]? with
  | some (.bool b) => some b
  | _ => none

def SS.at (ρ : Nm) (tmps : Array Value) (x : SS) : Value :=
  match x.g with
  | none => x.v.conc ρ
  | some (j, b) => if yl tmps j = some b then x.v.conc ρ else undef

inductive Entry where
  /-- A variable. -/
  | box (T : TypeId) (cs : List Cell)
  /-- A slice's contents; own: nobody else has its array. e: the element's type. -/
  | row (own : Bool) (e : TypeId) (t : CTy) (xs : List (E t))
  /-- Handed on: nothing is known any more. -/
  | gone

structure St where
  look : Nat → Option SS
  ent : Nat → Option Entry
  used : Nat → Bool
  wr : Nat → Bool
  next : Nat
  log : List Nat
  logE : List Nat

/-- What does not change while the code runs: the world at its start; the memory and the slots that must stay as they are; the slots that may be written. -/
structure Base where
  n : Nat
  w0 : World
  mem : Nat → Option Obj
  sl : Nat → Option Value
  W : Nat → Bool
  hW : ∀ k, W k = true → k < n ∧ sl k = none

/-- A slice's cells, element after element. -/
def RepL (H : Nat → Option Obj) (t : CTy) (cs : List Value) (xs : List (E t)) : Prop :=
  cs.length = xs.length * t.size ∧ ∀ i x, xs[i]? = some x → Rep H t ((cs.drop (i * t.size)).take t.size) x

theorem RepL.mono {H H' : Nat → Option Obj} (h : ∀ b o, H b = some o → H' b = some o) {t : CTy} {cs : List Value} {xs : List (E t)} (hr : RepL H t cs xs) : RepL H' t cs xs :=
  ⟨hr.1, fun i x hx => Rep.mono h _ _ _ (hr.2 i x hx)⟩

/-- The slice is its holder's own: nobody else writes its array. -/
def ownR (w : World) (e : TypeId) (z : Nat) (v : Value) (n : Nat) (cs : List Value) : Prop :=
  cs.length = n * z ∧ ((zeroS v ∧ n = 0) ∨
    ∃ g cap cur, v = .slice (some ⟨g, 0, none⟩) n cap ∧ 0 < cap ∧ w.heap[g]? = some (.cells cur e (0, 0)) ∧ n ≤ cap ∧ cap ≤ maxLen ∧ cur.size = cap * z ∧ cur.toList.take (n * z) = cs)

theorem ownR_of {w : World} {base : Nat} {e : TypeId} {z : Nat} {v : Value} {n : Nat} {cs : List Value} (h : w.ownsRow base e z v n cs) : ownR w e z v n cs := by
  refine ⟨h.1, ?_⟩
  rcases h.2 with ⟨h1, h2⟩ | ⟨g, cap, cur, h1, _, h2, h3, h4, h5, h6⟩
  · exact .inl ⟨.inl h1, h2⟩
  · by_cases hc : cap = 0
    · subst hc
      have : n = 0 := by omega
      subst this
      exact .inl ⟨.inr ⟨_, h1⟩, rfl⟩
    · exact .inr ⟨g, cap, cur, h1, by omega, h2, h3, h4, h5, h6⟩

/-- As the library says it, where there is a cell. -/
theorem ownR_to {w : World} {e : TypeId} {z : Nat} {v : Value} {n : Nat} {cs : List Value} (h : ownR w e z v n cs) : (zeroS v ∧ n = 0 ∧ cs = []) ∨ (w.ownsRow 0 e z v n cs ∧ ∃ g cap, v = .slice (some ⟨g, 0, none⟩) n cap ∧ 0 < cap) := by
  rcases h.2 with ⟨h1, h2⟩ | ⟨g, cap, cur, h1, h0, h2, h3, h4, h5, h6⟩
  · refine .inl ⟨h1, h2, List.length_eq_zero_iff.1 ?_⟩
    rw [h.1, h2, Nat.zero_mul]
  · exact .inr ⟨⟨h.1, .inr ⟨g, cap, cur, h1, Nat.zero_le _, h2, h3, h4, h5, h6⟩⟩, g, cap, h1, h0⟩

theorem ownR_nil (w : World) (e : TypeId) (z : Nat) : ownR w e z (.slice none 0 0) 0 [] := ⟨by simp, .inl ⟨.inl rfl, rfl⟩⟩

def Entry.holds (B : Base) (ρ : Nm) (w : World) (id : Nat) : Entry → Prop
  | .box T cs => ∃ b, ρ id = .pointer (some ⟨b, 0, none⟩) ∧ w.heap[b]? = some (.cells (cs.map (Cell.conc ρ)).toArray T (0, 0)) ∧ B.mem b = none ∧ ρ.mem b = none
  | .row false _ t xs => RepS ρ.mem t (ρ id) xs
  | .row true e t xs => ∃ cs, ownR w e t.size (ρ id) xs.length cs ∧ RepL ρ.mem t cs xs ∧ ∀ b ∈ blks (ρ id), B.mem b = none ∧ ρ.mem b = none
  | .gone => True

/-- The blocks that are its own. -/
def Entry.ob (v : Value) : Entry → List Nat
  | .box _ _ => blks v
  | .row true _ _ _ => blks v
  | _ => []

def Entry.inU (U : Nat → Bool) : Entry → Prop
  | .box _ cs => ∀ c ∈ cs, c.inU U
  | _ => True

structure Frm (B : Base) (ρ : Nm) (w : World) : Prop where
  os : w.os = B.w0.os
  tape : w.tape = B.w0.tape
  output : w.output = B.w0.output
  size : B.w0.heap.size ≤ w.heap.size
  mem : ∀ b o, B.mem b = some o → w.heap[b]? = some o
  dat : ∀ b o, ρ.mem b = some o → w.heap[b]? = some o

/-- The names go on: old ones stay, and no memory becomes data that is to stay somebody else's. -/
structure Ext (B : Base) (U : Nat → Bool) (ρ ρ' : Nm) : Prop where
  nm : ∀ id, U id = true → ρ' id = ρ id
  old : ∀ b o, ρ.mem b = some o → ρ'.mem b = some o
  new : ∀ b o, ρ'.mem b = some o → ρ.mem b = some o ∨ B.mem b = none

theorem Ext.refl (B : Base) (U : Nat → Bool) (ρ : Nm) : Ext B U ρ ρ := ⟨fun _ _ => rfl, fun _ _ h => h, fun _ _ h => .inl h⟩

theorem Ext.trans {B : Base} {U U' : Nat → Bool} {ρ ρ' ρ'' : Nm} (h : Ext B U ρ ρ') (h' : Ext B U' ρ' ρ'') (hU : ∀ id, U id = true → U' id = true) : Ext B U ρ ρ'' :=
  ⟨fun id hid => (h'.nm id (hU id hid)).trans (h.nm id hid), fun b o hb => h'.old b o (h.old b o hb), fun b o hb => (h'.new b o hb).elim (h.new b o) .inr⟩

theorem Ext.sub {B : Base} {U U' : Nat → Bool} {ρ ρ' : Nm} (h : Ext B U' ρ ρ') (hU : ∀ id, U id = true → U' id = true) : Ext B U ρ ρ' :=
  ⟨fun id hid => h.nm id (hU id hid), h.old, h.new⟩

/-- The part of a state that speaks of memory. -/
structure Hp (B : Base) (ρ : Nm) (ent : Nat → Option Entry) (used : Nat → Bool) (w : World) : Prop where
  he : ∀ id e, ent id = some e → e.holds B ρ w id ∧ used id = true ∧ e.inU used
  hi : ∀ id id' e e' b, ent id = some e → ent id' = some e' → b ∈ e.ob (ρ id) → b ∈ e'.ob (ρ id') → id = id'
  hf : Frm B ρ w

structure Mdl (B : Base) (ρ : Nm) (s : St) (a : Act) (w : World) : Prop where
  hd : a.defers = []
  hn : a.tmps.size = B.n
  hs : ∀ k x, s.look k = some x → a.tmps[k]? = some (x.at ρ a.tmps)
  hg : ∀ k x j b, s.look k = some x → x.g = some (j, b) → s.wr j = true
  hu : ∀ k x, s.look k = some x → x.v.inU s.used
  hp : Hp B ρ s.ent s.used w
  hl : ∀ k v, B.sl k = some v → a.tmps[k]? = some v

theorem yl_put {a : Act} {k : Nat} {v : Value} {j : Nat} (h : j ≠ k) : yl (a.put (some k) v).tmps j = yl a.tmps j := by
  simp only [yl, Act.put, Array.getElem?_setIfInBounds_ne (Ne.symm h)]

theorem SS.at_congr {ρ ρ' : Nm} {U : Nat → Bool} {t t' : Array Value} {x : SS} (h : ∀ id, U id = true → ρ' id = ρ id) (hc : x.v.inU U) (hy : ∀ j b, x.g = some (j, b) → yl t' j = yl t j) : x.at ρ' t' = x.at ρ t := by
  obtain ⟨g, v⟩ := x
  cases g with
  | none => exact SV.conc_congr h hc
  | some p => obtain ⟨j, b⟩ := p; simp only [SS.at, hy j b rfl, SV.conc_congr h hc]

end Go.SX

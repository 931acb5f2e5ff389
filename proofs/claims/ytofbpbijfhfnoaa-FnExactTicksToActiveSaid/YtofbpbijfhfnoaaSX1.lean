/- A symbolic evaluator over the model's own operations, part 1: values, states, what a state says of a frame and a world. Nothing here names a program. -/
import Derived.WalkKit
import Derived.KernelRfl
namespace Go.SX
open Go.RowKit

/-- The model's own operation, run where it asks nothing of the world. -/
def pureRun (P : Program) {α : Type} : Sem α → Option α
  | .pure a => some a
  | .program k => pureRun P (k P)
  | .mark _ k => pureRun P k
  | _ => none

theorem pureRun_run (P : Program) {α : Type} : ∀ (s : Sem α) (v : α), pureRun P s = some v → ∀ w, s.run P w = .ok v w
  | .pure a, v, h, w => by simp [pureRun] at h; subst h; rfl
  | .program k, v, h, w => by simp only [pureRun] at h; simp only [Sem.run]; exact pureRun_run P _ v h w
  | .mark _ k, v, h, w => by simp only [pureRun] at h; simp only [Sem.run]; exact pureRun_run P _ v h w
  | .load .., v, h, w | .store .., v, h, w | .new .., v, h, w | .shape .., v, h, w | .freeze .., v, h, w | .frozen .., v, h, w | .getObj .., v, h, w
  | .setObj .., v, h, w | .choose .., v, h, w | .sys .., v, h, w | .halt _, v, h, w => by simp [pureRun] at h

/-- Names: the block of an own variable. -/
abbrev Nm := Nat → Nat

inductive Cell where
  | val (v : Value)
  | ptr (id off : Nat)

def Cell.conc (ρ : Nm) : Cell → Value
  | .val v => v
  | .ptr id off => .pointer (some ⟨ρ id, off, none⟩)

/-- The ids that a cell names are all in U. -/
def Cell.inU (U : Nat → Bool) : Cell → Prop
  | .val _ => True
  | .ptr id _ => U id = true

theorem Cell.conc_congr {ρ ρ' : Nm} {U : Nat → Bool} (h : ∀ id, U id = true → ρ' id = ρ id) {c : Cell} (hc : c.inU U) : c.conc ρ' = c.conc ρ := by
  cases c with
  | val v => rfl
  | ptr id off => simp only [Cell.conc]; rw [h id hc]

theorem Cell.inU_mono {U U' : Nat → Bool} (h : ∀ id, U id = true → U' id = true) {c : Cell} (hc : c.inU U) : c.inU U' := by
  cases c with
  | val v => trivial
  | ptr id off => exact h id hc

/-- One Go value: an aggregate of cells, or one cell. -/
structure V1 where
  agg : Bool
  cs : List Cell

def V1.conc (ρ : Nm) (v : V1) : Value :=
  match v.agg, v.cs with
  | true, cs => .agg (cs.map (Cell.conc ρ)).toArray
  | false, [c] => c.conc ρ
  | false, _ => undef

def V1.inU (U : Nat → Bool) (v : V1) : Prop := ∀ c ∈ v.cs, c.inU U

theorem map_conc_congr {ρ ρ' : Nm} {U : Nat → Bool} (h : ∀ id, U id = true → ρ' id = ρ id) {cs : List Cell} (hc : ∀ c ∈ cs, c.inU U) : cs.map (Cell.conc ρ') = cs.map (Cell.conc ρ) :=
  List.map_congr_left fun c hm => Cell.conc_congr h (hc c hm)

theorem V1.conc_congr {ρ ρ' : Nm} {U : Nat → Bool} (h : ∀ id, U id = true → ρ' id = ρ id) {v : V1} (hc : v.inU U) : v.conc ρ' = v.conc ρ := by
  obtain ⟨g, cs⟩ := v
  cases g with
  | true => simp only [V1.conc]; rw [map_conc_congr h hc]
  | false =>
    match cs, hc with
    | [], _ => rfl
    | [c], hc => exact Cell.conc_congr h (hc c (by simp))
    | _ :: _ :: _, _ => rfl

inductive SV where
  | one (v : V1)
  | tup (vs : List V1)

def SV.conc (ρ : Nm) : SV → Value
  | .one v => v.conc ρ
  | .tup vs => .tuple (vs.map (V1.conc ρ)).toArray

def SV.inU (U : Nat → Bool) : SV → Prop
  | .one v => v.inU U
  | .tup vs => ∀ v ∈ vs, v.inU U

theorem SV.conc_congr {ρ ρ' : Nm} {U : Nat → Bool} (h : ∀ id, U id = true → ρ' id = ρ id) {v : SV} (hc : v.inU U) : v.conc ρ' = v.conc ρ := by
  cases v with
  | one v => exact V1.conc_congr h hc
  | tup vs => simp only [SV.conc]; rw [List.map_congr_left fun v hv => V1.conc_congr h (hc v hv)]

theorem V1.inU_mono {U U' : Nat → Bool} (h : ∀ id, U id = true → U' id = true) {v : V1} (hc : v.inU U) : v.inU U' := fun c hm => Cell.inU_mono h (hc c hm)

theorem SV.inU_mono {U U' : Nat → Bool} (h : ∀ id, U id = true → U' id = true) {v : SV} (hc : v.inU U) : v.inU U' := by
  cases v with
  | one v => exact V1.inU_mono h hc
  | tup vs => exact fun v hv => V1.inU_mono h (hc v hv)

def V1.ofValue : Value → V1
  | .agg a => ⟨true, a.toList.map .val⟩
  | v => ⟨false, [.val v]⟩

def SV.ofValue : Value → SV
  | .tuple a => .tup (a.toList.map V1.ofValue)
  | v => .one (V1.ofValue v)

theorem V1.conc_ofValue (ρ : Nm) (v : Value) : (V1.ofValue v).conc ρ = v := by
  cases v with
  | agg a =>
    simp only [V1.ofValue, V1.conc, List.map_map]
    congr 1
    rw [show (Cell.conc ρ ∘ Cell.val) = id from rfl, List.map_id]
  | _ => rfl

theorem V1.ofValue_inU (U : Nat → Bool) (v : Value) : (V1.ofValue v).inU U := by
  cases v with
  | agg a => intro c hc; simp only [V1.ofValue, List.mem_map] at hc; obtain ⟨x, _, rfl⟩ := hc; trivial
  | _ => intro c hc; simp only [V1.ofValue, List.mem_singleton] at hc; subst hc; trivial

theorem SV.conc_ofValue (ρ : Nm) (v : Value) : (SV.ofValue v).conc ρ = v := by
  cases v with
  | tuple a =>
    simp only [SV.ofValue, SV.conc, List.map_map]
    congr 1
    rw [show (V1.conc ρ ∘ V1.ofValue) = id from funext fun v => V1.conc_ofValue ρ v, List.map_id]
  | _ => simp only [SV.ofValue, SV.conc]; exact V1.conc_ofValue ρ _

theorem SV.ofValue_inU (U : Nat → Bool) (v : Value) : (SV.ofValue v).inU U := by
  cases v with
  | tuple a => intro u hu; simp only [List.mem_map] at hu; obtain ⟨x, _, rfl⟩ := hu; exact V1.ofValue_inU U x
  | _ => simp only [SV.ofValue, SV.inU]; exact V1.ofValue_inU U _

def Cell.toValue? : Cell → Option Value
  | .val v => some v
  | _ => none

def allVals : List Cell → Option (List Value)
  | [] => some []
  | c :: cs => match c.toValue?, allVals cs with
    | some v, some vs => some (v :: vs)
    | _, _ => none

theorem allVals_conc (ρ : Nm) : ∀ {cs : List Cell} {vs : List Value}, allVals cs = some vs → cs.map (Cell.conc ρ) = vs
  | [], vs, h => by simp [allVals] at h; simp [h]
  | c :: cs, vs, h => by
    simp only [allVals] at h
    split at h
    · rename_i v vs' hv hvs
      cases h
      simp only [List.map_cons, allVals_conc ρ hvs]
      cases c with
      | val u => simp [Cell.toValue?] at hv; simp [Cell.conc, hv]
      | ptr id off => simp [Cell.toValue?] at hv
    · cases h

def V1.toValue? (v : V1) : Option Value :=
  match v.agg, v.cs with
  | true, cs => (allVals cs).map fun vs => .agg vs.toArray
  | false, [.val v] => some v
  | _, _ => none

theorem V1.toValue?_conc (ρ : Nm) {v : V1} {x : Value} (h : v.toValue? = some x) : v.conc ρ = x := by
  obtain ⟨g, cs⟩ := v
  simp only [V1.toValue?] at h
  split at h
  · cases hv : allVals cs with
    | none => simp [hv] at h
    | some vs => simp [hv] at h; subst h; simp only [V1.conc, allVals_conc ρ hv]
  · cases h; rfl
  · cases h

def SV.toValue? : SV → Option Value
  | .one v => v.toValue?
  | .tup _ => none

theorem SV.toValue?_conc (ρ : Nm) {v : SV} {x : Value} (h : v.toValue? = some x) : v.conc ρ = x := by
  cases v with
  | one v => exact V1.toValue?_conc ρ h
  | tup vs => simp [SV.toValue?] at h

/-- What a slot holds: a value; under a guard (slot j yields want), the value only if the guard holds, else nothing. -/
structure SS where
  g : Option (Nat × Bool)
  v : SV

def yl (tmps : Array Value) (j : Nat) : Option Bool :=
  match tmps[j]? with
  | some (.bool b) => some b
  | _ => none

def SS.at (ρ : Nm) (tmps : Array Value) (x : SS) : Value :=
  match x.g with
  | none => x.v.conc ρ
  | some (j, b) => if yl tmps j = some b then x.v.conc ρ else undef

inductive Entry where
  | box (T : TypeId) (cs : List Cell)

structure St where
  look : Nat → Option SS
  ent : Nat → Option Entry
  used : Nat → Bool
  wr : Nat → Bool
  next : Nat
  log : List Nat
  logE : List Nat

/-- What does not change while the code runs: the world at its start; the memory and the slots that must stay as they are; the slots that may be written. -/
structure Base where
  n : Nat
  w0 : World
  mem : Nat → Option Obj
  sl : Nat → Option Value
  W : Nat → Bool
  hW : ∀ k, W k = true → k < n ∧ sl k = none

def Entry.holds (B : Base) (ρ : Nm) (w : World) (id : Nat) : Entry → Prop
  | .box T cs => w.heap[ρ id]? = some (.cells (cs.map (Cell.conc ρ)).toArray T (0, 0)) ∧ B.mem (ρ id) = none

def Entry.inU (U : Nat → Bool) : Entry → Prop
  | .box _ cs => ∀ c ∈ cs, c.inU U

structure Frm (B : Base) (w : World) : Prop where
  os : w.os = B.w0.os
  tape : w.tape = B.w0.tape
  output : w.output = B.w0.output
  size : B.w0.heap.size ≤ w.heap.size
  mem : ∀ b o, B.mem b = some o → w.heap[b]? = some o

structure Mdl (B : Base) (ρ : Nm) (s : St) (a : Act) (w : World) : Prop where
  hd : a.defers = []
  hn : a.tmps.size = B.n
  hs : ∀ k x, s.look k = some x → a.tmps[k]? = some (x.at ρ a.tmps)
  hg : ∀ k x j b, s.look k = some x → x.g = some (j, b) → s.wr j = true
  hu : ∀ k x, s.look k = some x → x.v.inU s.used
  he : ∀ id e, s.ent id = some e → e.holds B ρ w id ∧ s.used id = true ∧ e.inU s.used
  hi : ∀ id id' e e', s.ent id = some e → s.ent id' = some e' → ρ id = ρ id' → id = id'
  hf : Frm B w
  hl : ∀ k v, B.sl k = some v → a.tmps[k]? = some v

theorem yl_put {a : Act} {k : Nat} {v : Value} {j : Nat} (h : j ≠ k) : yl (a.put (some k) v).tmps j = yl a.tmps j := by
  simp only [yl, Act.put, Array.getElem?_setIfInBounds_ne (Ne.symm h)]

theorem SS.at_congr {ρ ρ' : Nm} {U : Nat → Bool} {t t' : Array Value} {x : SS} (h : ∀ id, U id = true → ρ' id = ρ id) (hc : x.v.inU U) (hy : ∀ j b, x.g = some (j, b) → yl t' j = yl t j) : x.at ρ' t' = x.at ρ t := by
  obtain ⟨g, v⟩ := x
  cases g with
  | none => exact SV.conc_congr h hc
  | some p => obtain ⟨j, b⟩ := p; simp only [SS.at, hy j b rfl, SV.conc_congr h hc]

end Go.SX

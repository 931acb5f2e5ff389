/- A symbolic evaluator over the model's own operations, part 3: one operation. -/
import Derived.Test.YtofbpbijfhfnoaaSX2
namespace Go.SX
open Go.RowKit

def V1.cells? (v : V1) : Option (List Cell) :=
  match v.agg, v.cs with
  | true, cs => some cs
  | false, [.val (.agg _)] => none
  | false, [c] => some [c]
  | false, _ => none

theorem V1.cells?_conc (ρ : Nm) {v : V1} {cs : List Cell} (h : v.cells? = some cs) : (v.conc ρ).cells = (cs.map (Cell.conc ρ)).toArray := by
  obtain ⟨g, l⟩ := v
  unfold V1.cells? at h
  split at h
  · rename_i e1; simp only at e1 h; subst e1; cases h; rfl
  · cases h
  · rename_i c hne e1 e2
    simp only at e1 e2; subst e1 e2; cases h
    cases c with
    | ptr id off => rfl
    | val v =>
      cases v with
      | agg x => exact (hne x rfl).elim
      | _ => rfl
  · cases h

theorem V1.cells?_inU {U : Nat → Bool} {v : V1} {cs : List Cell} (hv : v.inU U) (h : v.cells? = some cs) : ∀ c ∈ cs, c.inU U := by
  obtain ⟨g, l⟩ := v
  unfold V1.cells? at h
  split at h
  · cases h; exact hv
  · cases h
  · rename_i e1 e2; simp only at e1 e2; subst e1 e2; cases h; exact hv
  · cases h

def Cell.one : Cell → Bool
  | .val v => v.oneCell'
  | .ptr _ _ => true

theorem Cell.one_conc (ρ : Nm) {c : Cell} (h : c.one = true) : (c.conc ρ).oneCell' = true := by
  cases c with
  | val v => exact h
  | ptr id off => rfl

def isAggD : TypeDesc → Bool
  | .struct _ | .array _ _ => true
  | _ => false

def loadC (P : Program) (T : TypeId) (off : Nat) (cs : List Cell) : Option V1 :=
  match P.underlying T, P.info? T with
  | some d, some i =>
    match isAggD d with
    | true => bif Nat.ble (off + i.size) cs.length then some ⟨true, (cs.drop off).take i.size⟩ else none
    | false => match cs[off]? with
      | some c => some ⟨false, [c]⟩
      | none => none
  | _, _ => none

def storeOk (P : Program) (T : TypeId) (off : Nat) (cs ns : List Cell) : Bool :=
  match P.info? T with
  | some i => Nat.beq ns.length i.size && Nat.ble (off + ns.length) cs.length && ns.all Cell.one
  | none => false

def fieldOff (P : Program) (T : TypeId) (f : Nat) : Option Nat :=
  match P.underlying T with
  | some (.struct fs) => match fs[f]? with
    | some fd => match P.info? fd.type with
      | some i => bif Nat.beq i.size 0 then none else some fd.offset
      | none => none
    | none => none
  | _ => none

def Raw.ofV (v : SV) : Raw := ⟨v, [], [], [], []⟩
def ptrV (id off : Nat) : SV := .one ⟨false, [.ptr id off]⟩
def undefV : SV := .ofValue undef

def vof (s : St) (A : List (Nat × Bool)) (x : Operand) : Value :=
  match ev s A x with
  | some v => match v.toValue? with
    | some u => u
    | none => undef
  | none => undef

def vok (s : St) (A : List (Nat × Bool)) (x : Operand) : Bool :=
  match ev s A x with
  | some v => v.toValue?.isSome
  | none => false

def opsOf : Op → List Operand
  | .call c => (match c.callee with | .value f => [f] | .invoke r _ => [r] | .builtin _ => []) ++ c.args.toList
  | op => op.operands.toList

theorem mem_opsOf {op : Op} {x : Operand} (h : x ∈ op.operands) : x ∈ opsOf op := by
  cases op with
  | call c =>
    simp only [Op.operands, Call.operands] at h
    simp only [opsOf]
    cases hc : c.callee <;> simp [hc] at h ⊢ <;> exact h
  | _ => simpa [opsOf] using h

def generic (P : Program) (tbl : List (PF P)) (s : St) (A : List (Nat × Bool)) (o : Oper) : Option Raw :=
  bif (opsOf o.op).all (vok s A) then
    match pureRun P (execOp (vof s A) o) with
    | some (.value v) => some (.ofV (.ofValue v))
    | some (.enter f args) => match findPF tbl f with
      | some p => match p.F args.toList with
        | some (v, nd) => some ⟨.ofValue v, [], [], [], nd⟩
        | none => none
      | none => none
    | _ => none
  else none

def opV (P : Program) (tbl : List (PF P)) (s : St) (A : List (Nat × Bool)) (nid : Nat) (o : Oper) : Option Raw :=
  match o.op with
  | .move x => (ev s A x).map Raw.ofV
  | .assign x => (ev s A x).map Raw.ofV
  | .pick c x y => match c, ev s A c with
    | .tmp jc, some (.one ⟨false, [.val (.bool cb)]⟩) => match ev s ((jc, true) :: A) x, ev s ((jc, false) :: A) y with
      | some vx, some vy => (mergeSV cb vx vy).map Raw.ofV
      | _, _ => none
    | _, _ => none
  | .alloc T => match P.info? T with
    | some i => match i.zero with
      | some z => bif s.used nid then none else some ⟨ptrV nid 0, [(nid, .box T (z.cells.toList.map .val))], [nid], [nid], []⟩
      | none => none
    | none => none
  | .box T x => match ev s A x with
    | some (.one v) => match v.cells? with
      | some cs => bif s.used nid then none else some ⟨ptrV nid 0, [(nid, .box T cs)], [nid], [nid], []⟩
      | none => none
    | _ => none
  | .load T x => match ev s A x with
    | some (.one ⟨false, [.ptr id off]⟩) => match s.ent id with
      | some (.box _ cs) => match loadC P T off cs with
        | some v => some ⟨.one v, [], [], [id], []⟩
        | none => none
      | none => none
    | _ => none
  | .store T x y => match ev s A x, ev s A y with
    | some (.one ⟨false, [.ptr id off]⟩), some (.one v) => match s.ent id, v.cells? with
      | some (.box U cs), some ns => bif storeOk P T off cs ns then some ⟨undefV, [(id, .box U (cs.take off ++ ns ++ cs.drop (off + ns.length)))], [], [id], []⟩ else none
      | _, _ => none
    | _, _ => none
  | .fieldAddr T x f => match ev s A x with
    | some (.one ⟨false, [.ptr id off]⟩) => match fieldOff P T f with
      | some d => some (.ofV (ptrV id (off + d)))
      | none => none
    | _ => none
  | .nilCheck x => match ev s A x with
    | some (.one ⟨false, [.ptr id off]⟩) => some (.ofV (ptrV id off))
    | _ => generic P tbl s A o
  | .extract x i => match ev s A x with
    | some (.tup vs) => vs[i]?.map fun v => Raw.ofV (.one v)
    | _ => none
  | .select _ _ => none
  | _ => generic P tbl s A o

/-- The part of a state that speaks of memory. -/
structure Hp (B : Base) (ρ : Nm) (ent : Nat → Option Entry) (used : Nat → Bool) (w : World) : Prop where
  he : ∀ id e, ent id = some e → e.holds B ρ w id ∧ used id = true ∧ e.inU used
  hi : ∀ id id' e e', ent id = some e → ent id' = some e' → ρ id = ρ id' → id = id'
  hf : Frm B w

theorem Mdl.hp {B : Base} {ρ : Nm} {s : St} {a : Act} {w : World} (h : Mdl B ρ s a w) : Hp B ρ s.ent s.used w := ⟨h.he, h.hi, h.hf⟩

theorem Entry.holds_congr {B : Base} {ρ ρ' : Nm} {U : Nat → Bool} (h : ∀ id, U id = true → ρ' id = ρ id) {w w' : World} {id : Nat} {e : Entry} (hU : U id = true) (hin : e.inU U) (hh : e.holds B ρ w id) (hw : w'.heap[ρ id]? = w.heap[ρ id]?) : e.holds B ρ' w' id := by
  cases e with
  | box T cs =>
    obtain ⟨h1, h2⟩ := hh
    simp only [Entry.holds]
    rw [h id hU, map_conc_congr h hin, hw]
    exact ⟨h1, h2⟩

theorem Entry.inU_mono {U U' : Nat → Bool} (h : ∀ id, U id = true → U' id = true) {e : Entry} (he : e.inU U) : e.inU U' := by
  cases e with
  | box T cs => exact fun c hc => Cell.inU_mono h (he c hc)

theorem Entry.holds_lt {B : Base} {ρ : Nm} {w : World} {id : Nat} {e : Entry} (h : e.holds B ρ w id) : ρ id < w.heap.size := by
  cases e with
  | box T cs => exact (Array.getElem?_eq_some_iff.1 h.1).1

/-- A function behind whose back no old block has turned. -/
theorem Hp.below {B : Base} {ρ : Nm} {ent : Nat → Option Entry} {used : Nat → Bool} {w w' : World} (h : Hp B ρ ent used w) (hb : Below w.heap.size w w') : Hp B ρ ent used w' := by
  refine ⟨fun id e he => ?_, h.hi, ⟨hb.os.trans h.hf.os, hb.tape.trans h.hf.tape, hb.output.trans h.hf.output, Nat.le_trans h.hf.size hb.size, fun b o hm => ?_⟩⟩
  · obtain ⟨h1, h2, h3⟩ := h.he id e he
    exact ⟨Entry.holds_congr (fun _ _ => rfl) h2 h3 h1 (hb.block _ (Entry.holds_lt h1)), h2, h3⟩
  · have := h.hf.mem b o hm
    rw [hb.block b (Array.getElem?_eq_some_iff.1 this).1]; exact this

theorem entOf_nil (ent : Nat → Option Entry) : entOf ent [] = ent := rfl
theorem usedOf_nil (used : Nat → Bool) : usedOf used [] = used := rfl

def upd (ρ : Nm) (nid b : Nat) : Nm := fun i => bif Nat.beq i nid then b else ρ i
theorem upd_same (ρ : Nm) (nid b : Nat) : upd ρ nid b nid = b := by simp [upd]

/-- A new block. -/
theorem Hp.alloc {B : Base} {ρ : Nm} {ent : Nat → Option Entry} {used : Nat → Bool} {w : World} (h : Hp B ρ ent used w) {nid : Nat} (hn : used nid = false) (T : TypeId) (cs : List Cell) (hcs : ∀ c ∈ cs, c.inU used) :
    Hp B (upd ρ nid w.heap.size) (entOf ent [(nid, .box T cs)]) (usedOf used [nid]) (w.alloc (.cells (cs.map (Cell.conc ρ)).toArray T)) ∧
    (∀ id, used id = true → upd ρ nid w.heap.size id = ρ id) := by
  have hag : ∀ id, used id = true → upd ρ nid w.heap.size id = ρ id := by
    intro id hid
    have : Nat.beq id nid = false := by
      cases hb : Nat.beq id nid with
      | false => rfl
      | true => rw [Nat.eq_of_beq_eq_true hb, hn] at hid; cases hid
    simp only [upd, this, cond_false]
  have hu : ∀ id, used id = true → usedOf used [nid] id = true := by
    intro id hid
    simp only [usedOf, memN]
    cases Nat.beq nid id <;> simp [hid]
  refine ⟨⟨fun id e he => ?_, fun id id' e e' he he' hr => ?_, ⟨h.hf.os, h.hf.tape, h.hf.output, by have := h.hf.size; simp; omega, fun b o hm => ?_⟩⟩, hag⟩
  · simp only [entOf, look?] at he
    cases hb : Nat.beq nid id with
    | true =>
      have := Nat.eq_of_beq_eq_true hb; subst this
      simp at he; subst he
      refine ⟨⟨?_, ?_⟩, ?_, ?_⟩
      · rw [upd_same, map_conc_congr hag hcs]
        exact heap_alloc_new w _
      · rw [upd_same]
        cases hm : B.mem w.heap.size with
        | none => rfl
        | some o => have := (Array.getElem?_eq_some_iff.1 (h.hf.mem _ _ hm)).1; omega
      · simp [usedOf, memN]
      · exact fun c hc => Cell.inU_mono hu (hcs c hc)
    | false =>
      simp [hb] at he
      obtain ⟨h1, h2, h3⟩ := h.he id e he
      exact ⟨Entry.holds_congr hag h2 h3 h1 (heap_alloc_old w _ (Entry.holds_lt h1)), hu _ h2, Entry.inU_mono hu h3⟩
  · simp only [entOf, look?] at he he'
    cases hb : Nat.beq nid id with
    | true =>
      have := Nat.eq_of_beq_eq_true hb; subst this
      cases hb' : Nat.beq nid id' with
      | true => exact Nat.eq_of_beq_eq_true hb'
      | false =>
        simp [hb'] at he'
        obtain ⟨h1, h2, _⟩ := h.he id' e' he'
        rw [hag id' h2, upd_same] at hr
        have := (Entry.holds_lt h1)
        omega
    | false =>
      simp [hb] at he
      obtain ⟨h1, h2, _⟩ := h.he id e he
      cases hb' : Nat.beq nid id' with
      | true =>
        have := Nat.eq_of_beq_eq_true hb'; subst this
        rw [hag id h2, upd_same] at hr
        have := (Entry.holds_lt h1)
        omega
      | false =>
        simp [hb'] at he'
        obtain ⟨h1', h2', _⟩ := h.he id' e' he'
        rw [hag id h2, hag id' h2'] at hr
        exact h.hi _ _ _ _ he he' hr
  · have := h.hf.mem b o hm
    rw [heap_alloc_old w _ (Array.getElem?_eq_some_iff.1 this).1]; exact this

/-- A store into an own block. -/
theorem Hp.setRow {B : Base} {ρ : Nm} {ent : Nat → Option Entry} {used : Nat → Bool} {w : World} (h : Hp B ρ ent used w) {id : Nat} {T : TypeId} {cs ns : List Cell} (he : ent id = some (.box T cs)) (hns : ∀ c ∈ ns, c.inU used) :
    Hp B ρ (entOf ent [(id, .box T ns)]) used (w.setRow (ρ id) (ns.map (Cell.conc ρ)).toArray) := by
  obtain ⟨⟨hh, hm0⟩, hid, _⟩ := h.he _ _ he
  have hoth : ∀ k, k ≠ ρ id → (w.setRow (ρ id) (ns.map (Cell.conc ρ)).toArray).heap[k]? = w.heap[k]? := fun k hk => setRow_other w (ρ id) k _ hk
  refine ⟨fun i e hi => ?_, fun i i' e e' hi hi' hr => ?_, ⟨h.hf.os, h.hf.tape, h.hf.output, by have := h.hf.size; simpa [World.setRow] using this, fun b o hm => ?_⟩⟩
  · simp only [entOf, look?] at hi
    cases hb : Nat.beq id i with
    | true =>
      have := Nat.eq_of_beq_eq_true hb; subst this
      simp at hi; subst hi
      exact ⟨⟨setRow_heap w _ _ _ T _ hh, hm0⟩, hid, hns⟩
    | false =>
      simp [hb] at hi
      obtain ⟨h1, h2, h3⟩ := h.he i e hi
      refine ⟨Entry.holds_congr (fun _ _ => rfl) h2 h3 h1 (hoth _ fun hr => ?_), h2, h3⟩
      have := h.hi _ _ _ _ hi he hr
      subst this
      simp at hb
  · have key : ∀ i e, entOf ent [(id, .box T ns)] i = some e → ∃ e0, ent i = some e0 := by
      intro i e hi
      simp only [entOf, look?] at hi
      cases hb : Nat.beq id i with
      | true => have := Nat.eq_of_beq_eq_true hb; subst this; exact ⟨_, he⟩
      | false => simp [hb] at hi; exact ⟨_, hi⟩
    obtain ⟨e0, h0⟩ := key _ _ hi
    obtain ⟨e1, h1⟩ := key _ _ hi'
    exact h.hi _ _ _ _ h0 h1 hr
  · rw [hoth b (fun hb => by subst hb; rw [hm0] at hm; cases hm)]
    exact h.hf.mem b o hm

end Go.SX

/- A symbolic evaluator over the model's own operations, part 5: an operation of a region. -/
import Derived.Test.YtjncnnpdaeociaaTX4e
namespace Go.SX
open Go.RowKit

/-- What an operation does to a state. -/
structure Dl where
  dst : Option Nat
  v : SS
  es : List (Nat × Entry)
  new : List Nat
  ids : List Nat
  nd : List Bool

def St.apply (s : St) (d : Dl) : St :=
  { look := match d.dst with | none => s.look | some k => fun i => bif Nat.beq i k then some d.v else s.look i
    ent := entOf s.ent d.es
    used := usedOf s.used d.new
    wr := match d.dst with | none => s.wr | some k => fun i => bif Nat.beq i k then true else s.wr i
    next := s.next
    log := s.log
    logE := s.logE }

/-- The slot that a guard asks. -/
def gslot (ops : List Oper) (o : Oper) : Option (Option (Nat × Bool)) :=
  match o.guard with
  | none => some none
  | some (j, b) => match ops[j]? with
    | some q => match q.dst with
      | some k => some (some (k, b))
      | none => none
    | none => none

def dstOk (W : Nat → Bool) (s : St) : Option Nat → Bool
  | none => true
  | some k => W k && !s.wr k

/-- No slot with a guard is known yet that was not written in this region: so a guard's slot is one that was written. -/
def guardOk (s : St) : Option (Nat × Bool) → Bool
  | none => true
  | some p => s.wr p.1

/-- The guard's test, as the state knows it. -/
def gbool (s : St) : Nat → Option (Nat × Bool) → Bool
  | _, none => true
  | 0, some _ => true
  | f + 1, some p => match s.look p.1 with
    | some ⟨g, .one ⟨false, [.val (.bool c)]⟩⟩ => (match p.2 with | true => c | false => !c) && gbool s f g
    | _ => true

/-- The guard's test, if the state knows it. -/
def gval (s : St) : Nat → Option (Nat × Bool) → Option Bool
  | _, none => some true
  | 0, some _ => none
  | f + 1, some p => match s.look p.1 with
    | some ⟨g, .one ⟨false, [.val (.bool c)]⟩⟩ => match gval s f g with
      | some c' => some ((match p.2 with | true => c | false => !c) && c')
      | none => none
    | _ => none

def underG (s : St) (g : Option (Nat × Bool)) : List Bool → List Bool
  | [] => []
  | l => match g with
    | none => l
    | some p => l.map fun n => !(gbool s 32 (some p)) || n

/-- An entry that turns only if c. -/
def guardE (c : Bool) (e : Entry) (old : Option Entry) : Option Entry :=
  match e, old with
  | .row own e t xs, none => some (.row own e t (cond c xs []))
  | .row own e t xs, some (.row own' e' t' xs') => if h : t' = t then bif (own == own') && Nat.beq e e' then some (.row own e t (cond c xs (h ▸ xs'))) else none else none
  | .box T cs, some (.box T' cs') => bif Nat.beq T T' then (mergeCells c cs cs').map (.box T) else none
  | .gone, some .gone => some .gone
  | _, _ => none

def guardEs (c : Bool) (ent : Nat → Option Entry) : List (Nat × Entry) → Option (List (Nat × Entry))
  | [] => some []
  | p :: r => match guardE c p.2 (ent p.1), guardEs c ent r with
    | some e, some es => some ((p.1, e) :: es)
    | _, _ => none

def rsF {α : Type} (f : Nat → Option α) (l : List Nat) : Nat → Option α := fun i => bif memN l i then f i else none

theorem rsF_some {α : Type} {f : Nat → Option α} {l : List Nat} : ∀ i x, rsF f l i = some x → f i = some x := by
  intro i x h
  unfold rsF at h
  cases hm : memN l i with
  | true => simpa [hm] using h
  | false => simp [hm] at h

def tmpsOf : List Operand → List Nat
  | [] => []
  | .tmp t :: r => t :: tmpsOf r
  | _ :: r => tmpsOf r

def direct (look : Nat → Option SS) (A : List (Nat × Bool)) : List Operand → List Nat
  | [] => []
  | x :: r => (match ev look A x with | some v => v.ids | none => []) ++ direct look A r

/-- The variables and slices that an operation may look at. -/
def touch (look : Nat → Option SS) (ent : Nat → Option Entry) (A : List (Nat × Bool)) (o : Oper) : List Nat :=
  match o.op with
  | .load _ _ => direct look A (opsOf o.op)
  | .store _ _ _ => direct look A (opsOf o.op)
  | .indexAddr _ _ _ => direct look A (opsOf o.op)
  | .slice _ _ _ _ _ => direct look A (opsOf o.op)
  | .buildSlice _ _ _ => direct look A (opsOf o.op)
  | .binOp _ _ _ _ _ => direct look A (opsOf o.op)
  | .call c => match c.callee with
    | .builtin _ => direct look A (opsOf o.op)
    | _ => reach ent 4 (addN [] (direct look A (opsOf o.op)))
  | _ => []

def opR (P : Program) (tbl : List (PF P)) (look : Nat → Option SS) (ent : Nat → Option Entry) (A : List (Nat × Bool)) (nid : Nat) (o : Oper) : Option Raw :=
  opV P tbl (rsF look (tmpsOf (opsOf o.op))) (rsF ent (touch look ent A o)) A nid o

def Cell.inUb (U : Nat → Bool) (c : Cell) : Bool := c.ids.all U
def V1.inUb (U : Nat → Bool) (v : V1) : Bool := v.cs.all (Cell.inUb U)
def SV.inUb (U : Nat → Bool) : SV → Bool
  | .one v => v.inUb U
  | .tup vs => vs.all (V1.inUb U)

theorem Cell.inUb_sound {U : Nat → Bool} {c : Cell} (h : c.inUb U = true) : c.inU U := by
  unfold Cell.inUb at h
  rw [List.all_eq_true] at h
  cases c with
  | val v => trivial
  | ptr id off => exact h id (by simp [Cell.ids])
  | ref id => exact h id (by simp [Cell.ids])
  | el id z i off => exact h id (by simp [Cell.ids])
  | clo f caps => exact fun id hid => h id hid

theorem V1.inUb_sound {U : Nat → Bool} {v : V1} (h : v.inUb U = true) : v.inU U := by
  unfold V1.inUb at h
  rw [List.all_eq_true] at h
  exact fun c hc => Cell.inUb_sound (h c hc)

theorem SV.inUb_sound {U : Nat → Bool} {v : SV} (h : v.inUb U = true) : v.inU U := by
  cases v with
  | one v => exact V1.inUb_sound h
  | tup vs =>
    simp only [SV.inUb, List.all_eq_true] at h
    exact fun v hv => V1.inUb_sound (h v hv)

/-- The cells of the entries name what is known. -/
def esIn (U : Nat → Bool) (es : List (Nat × Entry)) : Bool := es.all fun p => match p.2 with
  | .box _ cs => cs.all (Cell.inUb U)
  | _ => true

def slotIds (look : Nat → Option SS) : List Nat → List Nat
  | [] => []
  | t :: r => (match look t with | some x => x.v.ids | none => []) ++ slotIds look r

/-- The ids that a result may name. -/
def srcs (look : Nat → Option SS) (ent : Nat → Option Entry) (ids : List Nat) (o : Oper) (new : List Nat) : List Nat :=
  slotIds look (tmpsOf (opsOf o.op)) ++ (joinL (ids.map (entIds ent)) ++ new)

def finD (s : St) (o : Oper) (g : Option (Nat × Bool)) (ids : List Nat) (r : Raw) : Option Dl :=
  match g with
  | none => some ⟨o.dst, ⟨none, r.v⟩, r.es, r.new, ids ++ (keys r.es ++ r.new), r.nd⟩
  | some p => match r.es, r.new with
    | [], [] => some ⟨o.dst, ⟨some p, r.v⟩, [], [], ids, underG s (some p) r.nd⟩
    | es, new => match gval s 32 (some p) with
      | some c => match guardEs c s.ent es with
        | some es' => if (esIn (memN (srcs s.look s.ent ids o new)) es && (keys es).all (fun i => (s.ent i).isSome || memN new i)) = true then some ⟨o.dst, ⟨some p, r.v⟩, es', new, ids ++ (keys es ++ new), underG s (some p) r.nd⟩ else none
        | none => none
      | none => none

def opD (P : Program) (tbl : List (PF P)) (W : Nat → Bool) (ops : List Oper) (s : St) (i : Nat) (o : Oper) : Option Dl :=
  match gslot ops o with
  | none => none
  | some g =>
    bif dstOk W s o.dst && guardOk s g then
      match opR P tbl s.look s.ent (asm s 32 g) ((s.next + i) * 64) o with
      | none => none
      | some r => bif r.new.all (fun i => !s.used i) && r.v.inUb (memN (srcs s.look s.ent (touch s.look s.ent (asm s 32 g) o) o r.new)) then finD s o g (touch s.look s.ent (asm s 32 g) o) r else none
    else none

section
variable {P : Program} {tbl : List (PF P)} {s : St} {i : Nat} {ops : List Oper} {o : Oper} {d : Dl} {B : Base} {ρ : Nm} {a : Act} {w : World} {K : Act → World → Prop} {Q : Exit → Act → World → Prop}

theorem put_hn {a : Act} {k : Option Nat} {v : Value} : (a.put k v).tmps.size = a.tmps.size := by cases k <;> simp [Act.put]
theorem put_hd {a : Act} {k : Option Nat} {v : Value} : (a.put k v).defers = a.defers := by cases k <;> rfl

/-- Slots and memory together again. -/
theorem Mdl.step {ρ' : Nm} {w' : World} {u : Value} (hM : Mdl B ρ s a w) (hag : ∀ id, s.used id = true → ρ' id = ρ id) (hdst : dstOk B.W s d.dst = true) (hg : guardOk s d.v.g = true)
    (hu : u = (match d.v.g with | none => d.v.v.conc ρ' | some (j, b) => if yl a.tmps j = some b then d.v.v.conc ρ' else undef)) (hin : d.v.v.inU (usedOf s.used d.new)) (hp : Hp B ρ' (entOf s.ent d.es) (usedOf s.used d.new) w') :
    Mdl B ρ' (s.apply d) (a.put d.dst u) w' := by
  have hmono : ∀ id, s.used id = true → usedOf s.used d.new id = true := by
    intro id h; simp only [usedOf]; cases memN d.new id <;> simp [h]
  obtain ⟨dst, ⟨g, v⟩, es, new, ids, nd⟩ := d
  cases dst with
  | none =>
    exact ⟨hM.hd, hM.hn, fun k x hk => (by show a.tmps[k]? = some (SS.at ρ' a.tmps x); rw [hM.hs k x hk, SS.at_congr hag (hM.hu k x hk) fun _ _ _ => rfl]), hM.hg, fun k x hk => SV.inU_mono hmono (hM.hu k x hk), hp, hM.hl⟩
  | some k =>
    simp only [dstOk, Bool.and_eq_true, Bool.not_eq_true'] at hdst
    obtain ⟨hlt, hwr⟩ := hdst
    obtain ⟨hlt, hsl⟩ := B.hW k hlt
    have hyl : ∀ j, s.wr j = true → yl (a.put (some k) u).tmps j = yl a.tmps j := fun j hj => yl_put fun e => by subst e; rw [hwr] at hj; cases hj
    refine ⟨hM.hd, by rw [put_hn]; exact hM.hn, fun i x hi => ?_, fun i x j b hi hj => ?_, fun i x hi => ?_, hp, fun k' v hv => ?_⟩
    · simp only [St.apply] at hi
      cases hb : Nat.beq i k with
      | true =>
        have := Nat.eq_of_beq_eq_true hb; subst this
        simp at hi; subst hi
        have hsz : i < a.tmps.size := by rw [hM.hn]; exact hlt
        have hput : (a.put (some i) u).tmps[i]? = some u := by simp only [Act.put, Array.getElem?_setIfInBounds_self_of_lt hsz]
        show (a.put (some i) u).tmps[i]? = _
        rw [hput]
        refine congrArg some ?_
        cases g with
        | none => exact hu
        | some p =>
          obtain ⟨j, b⟩ := p
          have hj : s.wr j = true := hg
          have := hyl j hj
          refine hu.trans ?_
          show _ = SS.at ρ' (a.put (some i) u).tmps _
          simp only [SS.at, this]
      | false =>
        simp [hb] at hi
        have hne : k ≠ i := fun e => by subst e; simp at hb
        have : (a.put (some k) u).tmps[i]? = a.tmps[i]? := by simp only [Act.put, Array.getElem?_setIfInBounds_ne hne]
        rw [this, hM.hs i x hi]
        congr 1
        exact (SS.at_congr hag (hM.hu i x hi) fun j b hj => hyl j (hM.hg i x j b hi hj)).symm
    · simp only [St.apply] at hi ⊢
      cases hb : Nat.beq i k with
      | true =>
        simp [hb] at hi; subst hi
        simp only at hj; subst hj
        have hj : s.wr j = true := hg
        cases Nat.beq j k <;> simp [hj]
      | false =>
        simp [hb] at hi
        have := hM.hg i x j b hi hj
        cases Nat.beq j k <;> simp [this]
    · simp only [St.apply] at hi ⊢
      cases hb : Nat.beq i k with
      | true => simp [hb] at hi; subst hi; exact hin
      | false => simp [hb] at hi; exact SV.inU_mono hmono (hM.hu i x hi)
    · have hne : k ≠ k' := fun e => by subst e; rw [hsl] at hv; cases hv
      have : (a.put (some k) u).tmps[k']? = a.tmps[k']? := by simp only [Act.put, Array.getElem?_setIfInBounds_ne hne]
      rw [this]; exact hM.hl k' v hv

theorem gslot_yl {g : Option (Nat × Bool)} (h : gslot ops o = some g) (tmps : Array Value) :
    Region.wanted o (yielded ops.toArray tmps) = (match g with | none => true | some p => yl tmps p.1 == some p.2) := by
  unfold gslot at h
  unfold Region.wanted
  cases hg : o.guard with
  | none => simp [hg] at h; subst h; rfl
  | some q =>
    obtain ⟨j, b⟩ := q
    simp only [hg] at h
    split at h
    · rename_i q hq
      split at h
      · rename_i k hk
        cases h
        simp only [yielded, List.getElem?_toArray, hq, Option.bind_some, hk, yl]
        rfl
      · cases h
    · cases h

theorem gbool_sound (hM : Mdl B ρ s a w) : ∀ (f : Nat) (g : Option (Nat × Bool)), (∀ p, g = some p → yl a.tmps p.1 = some p.2) → gbool s f g = true
  | 0, none, _ => rfl
  | _ + 1, none, _ => rfl
  | 0, some p, _ => rfl
  | f + 1, some p, h => by
    simp only [gbool]
    split
    · rename_i g c hx
      have hs := hM.hs _ _ hx
      have hy := h p rfl
      simp only [yl, hs] at hy
      cases g with
      | none =>
        simp only [SS.at, SV.conc, V1.conc, Cell.conc, Option.some.injEq] at hy
        subst hy
        have := gbool_sound hM f none (by simp)
        rw [this]; cases p.2 <;> rfl
      | some q =>
        obtain ⟨j, b⟩ := q
        by_cases hq : yl a.tmps j = some b
        · simp only [SS.at, hq, if_true, SV.conc, V1.conc, Cell.conc, Option.some.injEq] at hy
          subst hy
          have := gbool_sound hM f (some (j, b)) (fun r hr => by cases hr; exact hq)
          rw [this]; cases p.2 <;> rfl
        · simp only [SS.at, hq, if_false, undef] at hy
          cases hy
    · rfl

/-- The guard holds just if its value is true. -/
theorem gval_sound (hM : Mdl B ρ s a w) : ∀ (f : Nat) (g : Option (Nat × Bool)) (c : Bool), gval s f g = some c → ((∀ p, g = some p → yl a.tmps p.1 = some p.2) ↔ c = true)
  | 0, none, c, h => by simp [gval] at h; subst h; simp
  | _ + 1, none, c, h => by simp [gval] at h; subst h; simp
  | 0, some p, c, h => by simp [gval] at h
  | f + 1, some p, c, h => by
    simp only [gval] at h
    split at h
    · rename_i g b hx
      split at h
      · rename_i c' hc'
        cases h
        have hs := hM.hs _ _ hx
        have ih := gval_sound hM f g c' hc'
        have hy : yl a.tmps p.1 = some b ∧ c' = true ∨ yl a.tmps p.1 = none ∧ c' = false := by
          simp only [yl, hs]
          cases g with
          | none =>
            have : c' = true := ih.1 (by simp)
            subst this; simp [SS.at, SV.conc, V1.conc, Cell.conc]
          | some q =>
            obtain ⟨j, b'⟩ := q
            by_cases hq : yl a.tmps j = some b'
            · have : c' = true := ih.1 (fun p hp => by cases hp; exact hq)
              subst this; simp [SS.at, hq, SV.conc, V1.conc, Cell.conc]
            · have : c' = false := by
                cases c' with
                | false => rfl
                | true => exact (hq (ih.2 rfl _ rfl)).elim
              subst this; simp [SS.at, hq, undef]
        simp only [Option.some.injEq, forall_eq']
        rcases hy with ⟨hy, rfl⟩ | ⟨hy, rfl⟩
        · rw [hy]; cases p.2 <;> cases b <;> simp
        · rw [hy]; simp
      · cases h
    · cases h

theorem underG_sound (hM : Mdl B ρ s a w) {p : Nat × Bool} (hp : yl a.tmps p.1 = some p.2) {l : List Bool} (h : ∀ b ∈ underG s (some p) l, b = true) : ∀ b ∈ l, b = true := by
  have hg := gbool_sound hM 32 (some p) (fun q hq => by cases hq; exact hp)
  cases l with
  | nil => simp
  | cons x r =>
    intro b hb
    have := h (!(gbool s 32 (some p)) || b) (by simp only [underG]; exact List.mem_map_of_mem hb)
    simpa [hg] using this

end
end Go.SX

/- A symbolic evaluator over the model's own operations, part 2: one operation, and that what the evaluator says of it holds. -/
import Derived.Test.YtjncnnpdaeociaaTX1
namespace Go.SX
open Go.RowKit

theorem Mdl.he {B : Base} {ρ : Nm} {s : St} {a : Act} {w : World} (h : Mdl B ρ s a w) : ∀ id e, s.ent id = some e → e.holds B ρ w id ∧ s.used id = true ∧ e.inU s.used := h.hp.he

def memB (w0 : World) (mem : Nat → Option Obj) : Base := ⟨0, w0, mem, fun _ => none, fun _ => false, fun _ h => by cases h⟩

/-- The same for a list of variables and slices, numbered. -/
def HpL (w0 : World) (mem : Nat → Option Obj) (es : List Entry) (ρ : Nm) (w : World) : Prop :=
  Hp (memB w0 mem) ρ (fun i => es[i]?) (fun i => Nat.blt i es.length) w

/-- What a call hands back: the value; what was handed to it, behind the call; what is new; what must hold. -/
structure Out where
  res : SV
  es : List Entry
  new : List Entry
  nd : List Bool

/-- A function that is known by a contract. -/
structure PF (P : Program) where
  k : FuncId
  F : List SV → List Entry → Option Out
  ok : ∀ args es o, F args es = some o → (∀ b ∈ o.nd, b = true) → ∀ (mem : Nat → Option Obj) (ρ : Nm) (w : World), HpL w mem es ρ w →
    Calls P k (args.map (SV.conc ρ)).toArray w fun e w' => ∃ ρ' : Nm, Ext (memB w mem) (fun i => Nat.blt i es.length) ρ ρ' ∧ e = .returned (o.res.conc ρ') ∧ o.es.length = es.length ∧
      o.res.inU (fun i => Nat.blt i (o.es ++ o.new).length) ∧ HpL w mem (o.es ++ o.new) ρ' w'

/-- A table's mark: slices of one's own slices are data. -/
def PF.mark (P : Program) : PF P := ⟨999999, fun _ _ => none, fun _ _ _ h => by cases h⟩

def PF.marked {P : Program} : List (PF P) → Bool
  | [] => false
  | p :: _ => Nat.beq p.k 999999

/-- The first that knows an answer. -/
def callPF {P : Program} : List (PF P) → FuncId → List SV → List Entry → Option Out
  | [], _, _, _ => none
  | p :: r, k, args, es => bif Nat.beq p.k k then (match p.F args es with | some o => some o | none => callPF r k args es) else callPF r k args es

theorem callPF_ok {P : Program} : ∀ {l : List (PF P)} {k : FuncId} {args : List SV} {es : List Entry} {o : Out}, callPF l k args es = some o → (∀ b ∈ o.nd, b = true) → ∀ (mem : Nat → Option Obj) (ρ : Nm) (w : World), HpL w mem es ρ w →
    Calls P k (args.map (SV.conc ρ)).toArray w fun e w' => ∃ ρ' : Nm, Ext (memB w mem) (fun i => Nat.blt i es.length) ρ ρ' ∧ e = .returned (o.res.conc ρ') ∧ o.es.length = es.length ∧
      o.res.inU (fun i => Nat.blt i (o.es ++ o.new).length) ∧ HpL w mem (o.es ++ o.new) ρ' w'
  | [], k, args, es, o, h => by simp [callPF] at h
  | p :: r, k, args, es, o, h => by
    simp only [callPF] at h
    cases hq : Nat.beq p.k k with
    | true =>
      simp only [hq, cond_true] at h
      have hk := Nat.eq_of_beq_eq_true hq
      split at h
      · rename_i o' ho'
        cases h
        subst hk
        exact p.ok _ _ _ ho'
      · exact callPF_ok h
    | false => simp only [hq, cond_false] at h; exact callPF_ok h

def look? {α : Type} : List (Nat × α) → Nat → Option α
  | [], _ => none
  | p :: r, k => bif Nat.beq p.1 k then some p.2 else look? r k

def memN : List Nat → Nat → Bool
  | [], _ => false
  | p :: r, k => bif Nat.beq p k then true else memN r k

structure Raw where
  v : SV
  es : List (Nat × Entry)
  new : List Nat
  nd : List Bool

def entOf (ent : Nat → Option Entry) (es : List (Nat × Entry)) : Nat → Option Entry := fun i => match look? es i with | some e => some e | none => ent i
def usedOf (used : Nat → Bool) (new : List Nat) : Nat → Bool := fun i => bif memN new i then true else used i

/-- An operand, under the assumption that the guards in A hold. -/
def ev (look : Nat → Option SS) (A : List (Nat × Bool)) : Operand → Option SV
  | .tmp t => match look t with
    | some ⟨none, v⟩ => some v
    | some ⟨some p, v⟩ => bif A.any (fun q => Nat.beq q.1 p.1 && q.2 == p.2) then some v else none
    | none => none
  | .const v => some (.ofValue v)
  | .func f => some (.one ⟨false, [.val (.func (.func f) #[] #[])]⟩)
  | .global _ => none

def asm (s : St) : Nat → Option (Nat × Bool) → List (Nat × Bool)
  | _, none => []
  | 0, some _ => []
  | f + 1, some p => p :: asm s f (match s.look p.1 with | some x => x.g | none => none)

theorem asm_sound {B : Base} {ρ : Nm} {s : St} {a : Act} {w : World} (hM : Mdl B ρ s a w) : ∀ (f : Nat) (g : Option (Nat × Bool)), (∀ p, g = some p → yl a.tmps p.1 = some p.2) → ∀ q ∈ asm s f g, yl a.tmps q.1 = some q.2
  | _, none, _, q, hq => by cases ‹Nat› <;> simp [asm] at hq
  | 0, some p, _, q, hq => by simp [asm] at hq
  | f + 1, some p, h, q, hq => by
    simp only [asm, List.mem_cons] at hq
    rcases hq with rfl | hq
    · exact h _ rfl
    · refine asm_sound hM f _ (fun p' hp' => ?_) q hq
      cases hx : s.look p.1 with
      | none => simp [hx] at hp'
      | some x =>
        simp only [hx] at hp'
        have hs := hM.hs _ _ hx
        have hy := h p rfl
        simp only [yl, hs] at hy
        obtain ⟨g, v⟩ := x
        simp only at hp'
        subst hp'
        simp only [SS.at] at hy
        split at hy
        · rename_i heq
          split at heq
          · assumption
          · simp [undef] at heq
        · cases hy

theorem ev_conc {B : Base} {ρ : Nm} {s : St} {a : Act} {w : World} (hM : Mdl B ρ s a w) {look : Nat → Option SS} (hL : ∀ k x, look k = some x → s.look k = some x) {A : List (Nat × Bool)} (hA : ∀ q ∈ A, yl a.tmps q.1 = some q.2) {x : Operand} {v : SV} (h : ev look A x = some v) : a.eval x = v.conc ρ := by
  cases x with
  | tmp t =>
    simp only [ev] at h
    cases hx : look t with
    | none => simp [hx] at h
    | some x =>
      have hs := hM.hs _ _ (hL _ _ hx)
      obtain ⟨g, u⟩ := x
      simp only [hx] at h
      cases g with
      | none =>
        simp at h; subst h
        simp [Act.eval, hs, SS.at]
      | some p =>
        simp only at h
        cases hb : A.any (fun q => Nat.beq q.1 p.1 && q.2 == p.2) with
        | false => simp [hb] at h
        | true =>
          simp [hb] at h; subst h
          obtain ⟨q, hq, hqp⟩ := List.any_eq_true.1 hb
          simp only [Bool.and_eq_true, beq_iff_eq] at hqp
          have h1 := Nat.eq_of_beq_eq_true hqp.1
          have := hA q hq
          rw [h1, hqp.2] at this
          simp [Act.eval, hs, SS.at, this]
  | const v' => simp only [ev, Option.some.injEq] at h; subst h; simp [Act.eval, SV.conc_ofValue]
  | func f => simp only [ev, Option.some.injEq] at h; subst h; rfl
  | global g => simp [ev] at h

theorem ev_inU {B : Base} {ρ : Nm} {s : St} {a : Act} {w : World} (hM : Mdl B ρ s a w) {look : Nat → Option SS} (hL : ∀ k x, look k = some x → s.look k = some x) {A : List (Nat × Bool)} {x : Operand} {v : SV} (h : ev look A x = some v) : v.inU s.used := by
  cases x with
  | tmp t =>
    simp only [ev] at h
    cases hx : look t with
    | none => simp [hx] at h
    | some x =>
      have hs := hM.hu _ _ (hL _ _ hx)
      obtain ⟨g, u⟩ := x
      simp only [hx] at h
      cases g with
      | none => simp at h; subst h; exact hs
      | some p =>
        simp only at h
        cases hb : A.any (fun q => Nat.beq q.1 p.1 && q.2 == p.2) with
        | false => simp [hb] at h
        | true => simp [hb] at h; subst h; exact hs
  | const v' => simp only [ev, Option.some.injEq] at h; subst h; exact SV.ofValue_inU _ _
  | func f => simp only [ev, Option.some.injEq] at h; subst h; intro c hc; simp only [List.mem_singleton] at hc; subst hc; trivial
  | global g => simp [ev] at h

/-! ### Two values under a test -/

def mergeVal (c : Bool) : Value → Value → Option Value
  | .int k x, .int k' y => if k = k' then some (.int k (cond c x y)) else none
  | .bool x, .bool y => some (.bool (cond c x y))
  | .string x, .string y => some (.string (cond c x y))
  | _, _ => none

theorem mergeVal_sound {c : Bool} {a b v : Value} (h : mergeVal c a b = some v) : v = cond c a b := by
  unfold mergeVal at h
  split at h
  · split at h
    · rename_i hk; subst hk; cases h; cases c <;> rfl
    · cases h
  · cases h; cases c <;> rfl
  · cases h; cases c <;> rfl
  · cases h

def mergeCell (c : Bool) : Cell → Cell → Option Cell
  | .val a, .val b => (mergeVal c a b).map .val
  | .ptr i o, .ptr i' o' => bif Nat.beq i i' && Nat.beq o o' then some (.ptr i o) else none
  | .ref i, .ref i' => bif Nat.beq i i' then some (.ref i) else none
  | _, _ => none

theorem mergeCell_sound (ρ : Nm) {c : Bool} {a b v : Cell} (h : mergeCell c a b = some v) : v.conc ρ = cond c (a.conc ρ) (b.conc ρ) := by
  unfold mergeCell at h
  split at h
  · rename_i x y
    cases hm : mergeVal c x y with
    | none => simp [hm] at h
    | some u => simp [hm] at h; subst h; simp only [Cell.conc]; exact mergeVal_sound hm
  · rename_i i o i' o'
    cases hb : (Nat.beq i i' && Nat.beq o o') with
    | false => simp [hb] at h
    | true =>
      simp [hb] at h; subst h
      simp only [Bool.and_eq_true] at hb
      rw [Nat.eq_of_beq_eq_true hb.1, Nat.eq_of_beq_eq_true hb.2]; cases c <;> rfl
  · rename_i i i'
    cases hb : Nat.beq i i' with
    | false => simp [hb] at h
    | true =>
      simp [hb] at h; subst h
      rw [Nat.eq_of_beq_eq_true hb]; cases c <;> rfl
  · cases h

theorem mergeCell_inU {U : Nat → Bool} {c : Bool} {a b v : Cell} (ha : a.inU U) (h : mergeCell c a b = some v) : v.inU U := by
  unfold mergeCell at h
  split at h
  · rename_i x y
    cases hm : mergeVal c x y with
    | none => simp [hm] at h
    | some u => simp [hm] at h; subst h; trivial
  · rename_i i o i' o'
    cases hb : (Nat.beq i i' && Nat.beq o o') with
    | false => simp [hb] at h
    | true => simp [hb] at h; subst h; exact ha
  · rename_i i i'
    cases hb : Nat.beq i i' with
    | false => simp [hb] at h
    | true => simp [hb] at h; subst h; exact ha
  · cases h

def mergeCells (c : Bool) : List Cell → List Cell → Option (List Cell)
  | [], [] => some []
  | a :: as, b :: bs => match mergeCell c a b, mergeCells c as bs with
    | some x, some xs => some (x :: xs)
    | _, _ => none
  | _, _ => none

theorem mergeCells_sound (ρ : Nm) {c : Bool} : ∀ {as bs vs : List Cell}, mergeCells c as bs = some vs → vs.map (Cell.conc ρ) = cond c (as.map (Cell.conc ρ)) (bs.map (Cell.conc ρ)) ∧ vs.length = as.length ∧ vs.length = bs.length
  | [], [], vs, h => by simp [mergeCells] at h; subst h; cases c <;> exact ⟨rfl, rfl, rfl⟩
  | [], _ :: _, vs, h => by simp [mergeCells] at h
  | _ :: _, [], vs, h => by simp [mergeCells] at h
  | a :: as, b :: bs, vs, h => by
    simp only [mergeCells] at h
    split at h
    · rename_i x xs hx hxs
      cases h
      obtain ⟨h1, h2, h3⟩ := mergeCells_sound ρ hxs
      have h0 := mergeCell_sound ρ hx
      refine ⟨?_, by simp [h2], by simp [h3]⟩
      simp only [List.map_cons, h0, h1]; cases c <;> rfl
    · cases h

theorem mergeCells_inU {U : Nat → Bool} {c : Bool} : ∀ {as bs vs : List Cell}, (∀ x ∈ as, x.inU U) → mergeCells c as bs = some vs → ∀ x ∈ vs, x.inU U
  | [], [], vs, _, h => by simp [mergeCells] at h; subst h; simp
  | [], _ :: _, vs, _, h => by simp [mergeCells] at h
  | _ :: _, [], vs, _, h => by simp [mergeCells] at h
  | a :: as, b :: bs, vs, ha, h => by
    simp only [mergeCells] at h
    split at h
    · rename_i x xs hx hxs
      cases h
      intro y hy
      rcases List.mem_cons.1 hy with rfl | hy
      · exact mergeCell_inU (ha _ (by simp)) hx
      · exact mergeCells_inU (fun z hz => ha z (by simp [hz])) hxs y hy
    · cases h

def mergeV1 (c : Bool) (a b : V1) : Option V1 :=
  match a.agg, b.agg with
  | true, true => (mergeCells c a.cs b.cs).map (⟨true, ·⟩)
  | false, false => (mergeCells c a.cs b.cs).map (⟨false, ·⟩)
  | _, _ => none

theorem mergeV1_sound (ρ : Nm) {c : Bool} {a b v : V1} (h : mergeV1 c a b = some v) : v.conc ρ = cond c (a.conc ρ) (b.conc ρ) := by
  obtain ⟨ga, as⟩ := a
  obtain ⟨gb, bs⟩ := b
  unfold mergeV1 at h
  split at h
  · rename_i e1 e2
    simp only at e1 e2 h; subst e1 e2
    cases hm : mergeCells c as bs with
    | none => simp [hm] at h
    | some u => simp [hm] at h; subst h; simp only [V1.conc, (mergeCells_sound ρ hm).1]; cases c <;> rfl
  · rename_i e1 e2
    simp only at e1 e2 h; subst e1 e2
    cases hm : mergeCells c as bs with
    | none => simp [hm] at h
    | some u =>
      simp [hm] at h; subst h
      obtain ⟨h1, h2, h3⟩ := mergeCells_sound ρ hm
      match u, as, bs, h1, h2, h3 with
      | [], [], [], _, _, _ => cases c <;> rfl
      | [x], [y], [z], h1, _, _ => simp only [V1.conc]; cases c <;> simpa using h1
      | _ :: _ :: _, _ :: _ :: _, _ :: _ :: _, _, _, _ => cases c <;> rfl
  · cases h

theorem mergeV1_inU {U : Nat → Bool} {c : Bool} {a b v : V1} (ha : a.inU U) (h : mergeV1 c a b = some v) : v.inU U := by
  unfold mergeV1 at h
  split at h
  all_goals first
    | cases h
    | (cases hm : mergeCells c a.cs b.cs with
       | none => simp [hm] at h
       | some u => simp [hm] at h; subst h; exact mergeCells_inU ha hm)

def mergeV1s (c : Bool) : List V1 → List V1 → Option (List V1)
  | [], [] => some []
  | a :: as, b :: bs => match mergeV1 c a b, mergeV1s c as bs with
    | some x, some xs => some (x :: xs)
    | _, _ => none
  | _, _ => none

theorem mergeV1s_sound (ρ : Nm) {c : Bool} : ∀ {as bs vs : List V1}, mergeV1s c as bs = some vs → vs.map (V1.conc ρ) = cond c (as.map (V1.conc ρ)) (bs.map (V1.conc ρ))
  | [], [], vs, h => by simp [mergeV1s] at h; subst h; cases c <;> rfl
  | [], _ :: _, vs, h => by simp [mergeV1s] at h
  | _ :: _, [], vs, h => by simp [mergeV1s] at h
  | a :: as, b :: bs, vs, h => by
    simp only [mergeV1s] at h
    split at h
    · rename_i x xs hx hxs
      cases h
      simp only [List.map_cons, mergeV1_sound ρ hx, mergeV1s_sound ρ hxs]; cases c <;> rfl
    · cases h

theorem mergeV1s_inU {U : Nat → Bool} {c : Bool} : ∀ {as bs vs : List V1}, (∀ x ∈ as, x.inU U) → mergeV1s c as bs = some vs → ∀ x ∈ vs, x.inU U
  | [], [], vs, _, h => by simp [mergeV1s] at h; subst h; simp
  | [], _ :: _, vs, _, h => by simp [mergeV1s] at h
  | _ :: _, [], vs, _, h => by simp [mergeV1s] at h
  | a :: as, b :: bs, vs, ha, h => by
    simp only [mergeV1s] at h
    split at h
    · rename_i x xs hx hxs
      cases h
      intro y hy
      rcases List.mem_cons.1 hy with rfl | hy
      · exact mergeV1_inU (ha _ (by simp)) hx
      · exact mergeV1s_inU (fun z hz => ha z (by simp [hz])) hxs y hy
    · cases h

def mergeSV (c : Bool) : SV → SV → Option SV
  | .one a, .one b => (mergeV1 c a b).map .one
  | .tup as, .tup bs => (mergeV1s c as bs).map .tup
  | _, _ => none

theorem mergeSV_sound (ρ : Nm) {c : Bool} {a b v : SV} (h : mergeSV c a b = some v) : v.conc ρ = cond c (a.conc ρ) (b.conc ρ) := by
  unfold mergeSV at h
  split at h
  · rename_i x y
    cases hm : mergeV1 c x y with
    | none => simp [hm] at h
    | some u => simp [hm] at h; subst h; exact mergeV1_sound ρ hm
  · rename_i x y
    cases hm : mergeV1s c x y with
    | none => simp [hm] at h
    | some u => simp [hm] at h; subst h; simp only [SV.conc, mergeV1s_sound ρ hm]; cases c <;> rfl
  · cases h

theorem mergeSV_inU {U : Nat → Bool} {c : Bool} {a b v : SV} (ha : a.inU U) (h : mergeSV c a b = some v) : v.inU U := by
  unfold mergeSV at h
  split at h
  · rename_i x y
    cases hm : mergeV1 c x y with
    | none => simp [hm] at h
    | some u => simp [hm] at h; subst h; exact mergeV1_inU ha hm
  · rename_i x y
    cases hm : mergeV1s c x y with
    | none => simp [hm] at h
    | some u => simp [hm] at h; subst h; exact mergeV1s_inU ha hm
  · cases h

end Go.SX

/- A symbolic evaluator over the model's own operations, part 5: a region, in whatever order it draws. -/
import Derived.Test.YtofbpbijfhfnoaaSX4
namespace Go.SX
open Go.RowKit

/-- What an operation does to a state. -/
structure Dl where
  dst : Option Nat
  v : SS
  es : List (Nat × Entry)
  new : List Nat
  ids : List Nat
  nd : List Bool

def St.apply (s : St) (d : Dl) : St :=
  { look := match d.dst with | none => s.look | some k => fun i => bif Nat.beq i k then some d.v else s.look i
    ent := entOf s.ent d.es
    used := usedOf s.used d.new
    wr := match d.dst with | none => s.wr | some k => fun i => bif Nat.beq i k then true else s.wr i
    next := s.next
    log := s.log
    logE := s.logE }

/-- The slot that a guard asks. -/
def gslot (ops : List Oper) (o : Oper) : Option (Option (Nat × Bool)) :=
  match o.guard with
  | none => some none
  | some (j, b) => match ops[j]? with
    | some q => match q.dst with
      | some k => some (some (k, b))
      | none => none
    | none => none

def dstOk (W : Nat → Bool) (s : St) : Option Nat → Bool
  | none => true
  | some k => W k && !s.wr k

/-- No slot with a guard is known yet that was not written in this region: so a guard's slot is one that was written. -/
def guardOk (s : St) : Option (Nat × Bool) → Bool
  | none => true
  | some p => s.wr p.1

/-- The guard's test, as the state knows it. -/
def gbool (s : St) : Nat → Option (Nat × Bool) → Bool
  | _, none => true
  | 0, some _ => true
  | f + 1, some p => match s.look p.1 with
    | some ⟨g, .one ⟨false, [.val (.bool c)]⟩⟩ => (match p.2 with | true => c | false => !c) && gbool s f g
    | _ => true

def underG (s : St) (g : Option (Nat × Bool)) : List Bool → List Bool
  | [] => []
  | l => match g with
    | none => l
    | some p => l.map fun n => !(gbool s 32 (some p)) || n

def opD (P : Program) (tbl : List (PF P)) (W : Nat → Bool) (ops : List Oper) (s : St) (i : Nat) (o : Oper) : Option Dl :=
  match gslot ops o with
  | none => none
  | some g =>
    bif dstOk W s o.dst && guardOk s g then
      match opV P tbl s (asm s 32 g) (s.next + i) o with
      | none => none
      | some r =>
        match g, r.es, r.new with
        | none, es, new => some ⟨o.dst, ⟨none, r.v⟩, es, new, r.ids ++ es.map (·.1) ++ new, r.nd⟩
        | some p, [], [] => some ⟨o.dst, ⟨some p, r.v⟩, [], [], r.ids, underG s (some p) r.nd⟩
        | _, _, _ => none
    else none

section
variable {P : Program} {tbl : List (PF P)} {s : St} {i : Nat} {ops : List Oper} {o : Oper} {d : Dl} {B : Base} {ρ : Nm} {a : Act} {w : World} {K : Act → World → Prop} {Q : Exit → Act → World → Prop}

theorem put_hn {a : Act} {k : Option Nat} {v : Value} : (a.put k v).tmps.size = a.tmps.size := by cases k <;> simp [Act.put]
theorem put_hd {a : Act} {k : Option Nat} {v : Value} : (a.put k v).defers = a.defers := by cases k <;> rfl

/-- Slots and memory together again. -/
theorem Mdl.step {ρ' : Nm} {w' : World} {u : Value} (hM : Mdl B ρ s a w) (hag : ∀ id, s.used id = true → ρ' id = ρ id) (hdst : dstOk B.W s d.dst = true) (hg : guardOk s d.v.g = true)
    (hu : u = (match d.v.g with | none => d.v.v.conc ρ' | some (j, b) => if yl a.tmps j = some b then d.v.v.conc ρ' else undef)) (hin : d.v.v.inU (usedOf s.used d.new)) (hp : Hp B ρ' (entOf s.ent d.es) (usedOf s.used d.new) w') :
    Mdl B ρ' (s.apply d) (a.put d.dst u) w' := by
  have hmono : ∀ id, s.used id = true → usedOf s.used d.new id = true := by
    intro id h; simp only [usedOf]; cases memN d.new id <;> simp [h]
  obtain ⟨dst, ⟨g, v⟩, es, new, ids, nd⟩ := d
  cases dst with
  | none =>
    exact ⟨hM.hd, hM.hn, fun k x hk => (by show a.tmps[k]? = some (SS.at ρ' a.tmps x); rw [hM.hs k x hk, SS.at_congr hag (hM.hu k x hk) fun _ _ _ => rfl]), hM.hg, fun k x hk => SV.inU_mono hmono (hM.hu k x hk), hp.he, hp.hi, hp.hf, hM.hl⟩
  | some k =>
    simp only [dstOk, Bool.and_eq_true, Bool.not_eq_true'] at hdst
    obtain ⟨hlt, hwr⟩ := hdst
    obtain ⟨hlt, hsl⟩ := B.hW k hlt
    have hyl : ∀ j, s.wr j = true → yl (a.put (some k) u).tmps j = yl a.tmps j := fun j hj => yl_put fun e => by subst e; rw [hwr] at hj; cases hj
    refine ⟨hM.hd, by rw [put_hn]; exact hM.hn, fun i x hi => ?_, fun i x j b hi hj => ?_, fun i x hi => ?_, hp.he, hp.hi, hp.hf, fun k' v hv => ?_⟩
    · simp only [St.apply] at hi
      cases hb : Nat.beq i k with
      | true =>
        have := Nat.eq_of_beq_eq_true hb; subst this
        simp at hi; subst hi
        have hsz : i < a.tmps.size := by rw [hM.hn]; exact hlt
        have hput : (a.put (some i) u).tmps[i]? = some u := by simp only [Act.put, Array.getElem?_setIfInBounds_self_of_lt hsz]
        show (a.put (some i) u).tmps[i]? = _
        rw [hput]
        refine congrArg some ?_
        cases g with
        | none => exact hu
        | some p =>
          obtain ⟨j, b⟩ := p
          have hj : s.wr j = true := hg
          have := hyl j hj
          refine hu.trans ?_
          show _ = SS.at ρ' (a.put (some i) u).tmps _
          simp only [SS.at, this]
      | false =>
        simp [hb] at hi
        have hne : k ≠ i := fun e => by subst e; simp at hb
        have : (a.put (some k) u).tmps[i]? = a.tmps[i]? := by simp only [Act.put, Array.getElem?_setIfInBounds_ne hne]
        rw [this, hM.hs i x hi]
        congr 1
        exact (SS.at_congr hag (hM.hu i x hi) fun j b hj => hyl j (hM.hg i x j b hi hj)).symm
    · simp only [St.apply] at hi ⊢
      cases hb : Nat.beq i k with
      | true =>
        simp [hb] at hi; subst hi
        simp only at hj; subst hj
        have hj : s.wr j = true := hg
        cases Nat.beq j k <;> simp [hj]
      | false =>
        simp [hb] at hi
        have := hM.hg i x j b hi hj
        cases Nat.beq j k <;> simp [this]
    · simp only [St.apply] at hi ⊢
      cases hb : Nat.beq i k with
      | true => simp [hb] at hi; subst hi; exact hin
      | false => simp [hb] at hi; exact SV.inU_mono hmono (hM.hu i x hi)
    · have hne : k ≠ k' := fun e => by subst e; rw [hsl] at hv; cases hv
      have : (a.put (some k) u).tmps[k']? = a.tmps[k']? := by simp only [Act.put, Array.getElem?_setIfInBounds_ne hne]
      rw [this]; exact hM.hl k' v hv

theorem gslot_yl {g : Option (Nat × Bool)} (h : gslot ops o = some g) (tmps : Array Value) :
    Region.wanted o (yielded ops.toArray tmps) = (match g with | none => true | some p => yl tmps p.1 == some p.2) := by
  unfold gslot at h
  unfold Region.wanted
  cases hg : o.guard with
  | none => simp [hg] at h; subst h; rfl
  | some q =>
    obtain ⟨j, b⟩ := q
    simp only [hg] at h
    split at h
    · rename_i q hq
      split at h
      · rename_i k hk
        cases h
        simp only [yielded, List.getElem?_toArray, hq, Option.bind_some, hk, yl]
        rfl
      · cases h
    · cases h

theorem gbool_sound (hM : Mdl B ρ s a w) : ∀ (f : Nat) (g : Option (Nat × Bool)), (∀ p, g = some p → yl a.tmps p.1 = some p.2) → gbool s f g = true
  | 0, none, _ => rfl
  | _ + 1, none, _ => rfl
  | 0, some p, _ => rfl
  | f + 1, some p, h => by
    simp only [gbool]
    split
    · rename_i g c hx
      have hs := hM.hs _ _ hx
      have hy := h p rfl
      simp only [yl, hs] at hy
      have key : yl a.tmps = yl a.tmps := rfl
      cases g with
      | none =>
        simp only [SS.at, SV.conc, V1.conc, Cell.conc, Option.some.injEq] at hy
        subst hy
        have := gbool_sound hM f none (by simp)
        rw [this]; cases p.2 <;> rfl
      | some q =>
        obtain ⟨j, b⟩ := q
        by_cases hq : yl a.tmps j = some b
        · simp only [SS.at, hq, if_true, SV.conc, V1.conc, Cell.conc, Option.some.injEq] at hy
          subst hy
          have := gbool_sound hM f (some (j, b)) (fun r hr => by cases hr; exact hq)
          rw [this]; cases p.2 <;> rfl
        · simp only [SS.at, hq, if_false, undef] at hy
          cases hy
    · rfl

theorem underG_sound (hM : Mdl B ρ s a w) {p : Nat × Bool} (hp : yl a.tmps p.1 = some p.2) {l : List Bool} (h : ∀ b ∈ underG s (some p) l, b = true) : ∀ b ∈ l, b = true := by
  have hg := gbool_sound hM 32 (some p) (fun q hq => by cases hq; exact hp)
  cases l with
  | nil => simp
  | cons x r =>
    intro b hb
    have := h (!(gbool s 32 (some p)) || b) (by simp only [underG]; exact List.mem_map_of_mem hb)
    simpa [hg] using this

/-- One operation of a region. -/
theorem op_step (hM : Mdl B ρ s a w) (hi : ops[i]? = some o) (h : opD P tbl B.W ops s i o = some d) (hnd : ∀ b ∈ d.nd, b = true) (hK : ∀ ρ' a' w', (∀ id, s.used id = true → ρ' id = ρ id) → Mdl B ρ' (s.apply d) a' w' → K a' w') : wpOp P ops.toArray Q i K a w := by
  unfold opD at h
  split at h
  · cases h
  · rename_i g hg
    have hw := gslot_yl hg a.tmps
    cases hok : (dstOk B.W s o.dst && guardOk s g) with
    | false => simp [hok] at h
    | true =>
      simp only [hok, cond_true] at h
      obtain ⟨hdst, hgo⟩ := Bool.and_eq_true_iff.1 hok
      split at h
      · cases h
      · rename_i r hr
        unfold wpOp
        simp only [List.getElem?_toArray, hi]
        split at h
        · rename_i es new
          cases h
          simp only [hw, if_true]
          refine .inl (opV_sound hM (asm_sound hM 32 none (by simp)) hr hnd fun ρ' u w' hag hu hin hp => ?_)
          exact hK ρ' _ _ hag (hM.step (d := ⟨o.dst, ⟨none, r.v⟩, _, _, r.ids ++ r.es.map (·.1) ++ r.new, r.nd⟩) hag hdst rfl hu hin hp)
        · rename_i p hes hnew
          cases h
          cases hy : (yl a.tmps p.1 == some p.2) with
          | true =>
            simp only [hw, hy, if_true]
            have hy' : yl a.tmps p.1 = some p.2 := by simpa using hy
            refine .inl (opV_sound hM (asm_sound hM 32 (some p) (fun q hq => by cases hq; exact hy')) hr (underG_sound hM hy' hnd) fun ρ' u w' hag hu hin hp => ?_)
            rw [hes, hnew] at hp
            rw [hnew] at hin
            refine hK ρ' _ _ hag (hM.step (d := ⟨o.dst, ⟨some p, r.v⟩, [], [], r.ids, underG s (some p) r.nd⟩) hag hdst hgo ?_ hin hp)
            simp only [hy', if_true]; exact hu
          | false =>
            simp only [hw, hy, Bool.false_eq_true, if_false]
            have hy' : ¬ yl a.tmps p.1 = some p.2 := by simpa using hy
            have hin : r.v.inU s.used := by
              exact opV_inU hM hr hnew
            exact hK ρ _ _ (fun _ _ => rfl) (hM.step (d := ⟨o.dst, ⟨some p, r.v⟩, [], [], r.ids, underG s (some p) r.nd⟩) (fun _ _ => rfl) hdst hgo (by simp only [hy', if_false]) hin hM.hp)
        · cases h

end
end Go.SX

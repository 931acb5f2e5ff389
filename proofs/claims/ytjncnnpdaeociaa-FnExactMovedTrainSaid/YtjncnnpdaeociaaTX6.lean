/- A symbolic evaluator over the model's own operations, part 6: a region in the order of the text, and in whatever order it draws. -/
import Derived.Test.YtjncnnpdaeociaaTX5g
namespace Go.SX
open Go.RowKit

theorem mem_tmpsOf {t : Nat} : ∀ {l : List Operand}, Operand.tmp t ∈ l → t ∈ tmpsOf l
  | x :: r, h => by
    rcases List.mem_cons.1 h with h | h
    · subst h; simp [tmpsOf]
    · have ih := mem_tmpsOf h
      cases x <;> simp [tmpsOf, ih]

/-- What an operation does, and the slots that it looks at. -/
structure Inf where
  d : Dl
  rs : List Nat

def looks (ops : List Oper) (s : St) (o : Oper) : List Nat :=
  tmpsOf (opsOf o.op) ++ (match gslot ops o with | some g => (asm s 32 g).map (·.1) | none => [])

def runT (P : Program) (tbl : List (PF P)) (W : Nat → Bool) (ops : List Oper) : St → Nat → List Oper → Option (St × List Inf)
  | s, _, [] => some (s, [])
  | s, i, o :: r => match opD P tbl W ops s i o with
    | none => none
    | some d => match runT P tbl W ops (s.apply d) (i + 1) r with
      | some (s', l) => some (s', ⟨d, looks ops s o⟩ :: l)
      | none => none

def St.clean (s : St) : St :=
  { s with look := fun k => match s.look k with | some ⟨none, v⟩ => some ⟨none, v⟩ | _ => none
           wr := fun _ => false }

def dstsOf : List Inf → List Nat
  | [] => []
  | x :: r => match x.d.dst with
    | some k => k :: dstsOf r
    | none => dstsOf r

def widsOf : List Inf → List Nat
  | [] => []
  | x :: r => wids' x.d ++ widsOf r
  where wids' (d : Dl) : List Nat := d.es.map (·.1) ++ d.new

def St.fin (s : St) (k : Nat) (l : List Inf) : St := { s.clean with next := s.next + k, log := dstsOf l ++ s.log, logE := widsOf l ++ s.logE }

def ndsOf : List Inf → List Bool
  | [] => []
  | x :: r => x.d.nd ++ ndsOf r

/-- The operations that come before each one, as the bits of a number. -/
def maskOf (acc : List Nat) : List Edge → Nat
  | [] => 0
  | e :: r => bif Region.binds .any e then 2 ^ e.on ||| ((acc[e.on]?).getD 0 ||| maskOf acc r) else maskOf acc r

def masks : List Nat → List Oper → List Nat
  | acc, [] => acc
  | acc, o :: r => masks (acc ++ [maskOf acc o.after.toList]) r

def backs : Nat → List Oper → Bool
  | _, [] => true
  | i, o :: r => o.after.toList.all (fun e => !Region.binds .any e || Nat.blt e.on i) && backs (i + 1) r

def meets : List Nat → List Nat → Bool
  | [], _ => false
  | x :: r, l => bif memN l x then true else meets r l

def optIn : Option Nat → List Nat → Bool
  | none, _ => false
  | some k, l => memN l k

def optEq : Option Nat → Option Nat → Bool
  | some a, some b => Nat.beq a b
  | _, _ => false

def wids (d : Dl) : List Nat := d.es.map (·.1) ++ d.new

/-- The two must keep their order. -/
def conf (x y : Inf) : Bool :=
  optIn x.d.dst y.rs || optIn y.d.dst x.rs || optEq x.d.dst y.d.dst || meets (wids x.d) y.d.ids || meets (wids y.d) x.d.ids

/-- Each one that must keep its order with x (number i) comes behind x. -/
def indepOne (ms : List Nat) (i : Nat) (x : Inf) : Nat → List Inf → Bool
  | _, [] => true
  | j, y :: r => (!conf x y || ((ms[j]?).getD 0).testBit i) && indepOne ms i x (j + 1) r

def indepAll (ms : List Nat) : Nat → List Inf → Bool
  | _, [] => true
  | i, x :: r => indepOne ms i x (i + 1) r && indepAll ms (i + 1) r

def noSelect (ops : List Oper) : Bool := ops.all fun o => match o.op with | .select _ _ => false | _ => true

def indep (ops : List Oper) (l : List Inf) : Bool := backs 0 ops && indepAll (masks [] ops) 0 l

def execRegion (P : Program) (tbl : List (PF P)) (W : Nat → Bool) (s : St) (ops : List Oper) (draw : Bool) : Option (St × List Bool) :=
  match runT P tbl W ops s.clean 0 ops with
  | some (s', l) => bif !draw || indep ops l then some (s'.fin ops.length l, ndsOf l) else none
  | none => none

section
variable {P : Program} {tbl : List (PF P)} {s : St} {i : Nat} {ops : List Oper} {o : Oper} {d : Dl} {B : Base} {ρ : Nm} {a : Act} {w : World} {K : Act → World → Prop} {Q : Exit → Act → World → Prop}

theorem Mdl.clean (h : Mdl B ρ s a w) : Mdl B ρ s.clean a w := by
  have key : ∀ k x, s.clean.look k = some x → s.look k = some x ∧ x.g = none := by
    intro k x hx
    simp only [St.clean] at hx
    split at hx
    · rename_i v hv; cases hx; exact ⟨hv, rfl⟩
    · cases hx
  exact ⟨h.hd, h.hn, fun k x hx => h.hs k x (key k x hx).1, fun k x j b hx hj => (by rw [(key k x hx).2] at hj; cases hj), fun k x hx => h.hu k x (key k x hx).1, h.hp, h.hl⟩

theorem Mdl.fin (h : Mdl B ρ s a w) (k : Nat) (l : List Inf) : Mdl B ρ (s.fin k l) a w := by
  have := h.clean
  exact ⟨this.hd, this.hn, this.hs, this.hg, this.hu, this.hp, this.hl⟩

theorem apply_used {id : Nat} (h : s.used id = true) : (s.apply d).used id = true := by
  simp only [St.apply, usedOf]; cases memN d.new id <;> simp [h]

/-! ### The order of the text -/

theorem runT_sound : ∀ (r : List Oper) (i : Nat) (s s' : St) (l : List Inf), (∀ j, r[j]? = ops[i + j]?) → runT P tbl B.W ops s i r = some (s', l) → (∀ b ∈ ndsOf l, b = true) → ∀ (ρ : Nm) (a : Act) (w : World), Mdl B ρ s a w →
    (∀ ρ' a' w', Ext B s.used ρ ρ' → Mdl B ρ' s' a' w' → Q .normal a' w') → wpOps P ops.toArray Q (List.range' i r.length) a w
  | [], i, s, s', l, _, h, _, ρ, a, w, hM, hQ => by
    simp [runT] at h; obtain ⟨rfl, rfl⟩ := h
    simp only [List.length_nil, List.range'_zero, wpOps]
    exact hQ ρ a w (Ext.refl _ _ _) hM
  | o :: r, i, s, s', l, hr, h, hnd, ρ, a, w, hM, hQ => by
    simp only [runT] at h
    split at h
    · cases h
    · rename_i d hd
      split at h
      · rename_i s'' l' hl
        cases h
        have hi : ops[i]? = some o := by have := hr 0; simpa using this.symm
        rw [List.length_cons, List.range'_succ, wpOps_cons]
        refine op_step hM hi hd (fun b hb => hnd b (by simp only [ndsOf, List.mem_append]; exact .inl hb)) fun ρ' a' w' hag hM' => ?_
        exact runT_sound r (i + 1) _ _ _ (fun j => by have := hr (j + 1); simpa [Nat.add_assoc, Nat.add_comm 1 j] using this) hl (fun b hb => hnd b (by simp only [ndsOf, List.mem_append]; exact .inr hb)) ρ' a' w' hM' fun ρ'' a'' w'' hag' hM'' => hQ ρ'' a'' w'' (hag.trans hag' fun id hid => apply_used hid) hM''
      · cases h

/-! ### Whatever order -/

def applyD (D : Nat → Bool) : Nat → List Inf → St → St
  | _, [], s => s
  | i, x :: r, s => applyD D (i + 1) r (bif D i then s.apply x.d else s)

theorem optIn_false {k : Nat} {l : List Nat} (h : optIn (some k) l = false) : k ∉ l := by
  simp only [optIn] at h
  intro hk
  induction l with
  | nil => simp at hk
  | cons x r ih =>
    simp only [memN] at h
    cases hb : Nat.beq x k with
    | true => simp [hb] at h
    | false =>
      simp [hb] at h
      rcases List.mem_cons.1 hk with rfl | hk
      · simp at hb
      · exact ih h hk

theorem memN_false {k : Nat} {l : List Nat} (h : memN l k = false) : k ∉ l := optIn_false (k := k) (l := l) h

theorem memN_true {k : Nat} {l : List Nat} (h : k ∈ l) : memN l k = true := by
  cases hm : memN l k with
  | true => rfl
  | false => exact absurd h (memN_false hm)

theorem meets_false {x l : List Nat} (h : meets x l = false) : ∀ k ∈ x, k ∉ l := by
  induction x with
  | nil => simp
  | cons y r ih =>
    simp only [meets] at h
    cases hm : memN l y with
    | true => simp [hm] at h
    | false =>
      simp [hm] at h
      intro k hk
      rcases List.mem_cons.1 hk with rfl | hk
      · exact memN_false hm
      · exact ih h k hk

theorem look?_none {α : Type} {es : List (Nat × α)} {k : Nat} (h : k ∉ es.map (·.1)) : look? es k = none := by
  induction es with
  | nil => rfl
  | cons p r ih =>
    simp only [List.map_cons, List.mem_cons, not_or] at h
    simp only [look?]
    have : Nat.beq p.1 k = false := by
      cases hb : Nat.beq p.1 k with
      | false => rfl
      | true => exact absurd (Nat.eq_of_beq_eq_true hb).symm h.1
    simp [this, ih h.2]

theorem look?_mem {α : Type} {es : List (Nat × α)} {k : Nat} {e : α} (h : look? es k = some e) : k ∈ es.map (·.1) := by
  by_cases hk : k ∈ es.map (·.1)
  · exact hk
  · rw [look?_none hk] at h; cases h

/-- Two steps that are not in conflict. -/
theorem apply_comm {x y : Inf} (hx : ∀ k ∈ wids x.d, k ∈ x.d.ids) (h : conf x y = false) (s : St) : (s.apply x.d).apply y.d = (s.apply y.d).apply x.d := by
  simp only [conf, Bool.or_eq_false_iff] at h
  have h3 := h.1.1.2
  have h5 := h.2
  clear h
  have hw : ∀ k ∈ wids y.d, k ∉ wids x.d := fun k hk hk' => meets_false h5 k hk (hx k hk')
  obtain ⟨⟨xd, xv, xe, xn, xi, xb⟩, xr⟩ := x
  obtain ⟨⟨yd, yv, ye, yn, yi, yb⟩, yr⟩ := y
  simp only at h3
  simp only [St.apply]
  congr 1
  · cases xd with
    | none => rfl
    | some a => cases yd with
      | none => rfl
      | some b =>
    funext i
    simp only [optEq] at h3
    dsimp only
    cases h1 : Nat.beq i a <;> cases h2 : Nat.beq i b <;> try rfl
    rw [← Nat.eq_of_beq_eq_true h1, ← Nat.eq_of_beq_eq_true h2] at h3
    simp at h3
  · funext i
    simp only [entOf]
    cases h1 : look? xe i with
    | none => cases look? ye i <;> rfl
    | some e =>
      cases h2 : look? ye i with
      | none => rfl
      | some e' =>
        refine absurd ?_ (hw i ?_)
        · simp only [wids, List.mem_append]; exact .inl (look?_mem h1)
        · simp only [wids, List.mem_append]; exact .inl (look?_mem h2)
  · funext i
    simp only [usedOf]
    cases memN xn i <;> cases memN yn i <;> rfl
  · cases xd with
    | none => rfl
    | some a => cases yd with
      | none => rfl
      | some b =>
    funext i
    dsimp only
    cases Nat.beq i a <;> cases Nat.beq i b <;> rfl

theorem applyD_push {D : Nat → Bool} {x : Inf} (hx : ∀ k ∈ wids x.d, k ∈ x.d.ids) : ∀ (l : List Inf) (k : Nat) (s : St), (∀ j y, l[j]? = some y → D (k + j) = true → conf x y = false) → applyD D k l (s.apply x.d) = (applyD D k l s).apply x.d
  | [], _, _, _ => rfl
  | y :: r, k, s, h => by
    simp only [applyD]
    have h' : ∀ j z, r[j]? = some z → D (k + 1 + j) = true → conf x z = false := fun j z hz hD => h (j + 1) z (by simpa using hz) (by rw [show k + (j + 1) = k + 1 + j by omega]; exact hD)
    cases hD : D k with
    | false => simp only [cond_false]; exact applyD_push hx r (k + 1) s h'
    | true =>
      simp only [cond_true]
      rw [apply_comm hx (h 0 y (by simp) (by simpa using hD)), applyD_push hx r (k + 1) _ h']

def addD (D : Nat → Bool) (i : Nat) : Nat → Bool := fun j => bif Nat.beq j i then true else D j

theorem applyD_congr {D D' : Nat → Bool} : ∀ (l : List Inf) (k : Nat) (s : St), (∀ j, j < l.length → D (k + j) = D' (k + j)) → applyD D k l s = applyD D' k l s
  | [], _, _, _ => rfl
  | y :: r, k, s, h => by
    simp only [applyD]
    rw [show D k = D' k by simpa using h 0 (by simp)]
    exact applyD_congr r (k + 1) _ fun j hj => by have := h (j + 1) (by simp; omega); rwa [show k + (j + 1) = k + 1 + j by omega] at this

theorem applyD_add {D : Nat → Bool} {x : Inf} {i : Nat} (hx : ∀ k ∈ wids x.d, k ∈ x.d.ids) (hDi : D i = false) : ∀ (l : List Inf) (k : Nat) (s : St), k ≤ i → l[i - k]? = some x →
    (∀ j y, l[j]? = some y → i < k + j → D (k + j) = true → conf x y = false) → applyD (addD D i) k l s = (applyD D k l s).apply x.d
  | [], _, _, _, h, _ => by simp at h
  | y :: r, k, s, hk, hl, h => by
    simp only [applyD]
    by_cases hki : k = i
    · subst hki
      simp at hl; subst hl
      have h1 : addD D k k = true := by simp [addD]
      simp only [h1, hDi, cond_true, cond_false]
      rw [applyD_congr (D' := D) r (k + 1) _ fun j _ => by
        have : Nat.beq (k + 1 + j) k = false := by
          cases hb : Nat.beq (k + 1 + j) k with
          | false => rfl
          | true => have := Nat.eq_of_beq_eq_true hb; omega
        simp [addD, this]]
      exact applyD_push hx r (k + 1) s fun j z hz hD => h (j + 1) z (by simpa using hz) (by omega) (by rw [show k + (j + 1) = k + 1 + j by omega]; exact hD)
    · have h1 : addD D i k = D k := by
        have : Nat.beq k i = false := by
          cases hb : Nat.beq k i with
          | false => rfl
          | true => exact absurd (Nat.eq_of_beq_eq_true hb) hki
        simp [addD, this]
      rw [h1]
      refine applyD_add hx hDi r (k + 1) _ (by omega) ?_ fun j z hz hij hD => h (j + 1) z (by simpa using hz) (by omega) (by rw [show k + (j + 1) = k + 1 + j by omega]; exact hD)
      rw [show i - k = (i - (k + 1)) + 1 by omega] at hl
      simpa using hl

/-- On a resource that only those write on which the two sets agree, the two states agree. -/
theorem agree_look {D D' : Nat → Bool} {t : Nat} : ∀ (l : List Inf) (k : Nat) (s s' : St), s.look t = s'.look t → s.wr t = s'.wr t → (∀ j y, l[j]? = some y → y.d.dst = some t → D (k + j) = D' (k + j)) →
    (applyD D k l s).look t = (applyD D' k l s').look t ∧ (applyD D k l s).wr t = (applyD D' k l s').wr t
  | [], _, _, _, h, h', _ => ⟨h, h'⟩
  | y :: r, k, s, s', h, h', hw => by
    simp only [applyD]
    have key : ∀ (b : Bool) (s : St), y.d.dst ≠ some t → (bif b then s.apply y.d else s).look t = s.look t ∧ (bif b then s.apply y.d else s).wr t = s.wr t := by
      intro b s hne
      cases b with
      | false => exact ⟨rfl, rfl⟩
      | true =>
        simp only [cond_true, St.apply]
        cases hd : y.d.dst with
        | none => exact ⟨rfl, rfl⟩
        | some q =>
          have : Nat.beq t q = false := by
            cases hb : Nat.beq t q with
            | false => rfl
            | true => rw [← Nat.eq_of_beq_eq_true hb] at hd; exact absurd hd hne
          simp [this]
    refine agree_look r (k + 1) _ _ ?_ ?_ fun j z hz hd => ?_
    · by_cases hd : y.d.dst = some t
      · rw [show D k = D' k by simpa using hw 0 y (by simp) hd]
        cases D' k with
        | false => exact h
        | true => simp [St.apply, hd]
      · rw [(key _ s hd).1, (key _ s' hd).1]; exact h
    · by_cases hd : y.d.dst = some t
      · rw [show D k = D' k by simpa using hw 0 y (by simp) hd]
        cases D' k with
        | false => exact h'
        | true => simp [St.apply, hd]
      · rw [(key _ s hd).2, (key _ s' hd).2]; exact h'
    · have := hw (j + 1) z (by simpa using hz) hd
      rwa [show k + (j + 1) = k + 1 + j by omega] at this

theorem agree_ent {D D' : Nat → Bool} {t : Nat} : ∀ (l : List Inf) (k : Nat) (s s' : St), s.ent t = s'.ent t → s.used t = s'.used t → (∀ j y, l[j]? = some y → t ∈ wids y.d → D (k + j) = D' (k + j)) →
    (applyD D k l s).ent t = (applyD D' k l s').ent t ∧ (applyD D k l s).used t = (applyD D' k l s').used t
  | [], _, _, _, h, h', _ => ⟨h, h'⟩
  | y :: r, k, s, s', h, h', hw => by
    simp only [applyD]
    have key : ∀ (b : Bool) (s : St), t ∉ wids y.d → (bif b then s.apply y.d else s).ent t = s.ent t ∧ (bif b then s.apply y.d else s).used t = s.used t := by
      intro b s hne
      cases b with
      | false => exact ⟨rfl, rfl⟩
      | true =>
        simp only [cond_true, St.apply]
        simp only [wids, List.mem_append, not_or] at hne
        refine ⟨by simp only [entOf, look?_none hne.1], ?_⟩
        have : memN y.d.new t = false := by
          cases hb : memN y.d.new t with
          | false => rfl
          | true => exact absurd (memN_mem hb) hne.2
        simp [usedOf, this]
    refine agree_ent r (k + 1) _ _ ?_ ?_ fun j z hz hd => ?_
    · by_cases hd : t ∈ wids y.d
      · rw [show D k = D' k by simpa using hw 0 y (by simp) hd]
        cases D' k with
        | false => exact h
        | true =>
          simp only [cond_true, St.apply, entOf]
          cases look? y.d.es t <;> simp [h]
      · rw [(key _ s hd).1, (key _ s' hd).1]; exact h
    · by_cases hd : t ∈ wids y.d
      · rw [show D k = D' k by simpa using hw 0 y (by simp) hd]
        cases D' k with
        | false => exact h'
        | true => simp [St.apply, usedOf, h']
      · rw [(key _ s hd).2, (key _ s' hd).2]; exact h'
    · have := hw (j + 1) z (by simpa using hz) hd
      rwa [show k + (j + 1) = k + 1 + j by omega] at this
  where memN_mem {k : Nat} : ∀ {l : List Nat}, memN l k = true → k ∈ l
  | [], h => by simp [memN] at h
  | x :: r, h => by
    simp only [memN] at h
    cases hb : Nat.beq x k with
    | true => rw [Nat.eq_of_beq_eq_true hb]; simp
    | false => simp [hb] at h; exact List.mem_cons_of_mem _ (memN_mem h)

theorem applyD_next {D : Nat → Bool} : ∀ (l : List Inf) (k : Nat) (s : St), (applyD D k l s).next = s.next
  | [], _, _ => rfl
  | y :: r, k, s => by
    simp only [applyD]
    rw [applyD_next r]
    cases D k <;> rfl

end
end Go.SX

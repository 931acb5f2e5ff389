/- A symbolic evaluator over the model's own operations, part 4c: a call. -/
import Derived.Test.YtjncnnpdaeociaaTX4u
namespace Go.SX
open Go.RowKit

def Cell.ids : Cell → List Nat
  | .val _ => []
  | .ptr id _ => [id]
  | .ref id => [id]
  | .el id _ _ _ => [id]
  | .clo _ caps => caps

def V1.ids (v : V1) : List Nat := joinL (v.cs.map Cell.ids)

def SV.ids : SV → List Nat
  | .one v => v.ids
  | .tup vs => joinL (vs.map V1.ids)

def Entry.ids : Entry → List Nat
  | .box _ cs => joinL (cs.map Cell.ids)
  | _ => []

def addN (acc : List Nat) : List Nat → List Nat
  | [] => acc
  | i :: r => bif memN acc i then addN acc r else addN (acc ++ [i]) r

def entIds (ent : Nat → Option Entry) (i : Nat) : List Nat :=
  match ent i with
  | some e => e.ids
  | none => []

def reach (ent : Nat → Option Entry) : Nat → List Nat → List Nat
  | 0, l => l
  | f + 1, l => reach ent f (addN l (joinL (l.map (entIds ent))))

def mapO {α β : Type} (f : α → Option β) : List α → Option (List β)
  | [] => some []
  | a :: r => match f a, mapO f r with
    | some b, some bs => some (b :: bs)
    | _, _ => none

def posN : List Nat → Nat → Option Nat
  | [], _ => none
  | p :: r, i => bif Nat.beq p i then some 0 else (posN r i).map (· + 1)

def Cell.ren (f : Nat → Option Nat) : Cell → Option Cell
  | .val v => some (.val v)
  | .ptr id off => (f id).map (Cell.ptr · off)
  | .ref id => (f id).map .ref
  | .el id z i off => (f id).map (Cell.el · z i off)
  | .clo k caps => (mapO f caps).map (.clo k)

def V1.ren (f : Nat → Option Nat) (v : V1) : Option V1 := (mapO (Cell.ren f) v.cs).map (V1.mk v.agg)

def SV.ren (f : Nat → Option Nat) : SV → Option SV
  | .one v => (v.ren f).map .one
  | .tup vs => (mapO (V1.ren f) vs).map .tup

def Entry.ren (f : Nat → Option Nat) : Entry → Option Entry
  | .box T cs => (mapO (Cell.ren f) cs).map (.box T)
  | .row own e t xs => some (.row own e t xs)
  | .gone => some .gone

def noDup : List Nat → Bool
  | [] => true
  | i :: r => !memN r i && noDup r

def backF (L : List Nat) (j : Nat) : Option Nat := L[j]?

def zipE (ent : Nat → Option Entry) : List Nat → List Entry → List (Nat × Entry)
  | i :: r, e :: es => match ent i with
    | some (.row false _ _ _) => zipE ent r es
    | _ => (i, e) :: zipE ent r es
  | _, _ => []

def renE (ent : Nat → Option Entry) (L : List Nat) (i : Nat) : Option Entry :=
  match ent i with
  | some e => e.ren (posN L)
  | none => none

def callK {P : Program} (tbl : List (PF P)) (ent : Nat → Option Entry) (nid : Nat) (k : FuncId) (args : List SV) (L : List Nat) : Option Raw :=
  match mapO (SV.ren (posN L)) args, mapO (renE ent L) L with
  | some args', some es' => match callPF tbl k args' es' with
    | some out =>
      let ns := idsFrom nid out.new.length
      match out.res.ren (backF (L ++ ns)), mapO (Entry.ren (backF (L ++ ns))) (out.es ++ out.new) with
      | some v, some es => bif noDup L then some ⟨v, zipE ent (L ++ ns) es, ns, out.nd⟩ else none
      | _, _ => none
    | none => none
  | _, _ => none

def okFn (P : Program) (k : FuncId) : Bool :=
  match P.funcs[k]? with
  | some fn => !(fn.name == "runtime.NumGoroutine") && !fn.body.isNone
  | none => false

def capsV (caps : List Nat) : List SV := caps.map fun id => one (.ptr id 0)

def callV (P : Program) (tbl : List (PF P)) (look : Nat → Option SS) (ent : Nat → Option Entry) (A : List (Nat × Bool)) (nid : Nat) (f : Operand) (args : List Operand) : Option Raw :=
  match evC look A f, evs look A args with
  | some (.val (.func (.func k) fi ca)), some vs => match fi.toList, ca.toList with
    | [], [] => bif okFn P k then callK tbl ent nid k vs (reach ent 4 (addN [] (joinL (vs.map SV.ids)))) else none
    | _, _ => none
  | some (.clo k caps), some vs => bif okFn P k then callK tbl ent nid k (vs ++ capsV caps) (reach ent 4 (addN [] (joinL ((vs ++ capsV caps).map SV.ids)))) else none
  | _, _ => none

/-! ### Renaming -/

theorem mapO_get {α β : Type} {f : α → Option β} : ∀ {l : List α} {r : List β}, mapO f l = some r → r.length = l.length ∧ ∀ (i : Nat), (∀ y, r[i]? = some y → ∃ x, l[i]? = some x ∧ f x = some y)
  | [], r, h => by simp [mapO] at h; subst h; simp
  | a :: l, r, h => by
    simp only [mapO] at h
    split at h
    · rename_i b bs h1 h2
      cases h
      obtain ⟨e1, e2⟩ := mapO_get h2
      refine ⟨by simp [e1], fun i y hy => ?_⟩
      cases i with
      | zero => simp at hy; subst hy; exact ⟨a, rfl, h1⟩
      | succ i => simp at hy; simpa using e2 i y hy
    · cases h

theorem mapO_map {α β γ : Type} {f : α → Option β} {g : β → γ} {h : α → γ} : ∀ {l : List α} {r : List β}, mapO f l = some r → (∀ x ∈ l, ∀ y, f x = some y → g y = h x) → r.map g = l.map h
  | [], r, he, _ => by simp [mapO] at he; subst he; rfl
  | a :: l, r, he, hg => by
    simp only [mapO] at he
    split at he
    · rename_i b bs h1 h2
      cases he
      simp only [List.map_cons, hg a (by simp) b h1, mapO_map h2 fun x hx => hg x (by simp [hx])]
    · cases he

theorem mapO_all {α β : Type} {f : α → Option β} {p : β → Prop} : ∀ {l : List α} {r : List β}, mapO f l = some r → (∀ x ∈ l, ∀ y, f x = some y → p y) → ∀ y ∈ r, p y
  | [], r, he, _ => by simp [mapO] at he; subst he; simp
  | a :: l, r, he, hg => by
    simp only [mapO] at he
    split at he
    · rename_i b bs h1 h2
      cases he
      intro y hy
      rcases List.mem_cons.1 hy with rfl | hy
      · exact hg a (by simp) _ h1
      · exact mapO_all h2 (fun x hx => hg x (by simp [hx])) y hy
    · cases he

section
variable {f : Nat → Option Nat} {U U' : Nat → Bool} {ρ ρ' : Nm}

theorem Cell.ren_conc (hf : ∀ i j, U i = true → f i = some j → ρ' j = ρ i) {c c' : Cell} (hc : c.inU U) (h : c.ren f = some c') : c'.conc ρ' = c.conc ρ := by
  cases c with
  | val v => simp [Cell.ren] at h; subst h; rfl
  | ptr id off =>
    simp only [Cell.ren, Option.map_eq_some_iff] at h
    obtain ⟨j, hj, rfl⟩ := h
    simp only [Cell.conc, hf id j hc hj]
  | ref id =>
    simp only [Cell.ren, Option.map_eq_some_iff] at h
    obtain ⟨j, hj, rfl⟩ := h
    simp only [Cell.conc, hf id j hc hj]
  | el id z i off =>
    simp only [Cell.ren, Option.map_eq_some_iff] at h
    obtain ⟨j, hj, rfl⟩ := h
    simp only [Cell.conc, hf id j hc hj]
  | clo k caps =>
    simp only [Cell.ren, Option.map_eq_some_iff] at h
    obtain ⟨js, hj, rfl⟩ := h
    simp only [Cell.conc]
    rw [mapO_map hj fun x hx y hy => by rw [hf x y (hc x hx) hy]]

theorem Cell.ren_inU (hf : ∀ i j, f i = some j → U' j = true) {c c' : Cell} (h : c.ren f = some c') : c'.inU U' := by
  cases c with
  | val v => simp [Cell.ren] at h; subst h; trivial
  | ptr id off =>
    simp only [Cell.ren, Option.map_eq_some_iff] at h
    obtain ⟨j, hj, rfl⟩ := h
    exact hf id j hj
  | ref id =>
    simp only [Cell.ren, Option.map_eq_some_iff] at h
    obtain ⟨j, hj, rfl⟩ := h
    exact hf id j hj
  | el id z i off =>
    simp only [Cell.ren, Option.map_eq_some_iff] at h
    obtain ⟨j, hj, rfl⟩ := h
    exact hf id j hj
  | clo k caps =>
    simp only [Cell.ren, Option.map_eq_some_iff] at h
    obtain ⟨js, hj, rfl⟩ := h
    exact mapO_all hj fun x _ y hy => hf x y hy

theorem V1.ren_conc (hf : ∀ i j, U i = true → f i = some j → ρ' j = ρ i) {v v' : V1} (hc : v.inU U) (h : v.ren f = some v') : v'.conc ρ' = v.conc ρ := by
  obtain ⟨g, cs⟩ := v
  simp only [V1.ren, Option.map_eq_some_iff] at h
  obtain ⟨cs', hcs, rfl⟩ := h
  have hm : cs'.map (Cell.conc ρ') = cs.map (Cell.conc ρ) := mapO_map hcs fun x hx y hy => Cell.ren_conc hf (hc x hx) hy
  simp only [V1.conc]
  cases g with
  | true => simp only [hm]
  | false =>
    have hl := congrArg List.length hm
    simp only [List.length_map] at hl
    cases cs with
    | nil => rw [List.eq_nil_of_length_eq_zero hl]
    | cons x xr =>
      cases cs' with
      | nil => cases hl
      | cons y yr =>
        cases xr with
        | nil =>
          cases yr with
          | nil => simpa using hm
          | cons _ _ => simp at hl
        | cons _ _ =>
          cases yr with
          | nil => simp at hl
          | cons _ _ => rfl

theorem SV.ren_conc (hf : ∀ i j, U i = true → f i = some j → ρ' j = ρ i) {v v' : SV} (hc : v.inU U) (h : v.ren f = some v') : v'.conc ρ' = v.conc ρ := by
  cases v with
  | one v =>
    simp only [SV.ren, Option.map_eq_some_iff] at h
    obtain ⟨u, hu, rfl⟩ := h
    exact V1.ren_conc hf hc hu
  | tup vs =>
    simp only [SV.ren, Option.map_eq_some_iff] at h
    obtain ⟨u, hu, rfl⟩ := h
    simp only [SV.conc]
    rw [mapO_map hu fun x hx y hy => V1.ren_conc hf (hc x hx) hy]

end

theorem posN_get : ∀ {L : List Nat} {i j : Nat}, posN L i = some j → L[j]? = some i
  | [], i, j, h => by simp [posN] at h
  | p :: r, i, j, h => by
    simp only [posN] at h
    cases hb : Nat.beq p i with
    | true => simp [hb] at h; subst h; simp [Nat.eq_of_beq_eq_true hb]
    | false =>
      simp only [hb, cond_false, Option.map_eq_some_iff] at h
      obtain ⟨k, hk, rfl⟩ := h
      simpa using posN_get hk

theorem noDup_nodup : ∀ {L : List Nat}, noDup L = true → L.Nodup
  | [], _ => List.nodup_nil
  | i :: r, h => by
    simp only [noDup, Bool.and_eq_true, Bool.not_eq_true'] at h
    refine List.nodup_cons.2 ⟨fun hm => ?_, noDup_nodup h.2⟩
    rw [memN_mem.2 hm] at h; cases h.1

theorem nodup_get {L : List Nat} (hn : L.Nodup) {j j' i : Nat} (h : L[j]? = some i) (h' : L[j']? = some i) : j = j' :=
  (List.getElem?_inj (List.getElem?_eq_some_iff.1 h).1 hn).1 (h.trans h'.symm)

def notData (ent : Nat → Option Entry) (i : Nat) : Prop := ∀ e t xs, ent i ≠ some (.row false e t xs)

theorem zipE_look {ent : Nat → Option Entry} : ∀ {L : List Nat} {es : List Entry} {i : Nat} {e : Entry}, look? (zipE ent L es) i = some e → ∃ j : Nat, L[j]? = some i ∧ es[j]? = some e
  | [], es, i, e, h => by simp [zipE, look?] at h
  | _ :: _, [], i, e, h => by simp [zipE, look?] at h
  | k :: r, x :: es, i, e, h => by
    simp only [zipE] at h
    split at h
    · obtain ⟨j, h1, h2⟩ := zipE_look h; exact ⟨j + 1, by simpa using h1, by simpa using h2⟩
    · simp only [look?] at h
      cases hb : Nat.beq k i with
      | true => simp [hb] at h; subst h; exact ⟨0, by simp [Nat.eq_of_beq_eq_true hb], rfl⟩
      | false => simp [hb] at h; obtain ⟨j, h1, h2⟩ := zipE_look h; exact ⟨j + 1, by simpa using h1, by simpa using h2⟩

theorem zipE_mem {ent : Nat → Option Entry} : ∀ {L : List Nat} {es : List Entry} {i j : Nat}, L[j]? = some i → es.length = L.length → notData ent i → ∃ e, look? (zipE ent L es) i = some e
  | [], es, i, j, h, _, _ => by simp at h
  | _ :: _, [], i, j, _, h, _ => by simp at h
  | k :: r, x :: es, i, j, h, hl, hd => by
    simp only [zipE]
    cases j with
    | zero =>
      simp at h; subst h
      split
      · rename_i e t xs he; exact (hd _ _ _ he).elim
      · exact ⟨x, look?_same _ _ _⟩
    | succ j =>
      simp at h hl
      obtain ⟨e, he⟩ := zipE_mem h hl hd
      split
      · exact ⟨e, he⟩
      · simp only [look?]
        cases Nat.beq k i with
        | true => exact ⟨x, rfl⟩
        | false => exact ⟨e, he⟩

end Go.SX

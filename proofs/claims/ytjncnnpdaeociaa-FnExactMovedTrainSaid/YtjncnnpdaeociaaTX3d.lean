/- A symbolic evaluator over the model's own operations, part 3d: data in and out of cells. -/
import Derived.Test.YtjncnnpdaeociaaTX3
namespace Go.SX
open Go.RowKit

/-! ### Out of cells -/

def CTy.nsl : CTy → Nat
  | .sl _ _ => 1
  | .pair a b => a.nsl + b.nsl
  | _ => 0

def openC : (t : CTy) → E t → Nat → List Cell
  | .int k, x, _ => [.val (.int k x)]
  | .bool, b, _ => [.val (.bool b)]
  | .str, s, _ => [.val (.string s)]
  | .pair a b, p, n => openC a p.1 n ++ openC b p.2 (n + a.nsl)
  | .sl _ _, _, n => [.ref n]

def openN : (t : CTy) → E t → Nat → List (Nat × Entry)
  | .pair a b, p, n => openN a p.1 n ++ openN b p.2 (n + a.nsl)
  | .sl e t, xs, n => [(n, .row false e t xs)]
  | _, _, _ => []

/-- The ids n .. n + k - 1. -/
def idsFrom : Nat → Nat → List Nat
  | _, 0 => []
  | n, k + 1 => n :: idsFrom (n + 1) k

theorem mem_idsFrom : ∀ {k n i : Nat}, memN (idsFrom n k) i = true ↔ n ≤ i ∧ i < n + k
  | 0, n, i => by simp [idsFrom, memN]
  | k + 1, n, i => by
    simp only [idsFrom, memN]
    cases hb : Nat.beq n i with
    | true => have := Nat.eq_of_beq_eq_true hb; subst this; simp
    | false =>
      have hne : n ≠ i := fun e => by subst e; simp at hb
      simp only [cond_false]
      rw [mem_idsFrom]; omega

theorem openC_inU : ∀ (t : CTy) (x : E t) (n : Nat), ∀ c ∈ openC t x n, c.inU (fun i => Nat.ble n i && Nat.blt i (n + t.nsl))
  | .int _, _, _, c, hc => by simp only [openC, List.mem_singleton] at hc; subst hc; trivial
  | .bool, _, _, c, hc => by simp only [openC, List.mem_singleton] at hc; subst hc; trivial
  | .str, _, _, c, hc => by simp only [openC, List.mem_singleton] at hc; subst hc; trivial
  | .sl _ _, _, n, c, hc => by
    simp only [openC, List.mem_singleton] at hc; subst hc
    simp [Cell.inU, CTy.nsl, Nat.blt]
  | .pair a b, p, n, c, hc => by
    simp only [openC, List.mem_append] at hc
    rcases hc with hc | hc
    · refine Cell.inU_mono (fun i hi => ?_) (openC_inU a p.1 n c hc)
      simp only [Bool.and_eq_true, Nat.ble_eq, Nat.blt, CTy.nsl] at hi ⊢; omega
    · refine Cell.inU_mono (fun i hi => ?_) (openC_inU b p.2 _ c hc)
      simp only [Bool.and_eq_true, Nat.ble_eq, Nat.blt, CTy.nsl] at hi ⊢; omega

theorem openC_length : ∀ (t : CTy) (x : E t) (n : Nat), (openC t x n).length = t.size
  | .int _, _, _ => rfl
  | .bool, _, _ => rfl
  | .str, _, _ => rfl
  | .sl _ _, _, _ => rfl
  | .pair a b, p, n => by simp only [openC, List.length_append, CTy.size, openC_length a, openC_length b]

theorem Rep.length {H : Nat → Option Obj} : ∀ (t : CTy) (cs : List Value) (x : E t), Rep H t cs x → cs.length = t.size
  | .int _, _, _, h => by simp only [Rep] at h; rw [h]; rfl
  | .bool, _, _, h => by simp only [Rep] at h; rw [h]; rfl
  | .str, _, _, h => by simp only [Rep] at h; rw [h]; rfl
  | .pair a b, _, _, h => by
    simp only [Rep] at h
    obtain ⟨c1, c2, e, h1, h2⟩ := h
    rw [e, List.length_append, Rep.length a _ _ h1, Rep.length b _ _ h2]; rfl
  | .sl _ _, _, _, h => by simp only [Rep] at h; obtain ⟨v, e, _⟩ := h; rw [e]; rfl

theorem RepS_slim {H : Nat → Option Obj} {α : Type} {p : List Value → α → Prop} {z : Nat} {v : Value} {xs : List α} (h : RepG p z H v xs) : slim v = v := by
  rcases h with ⟨h, _⟩ | ⟨_, _, _, _, _, _, rfl, _⟩
  · exact zeroS_slim h
  · rfl

theorem open_sound : ∀ (t : CTy) (cs : List Value) (x : E t) (n : Nat) (ρ : Nm), Rep ρ.mem t cs x →
    ∃ ρ' : Nm, ρ'.mem = ρ.mem ∧ (∀ i, i < n ∨ n + t.nsl ≤ i → ρ' i = ρ i) ∧ cs = (openC t x n).map (Cell.conc ρ') ∧
      (∀ i e, look? (openN t x n) i = some e → (∃ e0 t0 xs, e = .row false e0 t0 xs ∧ RepS ρ.mem t0 (ρ' i) xs) ∧ n ≤ i ∧ i < n + t.nsl)
  | .int k, cs, x, n, ρ, h => ⟨ρ, rfl, fun _ _ => rfl, by simp only [Rep] at h; rw [h]; rfl, fun i e he => by simp [openN, look?] at he⟩
  | .bool, cs, x, n, ρ, h => ⟨ρ, rfl, fun _ _ => rfl, by simp only [Rep] at h; rw [h]; rfl, fun i e he => by simp [openN, look?] at he⟩
  | .str, cs, x, n, ρ, h => ⟨ρ, rfl, fun _ _ => rfl, by simp only [Rep] at h; rw [h]; rfl, fun i e he => by simp [openN, look?] at he⟩
  | .sl e t, cs, xs, n, ρ, h => by
    simp only [Rep] at h
    obtain ⟨v, hv, hr⟩ := h
    refine ⟨upd ρ n v, rfl, fun i hi => ?_, ?_, fun i e' he => ?_⟩
    · have : Nat.beq i n = false := by
        cases hb : Nat.beq i n with
        | false => rfl
        | true => have := Nat.eq_of_beq_eq_true hb; simp only [CTy.nsl] at hi; omega
      simp only [Nm.of, upd, this, cond_false]
    · rw [hv]; simp [openC, Cell.conc, Nm.of, upd, RepS_slim hr]
    · simp only [openN] at he
      obtain ⟨rfl, rfl⟩ := look?_one he
      refine ⟨⟨e, t, xs, rfl, ?_⟩, Nat.le_refl _, by simp [CTy.nsl]⟩
      rw [upd_same _ _ (RepS_slim hr)]; exact hr
  | .pair a b, cs, p, n, ρ, h => by
    simp only [Rep] at h
    obtain ⟨c1, c2, e, h1, h2⟩ := h
    obtain ⟨ρ1, m1, k1, e1, r1⟩ := open_sound a c1 p.1 n ρ h1
    obtain ⟨ρ2, m2, k2, e2, r2⟩ := open_sound b c2 p.2 (n + a.nsl) ρ1 (by rw [m1]; exact h2)
    have hk : ∀ i, i < n + a.nsl → ρ2 i = ρ1 i := fun i hi => k2 i (.inl hi)
    refine ⟨ρ2, m2.trans m1, fun i hi => ?_, ?_, fun i e' he => ?_⟩
    · simp only [CTy.nsl] at hi
      rw [k2 i (by omega), k1 i (by omega)]
    · rw [e, e1, e2]
      simp only [openC, List.map_append]
      congr 1
      refine (map_conc_congr (U := fun i => Nat.ble n i && Nat.blt i (n + a.nsl)) (fun i hi => hk i ?_) (openC_inU a p.1 n)).symm
      simp only [Bool.and_eq_true, Nat.ble_eq, Nat.blt] at hi; omega
    · simp only [openN] at he
      rw [look?_append] at he
      cases hl : look? (openN a p.1 n) i with
      | some e0 =>
        simp [hl] at he; subst he
        obtain ⟨⟨e1, t1, xs, he1, hr⟩, hlo, hhi⟩ := r1 i _ hl
        exact ⟨⟨e1, t1, xs, he1, by rw [hk i hhi]; exact hr⟩, hlo, by simp only [CTy.nsl]; omega⟩
      | none =>
        simp [hl] at he
        obtain ⟨⟨e1, t1, xs, he1, hr⟩, hlo, hhi⟩ := r2 i _ he
        rw [m1] at hr
        exact ⟨⟨e1, t1, xs, he1, hr⟩, by omega, by simp only [CTy.nsl]; omega⟩

/-! ### Into cells -/

def frz (ent : Nat → Option Entry) : List Nat → List (Nat × Entry)
  | [] => []
  | id :: r => match ent id with
    | some (.row true e t xs) => (id, .row false e t xs) :: frz ent r
    | _ => frz ent r

def rowC (ent : Nat → Option Entry) (t : CTy) : Cell → Option (List (E t) × List Nat)
  | .ref id => match ent id with
    | some (.row _ _ t' xs) => if h : t' = t then some (h ▸ xs, [id]) else none
    | _ => none
  | .val (.slice none 0 0) => some ([], [])
  | _ => none

def intC (k : IntKind) : List Cell → Option (Int × List Nat)
  | [.val (.int k' x)] => if k' = k then some (x, []) else none
  | _ => none

def boolC : List Cell → Option (Bool × List Nat)
  | [.val (.bool b)] => some (b, [])
  | _ => none

def strC : List Cell → Option (ByteArray × List Nat)
  | [.val (.string b)] => some (b, [])
  | _ => none

def slC (ent : Nat → Option Entry) (t : CTy) : List Cell → Option (List (E t) × List Nat)
  | [c] => rowC ent t c
  | _ => none

def closeC (ent : Nat → Option Entry) : (t : CTy) → List Cell → Option (E t × List Nat)
  | .int k, cs => intC k cs
  | .bool, cs => boolC cs
  | .str, cs => strC cs
  | .pair a b, cs => match closeC ent a (cs.take a.size), closeC ent b (cs.drop a.size) with
    | some (x, l), some (y, m) => some ((x, y), l ++ m)
    | _, _ => none
  | .sl _ t, cs => slC ent t cs

theorem look?_frz {ent : Nat → Option Entry} : ∀ {l : List Nat} {i : Nat} {e : Entry}, look? (frz ent l) i = some e → ∃ e0 t xs, ent i = some (.row true e0 t xs) ∧ e = .row false e0 t xs
  | [], i, e, h => by simp [frz, look?] at h
  | id :: r, i, e, h => by
    simp only [frz] at h
    split at h
    · rename_i e0 t xs he
      simp only [look?] at h
      cases hb : Nat.beq id i with
      | true =>
        have := Nat.eq_of_beq_eq_true hb; subst this
        simp at h; exact ⟨e0, t, xs, he, h.symm⟩
      | false => simp [hb] at h; exact look?_frz h
    · exact look?_frz h

theorem look?_frz_mem {ent : Nat → Option Entry} : ∀ {l : List Nat} {i : Nat} {e0 : TypeId} {t : CTy} {xs : List (E t)}, i ∈ l → ent i = some (.row true e0 t xs) → look? (frz ent l) i = some (.row false e0 t xs)
  | [], i, _, _, _, h, _ => by cases h
  | id :: r, i, e0, t, xs, h, he => by
    simp only [frz]
    rcases List.mem_cons.1 h with rfl | h
    · rw [he]; exact look?_same _ _ _
    · split
      · rename_i e1 t1 xs1 he1
        simp only [look?]
        cases hb : Nat.beq id i with
        | true =>
          have := Nat.eq_of_beq_eq_true hb; subst this
          rw [he] at he1; cases he1; rfl
        | false => exact look?_frz_mem h he
      · exact look?_frz_mem h he

section
variable {B : Base} {ρ : Nm} {ent : Nat → Option Entry} {used : Nat → Bool} {w : World}

theorem Hp.freezes {e0 : Nat → Option Entry} (hs : ∀ id e, e0 id = some e → ent id = some e) (h : Hp B ρ ent used w) : ∀ (l : List Nat), ∃ ρ' : Nm, ρ'.nm = ρ.nm ∧ Ext B used ρ ρ' ∧ Hp B ρ' (entOf ent (frz e0 l)) used w
  | [] => ⟨ρ, rfl, Ext.refl _ _ _, h⟩
  | id :: r => by
    obtain ⟨ρ1, n1, x1, h1⟩ := Hp.freezes hs h r
    simp only [frz]
    split
    · rename_i e t xs he
      cases hl : look? (frz e0 r) id with
      | none =>
        have he' : entOf ent (frz e0 r) id = some (.row true e t xs) := by simp only [entOf, hl]; exact hs _ _ he
        obtain ⟨ρ2, n2, x2, h2⟩ := h1.freeze he'
        rw [entOf_append] at h2
        exact ⟨ρ2, n2.trans n1, x1.trans x2 fun _ h => h, h2⟩
      | some e1 =>
        obtain ⟨e9, t0, xs0, h3, h4⟩ := look?_frz hl
        rw [he] at h3; cases h3
        refine ⟨ρ1, n1, x1, ?_⟩
        rw [show entOf ent ((id, Entry.row false e t xs) :: frz e0 r) = entOf ent (frz e0 r) from funext fun i => by
          simp only [entOf, look?]
          cases hb : Nat.beq id i with
          | true => have := Nat.eq_of_beq_eq_true hb; subst this; simp [hl, h4]
          | false => rfl]
        exact h1
    · exact ⟨ρ1, n1, x1, h1⟩

theorem rowC_sound {e0 : Nat → Option Entry} (hs : ∀ id e, e0 id = some e → ent id = some e) {l : List Nat} (h : Hp B ρ (entOf ent (frz e0 l)) used w) {t : CTy} {c : Cell} {xs : List (E t)} {ids : List Nat} (hc : rowC e0 t c = some (xs, ids)) (hl : ∀ id ∈ ids, id ∈ l) : RepS ρ.mem t (c.conc ρ) xs := by
  unfold rowC at hc
  split at hc
  · rename_i id
    split at hc
    · rename_i own e t' ys he
      split at hc
      · rename_i ht
        subst ht
        simp only [Option.some.injEq, Prod.mk.injEq] at hc
        obtain ⟨rfl, rfl⟩ := hc
        cases own with
        | true =>
          have := look?_frz_mem (hl id (by simp)) he
          have h2 : entOf ent (frz e0 l) id = some (.row false e t' ys) := by simp only [entOf, this]
          exact (h.he id _ h2).1
        | false =>
          cases hq : look? (frz e0 l) id with
          | none => exact (h.he id _ (by simp only [entOf, hq]; exact hs _ _ he)).1
          | some e1 => obtain ⟨_, _, _, h3, _⟩ := look?_frz hq; rw [he] at h3; cases h3
      · cases hc
    · cases hc
  · simp only [Option.some.injEq, Prod.mk.injEq] at hc
    obtain ⟨rfl, rfl⟩ := hc
    exact .inl ⟨.inl rfl, rfl⟩
  · cases hc

theorem close_sound {e0 : Nat → Option Entry} (hs : ∀ id e, e0 id = some e → ent id = some e) {l : List Nat} (h : Hp B ρ (entOf ent (frz e0 l)) used w) : ∀ (t : CTy) (cs : List Cell) (x : E t) (ids : List Nat), closeC e0 t cs = some (x, ids) → (∀ id ∈ ids, id ∈ l) → Rep ρ.mem t (cs.map (Cell.conc ρ)) x
  | .int k, cs, x, ids, hc, hl => by
    simp only [closeC] at hc
    unfold intC at hc
    split at hc
    · split at hc
      · rename_i hk; subst hk
        cases hc
        exact rfl
      · cases hc
    · cases hc
  | .bool, cs, x, ids, hc, hl => by
    simp only [closeC] at hc
    unfold boolC at hc
    split at hc
    · cases hc; exact rfl
    · cases hc
  | .str, cs, x, ids, hc, hl => by
    simp only [closeC] at hc
    unfold strC at hc
    split at hc
    · cases hc; exact rfl
    · cases hc
  | .sl e t, cs, x, ids, hc, hl => by
    simp only [closeC] at hc
    unfold slC at hc
    split at hc
    · simp only [Rep]
      exact ⟨_, rfl, rowC_sound hs h hc hl⟩
    · cases hc
  | .pair a b, cs, x, ids, hc, hl => by
    simp only [closeC] at hc
    split at hc
    · rename_i x1 l1 y1 m1 h1 h2
      cases hc
      simp only [Rep]
      refine ⟨(cs.take a.size).map (Cell.conc ρ), (cs.drop a.size).map (Cell.conc ρ), ?_, close_sound hs h a _ _ _ h1 fun i hi => hl i (by simp [hi]), close_sound hs h b _ _ _ h2 fun i hi => hl i (by simp [hi])⟩
      rw [← List.map_append, List.take_append_drop]
    · cases hc

end

/-! ### Cells of a list -/

theorem Rep.one {H : Nat → Option Obj} : ∀ (t : CTy) (cs : List Value) (x : E t), Rep H t cs x → ∀ u ∈ cs, u.oneCell' = true
  | .int _, _, _, h, u, hu => by simp only [Rep] at h; rw [h] at hu; simp at hu; subst hu; rfl
  | .bool, _, _, h, u, hu => by simp only [Rep] at h; rw [h] at hu; simp at hu; subst hu; rfl
  | .str, _, _, h, u, hu => by simp only [Rep] at h; rw [h] at hu; simp at hu; subst hu; rfl
  | .pair a b, _, _, h, u, hu => by
    simp only [Rep] at h
    obtain ⟨c1, c2, e, h1, h2⟩ := h
    rw [e] at hu
    rcases List.mem_append.1 hu with hu | hu
    · exact Rep.one a _ _ h1 u hu
    · exact Rep.one b _ _ h2 u hu
  | .sl _ _, _, _, h, u, hu => by
    simp only [Rep] at h
    obtain ⟨v, e, hv⟩ := h
    rw [e] at hu; simp at hu; subst hu
    rcases hv with ⟨rfl | ⟨_, _, rfl⟩, _⟩ | ⟨_, _, _, _, _, _, rfl, _⟩ <;> rfl

theorem size_pos : ∀ t : CTy, 0 < t.size
  | .int _ => by simp [CTy.size]
  | .bool => by simp [CTy.size]
  | .str => by simp [CTy.size]
  | .pair a b => by have := size_pos a; simp only [CTy.size]; omega
  | .sl _ _ => by simp [CTy.size]

theorem RepL.nil (H : Nat → Option Obj) (t : CTy) : RepL H t [] [] := ⟨by simp, fun i x h => by simp at h⟩

theorem chunk_le {n i z : Nat} (h : i < n) : i * z + z ≤ n * z := by
  have : (i + 1) * z ≤ n * z := Nat.mul_le_mul_right _ h
  rwa [Nat.add_mul, Nat.one_mul] at this

theorem RepL.append {H : Nat → Option Obj} {t : CTy} {cs ds : List Value} {xs ys : List (E t)} (h : RepL H t cs xs) (h' : RepL H t ds ys) : RepL H t (cs ++ ds) (xs ++ ys) := by
  refine ⟨by rw [List.length_append, List.length_append, h.1, h'.1, Nat.add_mul], fun i x hx => ?_⟩
  by_cases hi : i < xs.length
  · have hx' : xs[i]? = some x := by rwa [List.getElem?_append_left hi] at hx
    have := h.2 i x hx'
    have hle := chunk_le (z := t.size) hi
    rw [List.drop_append_of_le_length (by rw [h.1]; omega), List.take_append_of_le_length (by rw [List.length_drop, h.1]; omega)]
    exact this
  · have hx' : ys[i - xs.length]? = some x := by rwa [List.getElem?_append_right (by omega)] at hx
    have := h'.2 _ x hx'
    have hm : i * t.size = xs.length * t.size + (i - xs.length) * t.size := by rw [← Nat.add_mul]; congr 1; omega
    rw [hm, ← h.1, List.drop_append, List.drop_eq_nil_of_le (by omega), List.nil_append, Nat.add_sub_cancel_left]
    exact this

theorem RepL.one {H : Nat → Option Obj} {t : CTy} {cs : List Value} {x : E t} (h : Rep H t cs x) : RepL H t cs [x] := by
  have hl := Rep.length t cs x h
  refine ⟨by simp [hl], fun i y hy => ?_⟩
  cases i with
  | zero => simp at hy; subst hy; rw [Nat.zero_mul, List.drop_zero, ← hl, List.take_length]; exact h
  | succ i => simp at hy

theorem RepL.set {H : Nat → Option Obj} {t : CTy} {cs ds : List Value} {xs : List (E t)} (h : RepL H t cs xs) {i : Nat} (hi : i < xs.length) {y : E t} (hy : Rep H t ds y) :
    RepL H t (cs.take (i * t.size) ++ ds ++ cs.drop (i * t.size + t.size)) (xs.set i y) := by
  have hl := Rep.length t ds y hy
  have hle := chunk_le (z := t.size) hi
  refine ⟨by simp only [List.length_append, List.length_take, List.length_drop, h.1, hl, List.length_set]; omega, fun j x hx => ?_⟩
  rw [List.getElem?_set] at hx
  by_cases hij : i = j
  · subst hij
    simp [hi] at hx; subst hx
    rw [List.append_assoc, List.drop_append, List.drop_take, Nat.sub_self, List.take_zero, List.nil_append, List.length_take, h.1, Nat.min_eq_left (by omega), Nat.sub_self, List.drop_zero,
      List.take_append_of_le_length (by omega), ← hl, List.take_length]
    exact hy
  · simp only [hij, if_false] at hx
    have hj := (List.getElem?_eq_some_iff.1 hx).1
    have := h.2 j x hx
    by_cases hlt : j < i
    · have h1 : j * t.size + t.size ≤ i * t.size := chunk_le hlt
      have e : (cs.take (i * t.size) ++ ds ++ cs.drop (i * t.size + t.size)).drop (j * t.size) = (cs.drop (j * t.size)).take (i * t.size - j * t.size) ++ (ds ++ cs.drop (i * t.size + t.size)) := by
        rw [List.append_assoc, List.drop_append_of_le_length (by rw [List.length_take, h.1]; omega), List.drop_take]
      rw [e, List.take_append_of_le_length (by rw [List.length_take, List.length_drop, h.1]; omega), List.take_take, Nat.min_eq_left (by omega)]
      exact this
    · have hgt : i < j := by omega
      have h1 : i * t.size + t.size ≤ j * t.size := chunk_le hgt
      have e : (cs.take (i * t.size) ++ ds ++ cs.drop (i * t.size + t.size)).drop (j * t.size) = cs.drop (j * t.size) := by
        rw [List.drop_append, List.drop_eq_nil_of_le (by rw [List.length_append, List.length_take, h.1, hl]; omega), List.nil_append, List.length_append, List.length_take, h.1, hl, List.drop_drop]
        congr 1; omega
      rw [e]; exact this

/-- The cells of a slice's contents, where they lie. -/
theorem RepS.cells {H : Nat → Option Obj} {w : World} (hH : ∀ b o, H b = some o → w.heap[b]? = some o) {t : CTy} {v : Value} {xs : List (E t)} (h : RepS H t v xs) :
    (zeroS v ∧ xs = []) ∨
    ∃ b off cap arr T fz, v = .slice (some ⟨b, off, none⟩) xs.length cap ∧ xs.length ≤ cap ∧ cap ≤ maxLen ∧ w.heap[b]? = some (.cells arr T fz) ∧ H b = some (.cells arr T fz) ∧
      (xs = [] ∨ RepL H t ((arr.toList.drop off).take (xs.length * t.size)) xs) := by
  rcases h with h | ⟨b, off, cap, arr, T, fz, h1, h2, h3, h4, h5⟩
  · exact .inl h
  · refine .inr ⟨b, off, cap, arr, T, fz, h1, h2, h3, hH _ _ h4, h4, ?_⟩
    cases hxs : xs with
    | nil => exact .inl rfl
    | cons x0 xr =>
      right
      rw [← hxs]
      have hlen : off + xs.length * t.size ≤ arr.toList.length := by
        have hlast : xs.length - 1 < xs.length := by rw [hxs]; simp
        have := h5 (xs.length - 1) _ (List.getElem?_eq_getElem hlast)
        have hl := Rep.length t _ _ this
        rw [List.length_take, List.length_drop] at hl
        have hp := size_pos t
        have e : xs.length * t.size = (xs.length - 1) * t.size + t.size := by
          have : (xs.length - 1 + 1) * t.size = (xs.length - 1) * t.size + t.size := by rw [Nat.add_mul, Nat.one_mul]
          rw [← this]; congr 1; omega
        omega
      refine ⟨by rw [List.length_take, List.length_drop]; omega, fun i x hx => ?_⟩
      have := h5 i x hx
      have hle := chunk_le (z := t.size) (List.getElem?_eq_some_iff.1 hx).1
      rw [List.drop_take, List.drop_drop, List.take_take, Nat.min_eq_left (by omega)]
      exact this

end Go.SX

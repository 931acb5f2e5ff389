/- What a reading of an argument says of its cells. -/
import Derived.Test.YtofbpbijfhfnoaaSXb
import Derived.ProofKit
import Derived.OpenShut
namespace Go.SX
open Go.RowKit

inductive CK where
  | int (k : IntKind)
  | bool
  | str
  | sl (t : TypeId)

def flatFs (P : Program) (f : TypeId → Option (List CK)) : Nat → List Field → Option (List CK × Nat)
  | off, [] => some ([], off)
  | off, x :: r => bif Nat.beq x.offset off then
      match f x.type, flatFs P f (off + P.cellsOf x.type) r with
      | some ks, some (l, e) => some (ks ++ l, e)
      | _, _ => none
    else none

/-- The kinds of a type's cells. -/
def flat (P : Program) : Nat → TypeId → Option (List CK)
  | 0, _ => none
  | n + 1, t => match P.underlying t with
    | some .bool => some [.bool]
    | some (.int k) => some [.int k]
    | some .string => some [.str]
    | some (.slice _) => some [.sl t]
    | some (.struct fs) => match flatFs P (flat P n) 0 fs.toList with
      | some (l, e) => bif Nat.beq e (P.cellsOf t) then some l else none
      | none => none
    | _ => none

section
variable {H : Type} {enc : TypeId × Value → H} {P : Program} {w : World} {base : Nat} {spare : Nat → Bool} {held : Bool}

def CK.ok (enc : TypeId × Value → H) (P : Program) (w : World) (base : Nat) (spare : Nat → Bool) (held : Bool) : CK → Value → Prop
  | .int k, v => ∃ x, v = .int k x ∧ (Lit.int k x).wf = true
  | .bool, v => ∃ b, v = .bool b
  | .str, v => ∃ s, v = .string s ∧ s.size ≤ maxLen
  | .sl t, v => ∃ fuel y, DataW.trod enc P w base spare held fuel t [v] = some y

inductive All2 {α β : Type} (p : α → β → Prop) : List α → List β → Prop
  | nil : All2 p [] []
  | cons {a b as bs} : p a b → All2 p as bs → All2 p (a :: as) (b :: bs)

theorem All2.append {α β : Type} {p : α → β → Prop} : ∀ {a b : List α} {c d : List β}, All2 p a c → All2 p b d → All2 p (a ++ b) (c ++ d)
  | _, _, _, _, .nil, h => h
  | _, _, _, _, .cons h t, h' => .cons h (t.append h')

theorem All2.cons_inv {α β : Type} {p : α → β → Prop} {a : α} {as : List α} {l : List β} (h : All2 p (a :: as) l) : ∃ b bs, l = b :: bs ∧ p a b ∧ All2 p as bs := by
  cases h with
  | cons h t => exact ⟨_, _, rfl, h, t⟩

theorem All2.nil_inv {α β : Type} {p : α → β → Prop} {l : List β} (h : All2 p [] l) : l = [] := by
  cases h; rfl

theorem trod_flat : ∀ (n fuel : Nat) (t : TypeId) (cs : List Value) (ks : List CK) (y : DataW H × List MemPlace), flat P n t = some ks → DataW.trod enc P w base spare held fuel t cs = some y →
    All2 (CK.ok enc P w base spare held) ks cs
  | 0, _, _, _, _, _, h, _ => by simp [flat] at h
  | _ + 1, 0, _, _, _, _, _, h => by simp [DataW.trod] at h
  | n + 1, fuel + 1, t, cs, ks, y, hf, ht => by
    have ht0 := ht
    simp only [flat] at hf
    cases hu : P.underlying t with
    | none => simp [hu] at hf
    | some d =>
      rw [hu] at hf
      simp only [DataW.trod, hu] at ht
      cases d <;> simp only at hf <;> try (cases hf; done)
      case bool =>
        cases hf
        split at ht <;> simp_all
        exact .cons ⟨_, rfl⟩ .nil
      case int k =>
        cases hf
        split at ht <;> simp_all
        exact .cons ⟨_, by obtain ⟨⟨h1, h2⟩, _⟩ := ht; subst h1; exact ⟨rfl, h2⟩⟩ .nil
      case string =>
        cases hf
        split at ht <;> simp_all
        exact .cons ⟨_, rfl, ht.1⟩ .nil
      case slice e =>
        cases hf
        have hl : ∃ v, cs = [v] := by
          split at ht <;> simp_all
        obtain ⟨v, rfl⟩ := hl
        exact .cons ⟨fuel + 1, y, ht0⟩ .nil
      case struct fs =>
        split at hf
        case h_2 => cases hf
        rename_i l e hl
        cases hb : Nat.beq e (P.cellsOf t) with
        | false => simp [hb] at hf
        | true =>
          simp [hb] at hf; subst hf
          have he := Nat.eq_of_beq_eq_true hb
          obtain ⟨xs, m, _, _, hlen, hxl, hfs⟩ := DataW.trod_struct hu ht0
          have main : ∀ (gs : List Field) (off : Nat) (l : List CK), (∀ f ∈ gs, ∃ x, DataW.trod enc P w base spare held m f.type ((cs.drop f.offset).take (P.cellsOf f.type)) = some x) → flatFs P (flat P n) off gs = some (l, e) → All2 (CK.ok enc P w base spare held) l (cs.drop off) := by
            intro gs
            induction gs with
            | nil =>
              intro off l _ h
              simp [flatFs] at h
              obtain ⟨rfl, rfl⟩ := h
              rw [List.drop_eq_nil_of_le (by omega)]; exact .nil
            | cons f r ih =>
              intro off l hm h
              simp only [flatFs] at h
              cases hb : Nat.beq f.offset off with
              | false => simp [hb] at h
              | true =>
                have hoff := Nat.eq_of_beq_eq_true hb
                simp only [hb, cond_true] at h
                split at h
                · rename_i ks' l' e' hk hl'
                  cases h
                  obtain ⟨x, hx⟩ := hm f (by simp)
                  have h1 := trod_flat n m f.type _ ks' x hk hx
                  have h2 := ih (off + P.cellsOf f.type) l' (fun g hg => hm g (List.mem_cons_of_mem _ hg)) hl'
                  rw [hoff] at h1
                  have := h1.append h2
                  rw [← List.drop_drop, List.take_append_drop] at this
                  exact this
                · cases h
          have := main fs.toList 0 _ (fun f hf => by
            obtain ⟨q, hq⟩ := List.getElem?_of_mem hf
            have hq' : fs[q]? = some f := by simpa using hq
            have hlt : q < xs.length := by rw [hxl]; exact (Array.getElem?_eq_some_iff.1 hq').1
            exact ⟨xs[q], by rw [hfs q f hq', List.getElem?_eq_getElem hlt]⟩) hl
          simpa using this

/-- A struct by value, opened. -/
theorem open_agg {r : Reach} {b0 : Nat} {t : TypeId} {fs : Array Field} {v : Value} {d : DataW H} {p : List MemPlace} (hs : P.underlying t = some (.struct fs)) (hv : Value.okWide P w r b0 t v) (h : DataW.Trod enc P w base spare held t v d p) {n : Nat} {ks : List CK} (hk : flat P n t = some ks) :
    ∃ l, v = .agg ⟨l⟩ ∧ All2 (CK.ok enc P w base spare held) ks l := by
  obtain ⟨cs, rfl, _⟩ := WideShapes.okWide_struct hs hv
  obtain ⟨fuel, hf⟩ := h
  exact ⟨cs.toList, by cases cs; rfl, by simpa [Value.cells] using trod_flat n fuel t _ ks _ hk hf⟩

end
end Go.SX

/- A symbolic evaluator over the model's own operations, part 11: what is typed for a loop. -/
import Derived.Test.YtofbpbijfhfnoaaSXa
namespace Go.SX
open Go.RowKit

/-- A state written out. -/
def mkSt (L : List (Nat × SV)) (E : List (Nat × Entry)) (next : Nat) : St :=
  { look := fun k => match look? L k with | some v => some ⟨none, v⟩ | none => none
    ent := look? E
    used := memN (E.map (·.1))
    wr := fun _ => false, next, log := [], logE := [] }

/-- What of a result is looked at: some slots, some variables. -/
inductive RV where
  | none
  | done (x : Ex) (l : List (Option SS)) (e : List (Option Entry))
  | need (nd : List Bool) (r : RV)
  | ite (b : Bool) (t e : RV)

def R.view (ks ids : List Nat) : R → RV
  | .none => .none
  | .done x s => .done x (ks.map s.look) (ids.map s.ent)
  | .need nd r => .need nd (r.view ks ids)
  | .ite b t e => .ite b (t.view ks ids) (e.view ks ids)

def RV.sat (post : Ex → List (Option SS) → List (Option Entry) → Prop) : RV → Prop
  | .none => False
  | .done x l e => post x l e
  | .need nd r => (∀ b ∈ nd, b = true) ∧ r.sat post
  | .ite b t e => (b = true → t.sat post) ∧ (b = false → e.sat post)

theorem sat_of_view' {ks ids : List Nat} {post : Ex → St → Prop} : ∀ {r : R}, (r.view ks ids).sat (fun x l e => ∀ s', ks.map s'.look = l → ids.map s'.ent = e → post x s') → r.sat post
  | .none, h => h
  | .done _ s, h => h s rfl rfl
  | .need _ r, h => ⟨h.1, sat_of_view' (r := r) h.2⟩
  | .ite _ _ _, h => ⟨fun hb => sat_of_view' (h.1 hb), fun hb => sat_of_view' (h.2 hb)⟩

theorem sat_of_view {ks ids : List Nat} {post : Ex → St → Prop} {r : R} {v : RV} (hv : r.view ks ids = v) (h : v.sat (fun x l e => ∀ s', ks.map s'.look = l → ids.map s'.ent = e → post x s')) : r.sat post :=
  sat_of_view' (by rw [hv]; exact h)

def Cell.inB (l : List Nat) : Cell → Bool
  | .val _ => true
  | .ptr id _ => memN l id

def SV.inB (l : List Nat) : SV → Bool
  | .one v => v.cs.all (Cell.inB l)
  | .tup vs => vs.all fun v => v.cs.all (Cell.inB l)

def Entry.inB (l : List Nat) : Entry → Bool
  | .box _ cs => cs.all (Cell.inB l)

theorem Cell.inB_inU {l : List Nat} {c : Cell} (h : c.inB l = true) : c.inU (memN l) := by
  cases c with
  | val v => trivial
  | ptr id off => exact h

theorem SV.inB_inU {l : List Nat} {v : SV} (h : v.inB l = true) : v.inU (memN l) := by
  cases v with
  | one v => exact fun c hc => Cell.inB_inU (List.all_eq_true.1 h c hc)
  | tup vs => exact fun v hv c hc => Cell.inB_inU (List.all_eq_true.1 (List.all_eq_true.1 h v hv) c hc)

theorem Entry.inB_inU {l : List Nat} {e : Entry} (h : e.inB l = true) : e.inU (memN l) := by
  cases e with
  | box T cs => exact fun c hc => Cell.inB_inU (List.all_eq_true.1 h c hc)

theorem look?_get {α : Type} {f : Nat → Option α} : ∀ {L : List (Nat × α)} {k : Nat} {v : α}, look? L k = some v → (k, v) ∈ L
  | [], _, _, h => by simp [look?] at h
  | p :: r, k, v, h => by
    simp only [look?] at h
    cases hb : Nat.beq p.1 k with
    | true => simp [hb] at h; rw [← h, ← Nat.eq_of_beq_eq_true hb]; simp
    | false => simp [hb] at h; exact List.mem_cons_of_mem _ (look?_get (f := f) h)

theorem map_look {α β : Type} {f : Nat → Option β} {g : α → Option β} : ∀ {L : List (Nat × α)}, (L.map (·.1)).map f = L.map (fun p => g p.2) → ∀ p ∈ L, f p.1 = g p.2
  | [], _, p, hp => by simp at hp
  | q :: r, h, p, hp => by
    simp only [List.map_cons, List.cons.injEq] at h
    rcases List.mem_cons.1 hp with rfl | hp
    · exact h.1
    · exact map_look h.2 p hp

theorem sub_mk {L : List (Nat × SV)} {E : List (Nat × Entry)} {next : Nat} {s : St} (h1 : (L.map (·.1)).map s.look = L.map (fun p => some ⟨none, p.2⟩)) (h2 : (E.map (·.1)).map s.ent = E.map (fun p => some p.2))
    (hL : L.all (fun p => p.2.inB (E.map (·.1))) = true) (hE : E.all (fun p => p.2.inB (E.map (·.1))) = true) : Sub (mkSt L E next) s := by
  refine ⟨fun k x hx => ?_, fun id e he => ?_⟩
  · simp only [mkSt] at hx
    split at hx
    · rename_i v hv
      cases hx
      have hm := look?_get (f := fun _ => none) hv
      exact ⟨map_look (g := fun v => some (⟨none, v⟩ : SS)) h1 _ hm, rfl, SV.inB_inU (List.all_eq_true.1 hL _ hm)⟩
    · cases hx
  · have hm := look?_get (f := fun _ => none) he
    exact ⟨map_look (g := some) h2 _ hm, memN_true (List.mem_map_of_mem hm), Entry.inB_inU (List.all_eq_true.1 hE _ hm)⟩

theorem mkSt_hJ {L : List (Nat × SV)} {E : List (Nat × Entry)} {next : Nat} {ids D : List Nat} (h : E.map (·.1) = ids) :
    (∀ id, (mkSt L E next).used id = memN ids id) ∧ (∀ id, memN ids id = true → ((mkSt L E next).ent id).isSome = true) ∧ (∀ id, memN ids id = false → (mkSt L E next).ent id = none) ∧ (∀ k, memN D k = true → ∀ z, (mkSt L E next).look k = some z → z.g = none) := by
  subst h
  refine ⟨fun _ => rfl, fun id hid => ?_, fun id hid => look?_none (memN_false hid), fun k _ z hz => ?_⟩
  · simp only [mkSt]
    have hm := agree_ent.memN_mem hid
    clear hid
    induction E with
    | nil => simp at hm
    | cons p r ih =>
      simp only [look?]
      cases hb : Nat.beq p.1 id with
      | true => rfl
      | false =>
        simp only [List.map_cons, List.mem_cons] at hm
        rcases hm with e | hm
        · subst e; simp at hb
        · simpa using ih hm
  · simp only [mkSt] at hz
    split at hz
    · cases hz; rfl
    · cases hz

/-- The body of a function's loop number i. -/
def loopAt (fn : Func) (i : Nat) : Code := ((tops (fn.body.getD .skip))[i]?).getD .skip

/-- The only loop of a function. -/
theorem LOk.one {P : Program} {W : Nat → Bool} {F : St → R} {c b : Code} (hc : tops c = [b]) (h : LoopOk P W F b) : LOk P W [F] c :=
  LOk.of_tops c [F] fun i F' b' hF hb => by
    rw [hc] at hb
    cases i with
    | zero => simp at hF hb; subst hF; subst hb; exact h
    | succ i => simp at hF

theorem LOk.fn1 {P : Program} {W : Nat → Bool} {F : St → R} {fn : Func} (ht : tops (fn.body.getD .skip) = [loopAt fn 0]) (h : LoopOk P W F (loopAt fn 0)) : ∀ c, fn.body = some c → LOk P W [F] c := by
  intro c hc
  refine LOk.one (b := loopAt fn 0) ?_ h
  rw [hc] at ht
  exact ht

end Go.SX

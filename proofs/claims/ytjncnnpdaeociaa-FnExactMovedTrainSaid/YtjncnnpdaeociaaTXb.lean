/- A symbolic evaluator over the model's own operations, part 11: what is typed for a loop. -/
import Derived.Test.YtjncnnpdaeociaaTX9n
namespace Go.SX
open Go.RowKit

/-- A state written out. -/
def mkSt (L : List (Nat × SV)) (E : List (Nat × Entry)) (next : Nat) : St :=
  { look := fun k => match look? L k with | some v => some ⟨none, v⟩ | none => none
    ent := look? E
    used := memN (keys E)
    wr := fun _ => false, next, log := [], logE := [] }

/-- What of a result is looked at: some slots, some variables. -/
inductive RV where
  | none
  | done (x : Ex) (l : List (Option SS)) (e : List (Option Entry))
  | need (nd : List Bool) (r : RV)
  | ite (b : Bool) (t e : RV)

def R.view (ks ids : List Nat) : R → RV
  | .none => .none
  | .done x s => .done x (ks.map s.look) (ids.map s.ent)
  | .need nd r => .need nd (r.view ks ids)
  | .ite b t e => .ite b (t.view ks ids) (e.view ks ids)

def RV.sat (post : Ex → List (Option SS) → List (Option Entry) → Prop) : RV → Prop
  | .none => False
  | .done x l e => post x l e
  | .need nd r => (∀ b ∈ nd, b = true) ∧ r.sat post
  | .ite b t e => (b = true → t.sat post) ∧ (b = false → e.sat post)

theorem sat_of_view' {ks ids : List Nat} {post : Ex → St → Prop} : ∀ {r : R}, (r.view ks ids).sat (fun x l e => ∀ s', ks.map s'.look = l → ids.map s'.ent = e → post x s') → r.sat post
  | .none, h => h
  | .done _ s, h => h s rfl rfl
  | .need _ r, h => ⟨h.1, sat_of_view' (r := r) h.2⟩
  | .ite _ _ _, h => ⟨fun hb => sat_of_view' (h.1 hb), fun hb => sat_of_view' (h.2 hb)⟩

theorem sat_of_view {ks ids : List Nat} {post : Ex → St → Prop} {r : R} {v : RV} (hv : r.view ks ids = v) (h : v.sat (fun x l e => ∀ s', ks.map s'.look = l → ids.map s'.ent = e → post x s')) : r.sat post :=
  sat_of_view' (by rw [hv]; exact h)

def Entry.inUb (U : Nat → Bool) : Entry → Bool
  | .box _ cs => cs.all (Cell.inUb U)
  | _ => true

theorem Entry.inUb_sound {U : Nat → Bool} {e : Entry} (h : e.inUb U = true) : e.inU U := by
  cases e with
  | box T cs =>
    simp only [Entry.inUb, List.all_eq_true] at h
    exact fun c hc => Cell.inUb_sound (h c hc)
  | _ => trivial

theorem look?_get {α : Type} : ∀ {L : List (Nat × α)} {k : Nat} {v : α}, look? L k = some v → (k, v) ∈ L
  | [], _, _, h => by simp [look?] at h
  | p :: r, k, v, h => by
    simp only [look?] at h
    cases hb : Nat.beq p.1 k with
    | true => simp [hb] at h; rw [← h, ← Nat.eq_of_beq_eq_true hb]; simp
    | false => simp [hb] at h; exact List.mem_cons_of_mem _ (look?_get h)

theorem map_look {α β : Type} {f : α → β} {g : α → β} : ∀ {L : List α}, L.map f = L.map g → ∀ p ∈ L, f p = g p
  | [], _, p, hp => by simp at hp
  | q :: r, h, p, hp => by
    simp only [List.map_cons, List.cons.injEq] at h
    rcases List.mem_cons.1 hp with rfl | hp
    · exact h.1
    · exact map_look h.2 p hp

theorem look?_inj : ∀ {L : List (Nat × Nat)}, noDup (L.map (·.2)) = true → ∀ id id' j, look? L id = some j → look? L id' = some j → id = id'
  | [], _, _, _, _, h, _ => by simp [look?] at h
  | p :: r, hn, id, id', j, h, h' => by
    simp only [List.map_cons, noDup, Bool.and_eq_true, Bool.not_eq_true'] at hn
    simp only [look?] at h h'
    have out : ∀ k, look? r k = some j → p.2 = j → False := fun k hk e => by
      have := List.mem_map_of_mem (f := fun q : Nat × Nat => q.2) (look?_get hk)
      simp only at this
      rw [memN_true (by rw [e]; exact this)] at hn
      cases hn.1
    cases hb : Nat.beq p.1 id with
    | true =>
      simp [hb] at h
      cases hb' : Nat.beq p.1 id' with
      | true => exact (Nat.eq_of_beq_eq_true hb).symm.trans (Nat.eq_of_beq_eq_true hb')
      | false => simp [hb'] at h'; exact (out id' h' h).elim
    | false =>
      simp [hb] at h
      cases hb' : Nat.beq p.1 id' with
      | true => simp [hb'] at h'; exact (out id h h').elim
      | false => simp [hb'] at h'; exact look?_inj hn.2 id id' j h h'

theorem subR_mk {L : List (Nat × SV)} {E : List (Nat × Entry)} {next : Nat} {s : St} (σL : List (Nat × Nat)) (h1 : L.map (fun p => s.look p.1) = L.map (fun p => (p.2.ren (look? σL)).map (SS.mk none)))
    (h2 : E.map (fun p => (look? σL p.1).bind s.ent) = E.map (fun p => p.2.ren (look? σL)))
    (hL : L.all (fun p => (p.2.ren (look? σL)).isSome && p.2.inUb (memN (keys E))) = true) (hE : E.all (fun p => (p.2.ren (look? σL)).isSome && p.2.inUb (memN (keys E))) = true)
    (hn : noDup (σL.map (·.2)) = true) : SubR (look? σL) (mkSt L E next) s := by
  refine ⟨fun k x hx => ?_, fun id e he => ?_, look?_inj hn⟩
  · simp only [mkSt] at hx
    split at hx
    · rename_i v hv
      cases hx
      have hm := look?_get hv
      have hq := map_look h1 _ hm
      have ha := List.all_eq_true.1 hL _ hm
      simp only [Bool.and_eq_true] at ha
      cases hr : v.ren (look? σL) with
      | none => rw [hr] at ha; cases ha.1
      | some u =>
        simp only [hr, Option.map_some] at hq
        exact ⟨⟨none, u⟩, hq, rfl, rfl, rfl, SV.inUb_sound ha.2⟩
    · cases hx
  · have hm := look?_get he
    have hq := map_look h2 _ hm
    have ha := List.all_eq_true.1 hE _ hm
    simp only [Bool.and_eq_true] at ha
    cases hr : e.ren (look? σL) with
    | none => simp only [hr] at ha; cases ha.1
    | some e' =>
      simp only [hr] at hq
      cases hσ : look? σL id with
      | none => simp [hσ] at hq
      | some j =>
        simp only [hσ, Option.bind_some] at hq
        exact ⟨j, e', rfl, hq, rfl, memN_true (List.mem_map_of_mem (f := fun p : Nat × Entry => p.1) hm), Entry.inUb_sound ha.2⟩

theorem fits_mk {L : List (Nat × SV)} {E : List (Nat × Entry)} {next : Nat} {ids : List Nat} (hk : keys E = ids) : Fits ids (mkSt L E next) := by
  refine ⟨fun id => by simp only [mkSt, hk], fun id hid => ?_, fun id hid => look?_none (by rw [show E.map (·.1) = ids from hk]; exact memN_false hid), fun k z hz => ?_⟩
  · rw [← hk] at hid
    have hm := SX.memN_mem.1 hid
    clear hid hk
    induction E with
    | nil => simp [keys] at hm
    | cons p r ih =>
      simp only [mkSt, look?]
      cases hb : Nat.beq p.1 id with
      | true => exact ⟨_, rfl⟩
      | false =>
        simp only [keys, List.map_cons, List.mem_cons] at hm
        rcases hm with e | hm
        · subst e; simp at hb
        · exact ih hm
  · simp only [mkSt] at hz
    split at hz
    · cases hz; rfl
    · cases hz

theorem fitsX_mk {L : List (Nat × SV)} {E : List (Nat × Entry)} {next : Nat} {h : Shape} (hk : ((keys E).all (memN h.idsX) && h.fx.all (memN (keys E))) = true) : FitsX h (mkSt L E next) := by
  simp only [Bool.and_eq_true, List.all_eq_true] at hk
  refine ⟨fun id hid => SX.memN_mem.1 (hk.1 id (SX.memN_mem.1 hid)), fun id hid => (fits_mk (L := L) (next := next) rfl).hsome id (hk.2 id hid), (fits_mk (E := E) (ids := keys E) rfl).hg⟩

/-- The body of a function's loop number i. -/
def loopAt (fn : Func) (i : Nat) : Code := ((tops (fn.body.getD .skip))[i]?).getD .skip

/-- The only loop of a function. -/
theorem LOk.one {P : Program} {W : Nat → Bool} {F : St → R} {c b : Code} (hc : tops c = [b]) (h : LoopOk P W F b) : LOk P W [F] c :=
  LOk.of_tops c [F] fun i F' b' hF hb => by
    rw [hc] at hb
    cases i with
    | zero => simp at hF hb; subst hF; subst hb; exact h
    | succ i => simp at hF

theorem LOk.fn1 {P : Program} {W : Nat → Bool} {F : St → R} {fn : Func} (ht : tops (fn.body.getD .skip) = [loopAt fn 0]) (h : LoopOk P W F (loopAt fn 0)) : ∀ c, fn.body = some c → LOk P W [F] c := by
  intro c hc
  refine LOk.one (b := loopAt fn 0) ?_ h
  rw [hc] at ht
  exact ht

end Go.SX

/- A symbolic evaluator over the model's own operations, part 12: loops whose rounds are trees. -/
import Derived.Test.YtjncnnpdaeociaaTXb
namespace Go.SX
open Go.RowKit

variable {X : Type}

/-- What one round comes to: another round from x, an end by its number, needs, a test. -/
inductive LT (X : Type) where
  | nrm (x : X) (σ : List (Nat × Nat))
  | ext (j : Nat) (σ : List (Nat × Nat))
  | need (nd : List Bool) (t : LT X)
  | ite (b : Bool) (t e : LT X)

def allT : List Bool → Bool
  | [] => true
  | b :: r => bif b then allT r else false

theorem allT_all : ∀ {l : List Bool}, allT l = true → ∀ b ∈ l, b = true
  | [], _, b, hb => by cases hb
  | a :: r, h, b, hb => by
    cases a with
    | false => cases h
    | true =>
      rcases List.mem_cons.1 hb with rfl | hb
      · rfl
      · exact allT_all (l := r) h b hb

def LT.go {X Z : Type} (k : X → Option Z) (e : Nat → Option Z) : LT X → Option Z
  | .nrm x _ => k x
  | .ext j _ => e j
  | .need nd t => bif allT nd then t.go k e else none
  | .ite b t u => bif b then t.go k e else u.go k e

/-- The rounds: the end's number and where the last round began. -/
def runL {X : Type} (lt : X → LT X) : Nat → X → Option (Nat × X)
  | 0, _ => none
  | n + 1, x => (lt x).go (runL lt n) (fun j => some (j, x))

theorem LT.go_mono {X Z : Type} {k k' : X → Option Z} {e : Nat → Option Z} (hk : ∀ x z, k x = some z → k' x = some z) : ∀ {t : LT X} {z : Z}, t.go k e = some z → t.go k' e = some z
  | .nrm x _, z, h => hk x z h
  | .ext j _, z, h => h
  | .need nd t, z, h => by
    simp only [LT.go] at h ⊢
    cases hn : allT nd with
    | true => simp only [hn, cond_true] at h ⊢; exact LT.go_mono hk h
    | false => simp only [hn, cond_false] at h; cases h
  | .ite b t u, z, h => by
    simp only [LT.go] at h ⊢
    cases b with
    | true => simp only [cond_true] at h ⊢; exact LT.go_mono hk h
    | false => simp only [cond_false] at h ⊢; exact LT.go_mono hk h

theorem runL_succ {X : Type} {lt : X → LT X} : ∀ {n : Nat} {x : X} {z : Nat × X}, runL lt n x = some z → runL lt (n + 1) x = some z
  | 0, _, _, h => by cases h
  | n + 1, x, z, h => by
    rw [runL] at h ⊢
    exact LT.go_mono (fun y z hy => runL_succ (n := n) hy) h

theorem runL_mono {X : Type} {lt : X → LT X} {n m : Nat} {x : X} {z : Nat × X} (hnm : n ≤ m) (h : runL lt n x = some z) : runL lt m x = some z := by
  induction hnm with
  | refl => exact h
  | step _ ih => exact runL_succ ih

theorem runL_uniq {X : Type} {lt : X → LT X} {n m : Nat} {x : X} {z z' : Nat × X} (h : runL lt n x = some z) (h' : runL lt m x = some z') : z = z' := by
  have h1 := runL_mono (Nat.le_max_left n m) h
  have h2 := runL_mono (Nat.le_max_right n m) h'
  rw [h1] at h2
  exact Option.some.inj h2

/-- So it is with every next round. -/
def LT.each (Q : X → Prop) : LT X → Prop
  | .nrm y _ => Q y
  | .ext _ _ => True
  | .need _ t => t.each Q
  | .ite _ t e => t.each Q ∧ e.each Q

theorem LT.go_each {Z : Type} {Q : X → Prop} {k : X → Option Z} {e : Nat → Option Z} : ∀ {t : LT X} {z : Z}, t.each Q → t.go k e = some z → (∃ y, Q y ∧ k y = some z) ∨ ∃ j, e j = some z
  | .nrm y _, z, h, hg => .inl ⟨y, h, hg⟩
  | .ext j _, z, _, hg => .inr ⟨j, hg⟩
  | .need nd t, z, h, hg => by
    simp only [LT.go] at hg
    cases hn : allT nd with
    | true => rw [hn] at hg; exact LT.go_each (t := t) h hg
    | false => rw [hn] at hg; cases hg
  | .ite b t u, z, h, hg => by
    simp only [LT.go] at hg
    cases b with
    | true => exact LT.go_each (t := t) h.1 hg
    | false => exact LT.go_each (t := u) h.2 hg

theorem runL_fix {lt : X → LT X} {fix : X → X → X} (h0 : ∀ z, fix z z = z) (h1 : ∀ x z, (lt x).each fun y => fix x z = fix y z) : ∀ {n : Nat} {x : X} {z : Nat × X}, runL lt n x = some z → fix x z.2 = z.2
  | 0, _, _, h => by cases h
  | n + 1, x, z, h => by
    rw [runL] at h
    rcases LT.go_each (h1 x z.2) h with ⟨y, hy, hz⟩ | ⟨j, hj⟩
    · rw [hy]; exact runL_fix h0 h1 hz
    · cases hj; exact h0 x

/-- A loop's form: its slots, its ends' slots, its rounds, and how it is read off a state. -/
structure Lp (X : Type) where
  h : Shape
  JL : X → List (Nat × SV)
  JE : X → List (Nat × Entry)
  XL : Nat → X → List (Nat × SV)
  XE : Nat → X → List (Nat × Entry)
  q : Nat → Ex
  tags : List Nat
  lt : X → LT X
  fuel : X → Nat
  fix : X → X → X
  σ : List (Nat × Nat)
  rd : St → Option X

def absS (s : St) (L : List (Nat × SV)) : List (Option SS) := L.map fun p => s.look p.1
def absE (σ : List (Nat × Nat)) (s : St) (E : List (Nat × Entry)) : List (Option Entry) := E.map fun p => (look? σ p.1).bind s.ent
def renS (σ : List (Nat × Nat)) (L : List (Nat × SV)) : List (Option SS) := L.map fun p => (p.2.ren (look? σ)).map (SS.mk none)
def renEs (σ : List (Nat × Nat)) (E : List (Nat × Entry)) : List (Option Entry) := E.map fun p => p.2.ren (look? σ)


/-- What of a round's end is looked at. -/
def Lp.absL (p : Lp X) (x : X) : R → LT X → RV
  | .done q s, .nrm y σ => .done q (absS s (p.JL y)) (absE σ s (p.JE y))
  | .done q s, .ext j σ => .done q (absS s (p.XL j x)) (absE σ s (p.XE j x))
  | .need nd r, .need _ t => .need nd (p.absL x r t)
  | .ite b t e, .ite _ t' e' => .ite b (p.absL x t t') (p.absL x e e')
  | _, _ => .none

/-- What is to be seen there. -/
def Lp.absR (p : Lp X) (x : X) : LT X → RV
  | .nrm y σ => .done .normal (renS σ (p.JL y)) (renEs σ (p.JE y))
  | .ext j σ => .done (p.q j) (renS σ (p.XL j x)) (renEs σ (p.XE j x))
  | .need nd t => .need nd (p.absR x t)
  | .ite b t e => .ite b (p.absR x t) (p.absR x e)

def okSub (σ : List (Nat × Nat)) (L : List (Nat × SV)) (E : List (Nat × Entry)) : Bool :=
  L.all (fun p => (p.2.ren (look? σ)).isSome && p.2.inUb (memN (keys E))) && E.all (fun p => (p.2.ren (look? σ)).isSome && p.2.inUb (memN (keys E))) && noDup (σ.map (·.2))

def keeps (σ : List (Nat × Nat)) (l : List Nat) : Bool := l.all fun i => match look? σ i with | some j => Nat.beq i j | none => false

def Ex.isEnd : Ex → Bool
  | .normal => false
  | _ => true

def Lp.okL (p : Lp X) (x : X) : LT X → Bool
  | .nrm y σ => okSub σ (p.JL y) (p.JE y) && keeps σ p.h.fx
  | .ext j σ => okSub σ (p.XL j x) (p.XE j x) && keeps σ p.h.fx && memN p.tags j && (p.q j).isEnd
  | .need _ t => p.okL x t
  | .ite _ t e => p.okL x t && p.okL x e

def Lp.J (p : Lp X) (x : X) : St := mkSt (p.JL x) (p.JE x) 1
def Lp.Jx (p : Lp X) (z : Nat × X) : St := mkSt (p.XL z.1 z.2) (p.XE z.1 z.2) 1

theorem okSub_sub {σ : List (Nat × Nat)} {L : List (Nat × SV)} {E : List (Nat × Entry)} {s : St} (ho : okSub σ L E = true) (h1 : absS s L = renS σ L) (h2 : absE σ s E = renEs σ E) : SubR (look? σ) (mkSt L E 1) s := by
  simp only [okSub, Bool.and_eq_true] at ho
  exact subR_mk σ h1 h2 ho.1.1 ho.1.2 ho.2

theorem keeps_fx {σ : List (Nat × Nat)} {l : List Nat} (h : keeps σ l = true) : ∀ id, memN l id = true → look? σ id = some id := by
  intro id hid
  have := List.all_eq_true.1 h id (SX.memN_mem.1 hid)
  split at this
  · rename_i j hj
    rw [hj, Nat.eq_of_beq_eq_true this]
  · cases this

theorem Lp.round (p : Lp X) {x : X} {Z : Type} {k : X → Option Z} {e : Nat → Option Z} : ∀ {t : LT X} {r : R}, p.absL x r t = p.absR x t → p.okL x t = true → (t.go k e).isSome = true →
    r.sat fun q s' => match q with
      | .normal => ∃ y σ, t.go k e = k y ∧ SubR (look? σ) (p.J y) s' ∧ ∀ id, memN p.h.fx id = true → look? σ id = some id
      | q => ∃ j σ, t.go k e = e j ∧ q = p.q j ∧ memN p.tags j = true ∧ SubR (look? σ) (p.Jx (j, x)) s' ∧ ∀ id, memN p.h.fx id = true → look? σ id = some id
  | .nrm y σ, r, h, ho, _ => by
    cases r with
    | done q s =>
      simp only [Lp.absL, Lp.absR, RV.done.injEq] at h
      obtain ⟨h0, h1, h2⟩ := h
      subst h0
      simp only [Lp.okL, Bool.and_eq_true] at ho
      exact ⟨y, σ, rfl, okSub_sub ho.1 h1 h2, keeps_fx ho.2⟩
    | none => simp [Lp.absL, Lp.absR] at h
    | need nd r => simp [Lp.absL, Lp.absR] at h
    | ite b t e => simp [Lp.absL, Lp.absR] at h
  | .ext j σ, r, h, ho, _ => by
    cases r with
    | done q s =>
      simp only [Lp.absL, Lp.absR, RV.done.injEq] at h
      obtain ⟨h0, h1, h2⟩ := h
      simp only [Lp.okL, Bool.and_eq_true] at ho
      have hx := okSub_sub ho.1.1.1 h1 h2
      have hk := keeps_fx ho.1.1.2
      subst h0
      simp only [R.sat]
      have ht := ho.1.2
      have he := ho.2
      cases hq : p.q j with
      | normal => rw [hq] at he; cases he
      | exit i => exact ⟨j, σ, rfl, hq.symm, ht, hx, hk⟩
      | ret => exact ⟨j, σ, rfl, hq.symm, ht, hx, hk⟩
    | none => simp [Lp.absL, Lp.absR] at h
    | need nd r => simp [Lp.absL, Lp.absR] at h
    | ite b t e => simp [Lp.absL, Lp.absR] at h
  | .need nd t, r, h, ho, hs => by
    cases r with
    | need nd' r =>
      simp only [Lp.absL, Lp.absR, RV.need.injEq] at h
      obtain ⟨rfl, h⟩ := h
      simp only [LT.go] at hs
      cases hn : allT nd' with
      | false => rw [hn] at hs; cases hs
      | true =>
        rw [hn] at hs
        simp only [LT.go, hn, cond_true] at hs ⊢
        exact ⟨allT_all hn, Lp.round p (t := t) h ho hs⟩
    | none => simp [Lp.absL, Lp.absR] at h
    | done q s => simp [Lp.absL, Lp.absR] at h
    | ite b t e => simp [Lp.absL, Lp.absR] at h
  | .ite b t u, r, h, ho, hs => by
    cases r with
    | ite b' t' u' =>
      simp only [Lp.absL, Lp.absR, RV.ite.injEq] at h
      obtain ⟨rfl, h1, h2⟩ := h
      simp only [Lp.okL, Bool.and_eq_true] at ho
      refine ⟨fun hb => ?_, fun hb => ?_⟩
      · subst hb
        exact Lp.round p (t := t) h1 ho.1 hs
      · subst hb
        exact Lp.round p (t := u) h2 ho.2 hs
    | none => simp [Lp.absL, Lp.absR] at h
    | done q s => simp [Lp.absL, Lp.absR] at h
    | need nd r => simp [Lp.absL, Lp.absR] at h

/-- More rounds than any of these loops makes (the test keeps the kernel from looking into it). -/
def big (n : Nat) : Nat := bif Nat.ble n 4294967296 then (n + 1000) ^ 4 else (n + 1000) ^ 4

theorem big_eq (n : Nat) : big n = (n + 1000) ^ 4 := Bool.cond_self _ _

theorem le_big {m n : Nat} (h : m ≤ n + 1000) : m ≤ big n := by
  rw [big_eq]
  exact Nat.le_trans h (Nat.le_self_pow (by decide) _)

/-- The end's number, and where the last round began. -/
def Lp.res (p : Lp X) (x : X) : Nat × X := (runL p.lt (big (p.fuel x)) x).getD (0, x)

/-- It comes to an end. -/
def Lp.fin (p : Lp X) (x : X) : Bool := (runL p.lt (big (p.fuel x)) x).isSome

theorem Lp.run (p : Lp X) {m : Nat} {x : X} {z : Nat × X} (h : runL p.lt m x = some z) (hm : m ≤ big (p.fuel x)) : p.fin x = true ∧ p.res x = z := by
  have := runL_mono hm h
  exact ⟨by unfold Lp.fin; rw [this]; rfl, by unfold Lp.res; rw [this]; rfl⟩

theorem Lp.fin_ex (p : Lp X) {x : X} (h : p.fin x = true) : runL p.lt (big (p.fuel x)) x = some (p.res x) := by
  unfold Lp.fin at h
  obtain ⟨z, hz⟩ := Option.isSome_iff_exists.1 h
  unfold Lp.res
  rw [hz]; rfl

def Lp.ends (p : Lp X) (s : St) (z : Nat × X) : List Nat → R
  | [] => .none
  | j :: r => match r with
    | [] => .done (p.q j) (encL p.h (look? p.σ) (p.Jx (j, z.2)) s)
    | _ :: _ => .ite (Nat.beq z.1 j) (.done (p.q j) (encL p.h (look? p.σ) (p.Jx (j, z.2)) s)) (p.ends s z r)

/-- What the loop comes to. -/
def Lp.F (p : Lp X) (s : St) : R :=
  match p.rd s with
  | some x => bif (p.h.fresh s).all (fun i => !s.used i) then .need [p.fin x] (p.ends s ((p.res x).1, p.fix x (p.res x).2) p.tags) else .none
  | none => .none

theorem Lp.ends_unch (p : Lp X) {s : St} {z : Nat × X} : ∀ {l : List Nat}, (p.ends s z l).all fun _ s' => Unch s s'
  | [] => trivial
  | [_] => encL_unch _ _ _ _
  | _ :: _ :: _ => ⟨encL_unch _ _ _ _, Lp.ends_unch p⟩

theorem Lp.ends_sat (p : Lp X) {s : St} {z : Nat × X} {post : Ex → St → Prop} : ∀ {l : List Nat}, memN l z.1 = true → (p.ends s z l).sat post → post (p.q z.1) (encL p.h (look? p.σ) (p.Jx z) s)
  | [], h, _ => by cases h
  | [j], h, hs => by
    simp only [memN] at h
    cases hb : Nat.beq j z.1 with
    | true => have := Nat.eq_of_beq_eq_true hb; subst this; exact hs
    | false => rw [hb] at h; cases h
  | j :: i :: r, h, hs => by
    simp only [Lp.ends, R.sat] at hs
    simp only [memN] at h
    cases hb : Nat.beq z.1 j with
    | true => have := Nat.eq_of_beq_eq_true hb; subst this; exact hs.1 hb
    | false =>
      have hj : Nat.beq j z.1 = false := by
        cases hc : Nat.beq j z.1 with
        | false => rfl
        | true => have := Nat.eq_of_beq_eq_true hc; subst this; simp at hb
      refine Lp.ends_sat p (l := i :: r) ?_ (hs.2 hb)
      rw [hj, cond_false] at h
      simpa only [memN] using h

/-- **A loop by its form.** -/
theorem Lp.ok {P : Program} {tbl : List (PF P)} {lf : List (St → R)} {W : Nat → Bool} {b : Code} (hmix : P.follows .mixedOrders = true) (p : Lp X)
    (hD : (p.h.D.all W) = true) (hl : LOk P (memN p.h.D) lf b) (hJ : ∀ x, keys (p.JE x) = p.h.ids) (hX : ∀ j x, ((keys (p.XE j x)).all (memN p.h.idsX) && p.h.fx.all (memN (keys (p.XE j x)))) = true)
    (hv : ∀ x, p.absL x (exec P tbl (memN p.h.D) lf b (p.J x)) (p.lt x) = p.absR x (p.lt x)) (hok : ∀ x, p.okL x (p.lt x) = true)
    (hrd : ∀ s x, p.rd s = some x → absS s (p.JL x) = renS p.σ (p.JL x) ∧ absE p.σ s (p.JE x) = renEs p.σ (p.JE x)) (hσ : ∀ x, okSub p.σ (p.JL x) (p.JE x) = true)
    (h0 : ∀ z, p.fix z z = z) (h1 : ∀ x z, (p.lt x).each fun y => p.fix x z = p.fix y z) : LoopOk P W p.F b := by
  refine LoopOk.mk' (tbl := tbl) (lf := lf) (h := p.h) (J := p.J) (Jx := fun _ => p.Jx) hmix (List.all_eq_true.1 hD) hl
    (fun m x => (runL p.lt m x).isSome = true) (fun x q z => q = p.q z.1 ∧ memN p.tags z.1 = true ∧ ∃ m, runL p.lt m x = some z) (fun x => fits_mk (hJ x)) (fun _ z => fitsX_mk (hX z.1 z.2)) ?_ p.F ?_
  · intro m x hI
    cases m with
    | zero => cases hI
    | succ m =>
      rw [runL] at hI
      refine R.sat_mono (fun q s' hq => ?_) (p.round (hv x) (hok x) hI)
      cases q with
      | normal =>
        obtain ⟨y, σ, hg, hsub, hfx⟩ := hq
        refine ⟨m, y, look? σ, by omega, by rw [hg] at hI; exact hI, fun q z ⟨h1, h2, n, hn⟩ => ⟨h1, h2, ?_⟩, hsub, hfx⟩
        cases hr : runL p.lt m y with
        | none => rw [hg, hr] at hI; cases hI
        | some z' =>
          have := runL_uniq hn hr
          subst this
          exact ⟨m + 1, by rw [runL, hg, hr]⟩
      | exit i =>
        obtain ⟨j, σ, hg, h1, h2, hsub, hfx⟩ := hq
        exact ⟨(j, x), look? σ, ⟨h1, h2, m + 1, by rw [runL, hg]⟩, hsub, hfx⟩
      | ret =>
        obtain ⟨j, σ, hg, h1, h2, hsub, hfx⟩ := hq
        exact ⟨(j, x), look? σ, ⟨h1, h2, m + 1, by rw [runL, hg]⟩, hsub, hfx⟩
  · intro s
    unfold Lp.F
    cases hr : p.rd s with
    | none => exact .inl rfl
    | some x =>
      cases hfr : (p.h.fresh s).all (fun i => !s.used i) with
      | false => exact .inl (by simp only [cond_false])
      | true =>
        refine .inr ⟨[p.fin x], x, look? p.σ, p.ends s ((p.res x).1, p.fix x (p.res x).2) p.tags, by simp only [cond_true], p.ends_unch, okSub_sub (hσ x) (hrd s x hr).1 (hrd s x hr).2, rfl, fun hn => ?_⟩
        have hs := hn _ (List.mem_singleton.2 rfl)
        have hz0 := p.fin_ex hs
        rw [runL_fix h0 h1 hz0] at *
        refine ⟨⟨big (p.fuel x), by rw [hz0]; rfl⟩, ?_⟩
        rintro q z ⟨rfl, ht, m, hm⟩ post hp
        rw [← runL_uniq hm hz0] at hp
        exact p.ends_sat ht hp

theorem absS_cons {s : St} {σ : List (Nat × Nat)} {k : Nat} {v u : SV} {L : List (Nat × SV)} (h : s.look k = some ⟨none, u⟩) (hv : v.ren (look? σ) = some u) (hr : absS s L = renS σ L) : absS s ((k, v) :: L) = renS σ ((k, v) :: L) := by
  have h1 : absS s ((k, v) :: L) = s.look k :: absS s L := rfl
  have h2 : renS σ ((k, v) :: L) = (v.ren (look? σ)).map (SS.mk none) :: renS σ L := rfl
  rw [h1, h2, h, hv, hr]; rfl

theorem absE_cons {s : St} {σ : List (Nat × Nat)} {id j : Nat} {e e' : Entry} {L : List (Nat × Entry)} (hj : look? σ id = some j) (h : s.ent j = some e') (he : e.ren (look? σ) = some e') (hr : absE σ s L = renEs σ L) : absE σ s ((id, e) :: L) = renEs σ ((id, e) :: L) := by
  have h1 : absE σ s ((id, e) :: L) = (look? σ id).bind s.ent :: absE σ s L := rfl
  have h2 : renEs σ ((id, e) :: L) = e.ren (look? σ) :: renEs σ L := rfl
  rw [h1, h2, hj, he, hr, Option.bind_some, h]

/-- Loop number i of a code. -/
def loopIn (c : Code) (i : Nat) : Code := ((tops c)[i]?).getD .skip

/-- Two readings of a loop. -/
theorem LoopOk.or {P : Program} {W : Nat → Bool} {b : Code} {F G : St → R} (hF : LoopOk P W F b) (hG : LoopOk P W G b) : LoopOk P W (fun s => match F s with | .none => G s | r => r) b := by
  refine ⟨fun B s post hB hp => ?_, fun s => ?_⟩
  · cases h : F s with
    | none => simp only [h] at hp; exact hG.ok B s post hB hp
    | done q s' => simp only [h] at hp; exact hF.ok B s post hB (by rw [h]; exact hp)
    | need nd r => simp only [h] at hp; exact hF.ok B s post hB (by rw [h]; exact hp)
    | ite c t e => simp only [h] at hp; exact hF.ok B s post hB (by rw [h]; exact hp)
  · have h1 := hF.un s
    have h2 := hG.un s
    cases h : F s with
    | none => simpa only [h] using h2
    | done q s' => rw [h] at h1; simpa only [h] using h1
    | need nd r => rw [h] at h1; simpa only [h] using h1
    | ite c t e => rw [h] at h1; simpa only [h] using h1

/-- The loops of a code, one after the other. -/
inductive LAll (P : Program) (W : Nat → Bool) : List (St → R) → List Code → Prop where
  | nil (l : List Code) : LAll P W [] l
  | cons {F : St → R} {b : Code} {lf : List (St → R)} {l : List Code} (h : LoopOk P W F b) (r : LAll P W lf l) : LAll P W (F :: lf) (b :: l)

theorem LAll.get {P : Program} {W : Nat → Bool} {lf : List (St → R)} {l : List Code} (h : LAll P W lf l) : ∀ (i : Nat) (F : St → R) (b : Code), lf[i]? = some F → l[i]? = some b → LoopOk P W F b := by
  induction h with
  | nil l => intro i F b hF; simp at hF
  | cons h r ih =>
    intro i F b hF hb
    cases i with
    | zero => simp at hF hb; subst hF; subst hb; exact h
    | succ i => exact ih i F b (by simpa using hF) (by simpa using hb)

theorem LOk.all {P : Program} {W : Nat → Bool} {lf : List (St → R)} {c : Code} (h : LAll P W lf (tops c)) : LOk P W lf c := LOk.of_tops c lf h.get

theorem LOk.allT {P : Program} {W : Nat → Bool} {lf : List (St → R)} {c : Code} {l : List Code} (ht : tops c = l) (h : LAll P W lf l) : LOk P W lf c := LOk.all (by rw [ht]; exact h)

theorem LoopOk.no {P : Program} {W : Nat → Bool} {b : Code} : LoopOk P W (fun _ => .none) b := ⟨fun _ _ _ _ hp => hp.elim, fun _ => trivial⟩

theorem LOk.fnT {P : Program} {W : Nat → Bool} {lf : List (St → R)} {fn : Func} {l : List Code} (ht : tops (fn.body.getD .skip) = l) (h : LAll P W lf l) : ∀ c, fn.body = some c → LOk P W lf c := by
  intro c hc
  rw [hc] at ht
  exact LOk.allT ht h

theorem LOk.fn {P : Program} {W : Nat → Bool} {lf : List (St → R)} {fn : Func} (h : LAll P W lf (tops (fn.body.getD .skip))) : ∀ c, fn.body = some c → LOk P W lf c := by
  intro c hc
  rw [hc] at h
  exact LOk.all h

end Go.SX

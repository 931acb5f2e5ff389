/- A symbolic evaluator over the model's own operations, part 9: code, and functions that hold no loop. -/
import Derived.Test.YtofbpbijfhfnoaaSX8
import Derived.Deep.LoopGhost
namespace Go.SX
open Go.RowKit

inductive Ex where
  | normal
  | exit (id : Nat)
  | ret

def Ex.out : Ex → Exit
  | .normal => .normal
  | .exit id => .exit id
  | .ret => .ret

inductive R where
  | none
  | done (x : Ex) (s : St)
  | need (nd : List Bool) (r : R)
  | ite (b : Bool) (t e : R)

def R.bind : R → (St → R) → R
  | .none, _ => .none
  | .done .normal s, f => f s
  | .done x s, _ => .done x s
  | .need nd r, f => .need nd (r.bind f)
  | .ite b t e, f => .ite b (t.bind f) (e.bind f)

def Ex.inBlock (id : Nat) : Ex → Ex
  | .exit k => bif Nat.beq k id then .normal else .exit k
  | x => x

def R.inBlock (id : Nat) : R → R
  | .none => .none
  | .done x s => .done (x.inBlock id) s
  | .need nd r => .need nd (r.inBlock id)
  | .ite b t e => .ite b (t.inBlock id) (e.inBlock id)

def mergeSS (b : Bool) : Option SS → Option SS → Option SS
  | some ⟨none, v⟩, some ⟨none, v'⟩ => (mergeSV b v v').map (⟨none, ·⟩)
  | _, _ => none

def mergeEnt (b : Bool) : Option Entry → Option Entry → Option Entry
  | some (.box T c), some (.box T' c') => bif Nat.beq T T' then (mergeCells b c c').map (.box T) else none
  | _, _ => none

def keepSS : Option SS → Option SS → Option SS
  | some ⟨none, v⟩, some ⟨none, _⟩ => some ⟨none, v⟩
  | _, _ => none

def keepEnt : Option Entry → Option Entry → Option Entry
  | some x, some _ => some x
  | _, _ => none

def St.reset (s : St) : St := { s with log := [], logE := [] }

def mergeSt (b : Bool) (s s1 s2 : St) : St :=
  { look := fun k => bif memN s1.log k || memN s2.log k then mergeSS b (s1.look k) (s2.look k) else keepSS (s1.look k) (s2.look k)
    ent := fun k => bif memN s1.logE k || memN s2.logE k then mergeEnt b (s1.ent k) (s2.ent k) else keepEnt (s1.ent k) (s2.ent k)
    used := fun k => s1.used k || s2.used k
    wr := fun _ => false
    next := Nat.max s1.next s2.next
    log := s1.log ++ (s2.log ++ s.log)
    logE := s1.logE ++ (s2.logE ++ s.logE) }

/-- No slot and no variable that both know is lost. -/
def mergeable (b : Bool) (s1 s2 : St) : Bool :=
  (s1.log ++ s2.log).all (fun k => match s1.look k, s2.look k with
    | some ⟨none, v⟩, some ⟨none, v'⟩ => (mergeSV b v v').isSome
    | _, _ => true) &&
  (s1.logE ++ s2.logE).all (fun k => match s1.ent k, s2.ent k with
    | some (.box T c), some (.box T' c') => Nat.beq T T' && (mergeCells b c c').isSome
    | _, _ => true)

def R.relog (s : St) : R → R
  | .none => .none
  | .done x s' => .done x { s' with log := s'.log ++ s.log, logE := s'.logE ++ s.logE }
  | .need nd r => .need nd (r.relog s)
  | .ite b t e => .ite b (t.relog s) (e.relog s)

def mkIte0 (b : Bool) (s : St) (t e : R) : R :=
  match t, e with
  | .done .normal s1, .done .normal s2 => bif mergeable b s1 s2 then .done .normal (mergeSt b s s1 s2) else .ite b (R.relog s (.done .normal s1)) (R.relog s (.done .normal s2))
  | t, e => .ite b (t.relog s) (e.relog s)

def R.needs : R → List Bool
  | .need nd r => nd ++ r.needs
  | _ => []

def R.core : R → R
  | .need _ r => r.core
  | r => r

def mkNeed (nd : List Bool) (r : R) : R :=
  match nd with
  | [] => r
  | l => .need l r

def mkIte (b : Bool) (s : St) (t e : R) : R :=
  mkNeed (t.needs.map (fun n => !b || n) ++ e.needs.map (fun n => b || n)) (mkIte0 b s t.core e.core)

/-- How many loops stand in the code, those within loops not counted. -/
def nl : Code → Nat
  | .seq x y => nl x + nl y
  | .cond _ x y => nl x + nl y
  | .block _ c => nl c
  | .scope c => nl c
  | .loop _ => 1
  | _ => 0

/-- 'lf': what each loop comes to, in the order of the text. -/
def exec (P : Program) (tbl : List (PF P)) (W : Nat → Bool) : List (St → R) → Code → St → R
  | _, .skip, s => .done .normal s
  | _, .region _ ops draw, s => match execRegion P tbl W s ops.toList draw with
    | some (s', nd) => mkNeed nd (.done .normal s')
    | none => .none
  | lf, .seq x y, s => (exec P tbl W lf x s).bind (exec P tbl W (lf.drop (nl x)) y)
  | lf, .cond c x y, s => match ev s [] c with
    | some (.one ⟨false, [.val (.bool b)]⟩) => mkIte b s (exec P tbl W lf x s.reset) (exec P tbl W (lf.drop (nl x)) y s.reset)
    | _ => .none
  | lf, .block id c, s => (exec P tbl W lf c s).inBlock id
  | _, .exit id, s => .done (.exit id) s
  | lf, .scope c, s => exec P tbl W lf c s
  | _, .label _, s => .done .normal s
  | _, .ret, s => .done .ret s
  | lf, .loop _, s => match lf with
    | F :: _ => F s
    | [] => .none
  | _, _, _ => .none

def R.sat (post : Ex → St → Prop) : R → Prop
  | .none => False
  | .done x s => post x s
  | .need nd r => (∀ b ∈ nd, b = true) ∧ r.sat post
  | .ite b t e => (b = true → t.sat post) ∧ (b = false → e.sat post)

/-- From whatever fits the state, the code comes to an end that the post allows. -/
def Sat (P : Program) (B : Base) (c : Code) (s : St) (post : Ex → St → Prop) : Prop :=
  ∀ ρ a w, Mdl B ρ s a w → c.wp P (fun e a' w' => ∃ x s' ρ', e = Ex.out x ∧ (∀ id, s.used id = true → ρ' id = ρ id) ∧ Mdl B ρ' s' a' w' ∧ post x s') a w

structure Unch (s s' : St) : Prop where
  look : ∀ k, k ∉ s'.log → s'.look k = s.look k ∨ s'.look k = none
  ent : ∀ k, k ∉ s'.logE → s'.ent k = s.ent k
  log : ∀ k ∈ s.log, k ∈ s'.log
  logE : ∀ k ∈ s.logE, k ∈ s'.logE
  used : ∀ k, s.used k = true → s'.used k = true

def R.all (post : Ex → St → Prop) : R → Prop
  | .none => True
  | .done x s => post x s
  | .need _ r => r.all post
  | .ite _ t e => t.all post ∧ e.all post

/-- What a loop comes to is what it does. -/
structure LoopOk (P : Program) (W : Nat → Bool) (F : St → R) (b : Code) : Prop where
  ok : ∀ (B : Base) (s : St) (post : Ex → St → Prop), B.W = W → (F s).sat post → Sat P B (.loop b) s post
  un : ∀ s, (F s).all fun _ s' => Unch s s'

def LOk (P : Program) (W : Nat → Bool) : List (St → R) → Code → Prop
  | lf, .seq x y => LOk P W lf x ∧ LOk P W (lf.drop (nl x)) y
  | lf, .cond _ x y => LOk P W lf x ∧ LOk P W (lf.drop (nl x)) y
  | lf, .block _ c => LOk P W lf c
  | lf, .scope c => LOk P W lf c
  | lf, .loop b => ∀ F r, lf = F :: r → LoopOk P W F b
  | _, _ => True

def tops : Code → List Code
  | .seq x y => tops x ++ tops y
  | .cond _ x y => tops x ++ tops y
  | .block _ c => tops c
  | .scope c => tops c
  | .loop b => [b]
  | _ => []

section
variable {P : Program} {tbl : List (PF P)} {s s' s1 s2 : St} {W : Nat → Bool} {lf : List (St → R)} {B : Base} {ρ : Nm} {a : Act} {w : World} {post post' : Ex → St → Prop}

theorem R.sat_mono (hp : ∀ x s, post x s → post' x s) : ∀ {r : R}, r.sat post → r.sat post'
  | .none, h => h
  | .done x s, h => hp x s h
  | .need _ _, h => ⟨h.1, R.sat_mono hp h.2⟩
  | .ite _ _ _, h => ⟨fun hb => R.sat_mono hp (h.1 hb), fun hb => R.sat_mono hp (h.2 hb)⟩

theorem R.all_mono {p q : Ex → St → Prop} (hp : ∀ x s, p x s → q x s) : ∀ {r : R}, r.all p → r.all q
  | .none, _ => trivial
  | .done x s, h => hp x s h
  | .need _ r, h => R.all_mono (r := r) hp h
  | .ite _ _ _, h => ⟨R.all_mono hp h.1, R.all_mono hp h.2⟩

theorem R.sat_bind {f : St → R} : ∀ {r : R}, (r.bind f).sat post → r.sat (fun x s => match x with | .normal => (f s).sat post | x => post x s)
  | .none, h => h
  | .done .normal _, h => h
  | .done (.exit _) _, h => h
  | .done .ret _, h => h
  | .need _ _, h => ⟨h.1, R.sat_bind h.2⟩
  | .ite _ _ _, h => ⟨fun hb => R.sat_bind (h.1 hb), fun hb => R.sat_bind (h.2 hb)⟩

theorem R.sat_inBlock {id : Nat} : ∀ {r : R}, (r.inBlock id).sat post → r.sat (fun x s => post (x.inBlock id) s)
  | .none, h => h
  | .done _ _, h => h
  | .need _ _, h => ⟨h.1, R.sat_inBlock h.2⟩
  | .ite _ _ _, h => ⟨fun hb => R.sat_inBlock (h.1 hb), fun hb => R.sat_inBlock (h.2 hb)⟩

/-! ### What is not in the logs is as it was -/

theorem tops_nl : ∀ c : Code, (tops c).length = nl c
  | .seq x y => by simp [tops, nl, tops_nl x, tops_nl y]
  | .cond _ x y => by simp [tops, nl, tops_nl x, tops_nl y]
  | .block _ c => by simp [tops, nl, tops_nl c]
  | .scope c => by simp [tops, nl, tops_nl c]
  | .loop _ | .skip | .region .. | .rangeFunc .. | .exit _ | .label _ | .goto _ | .ret | .refuse _ => rfl

theorem LOk.of_tops : ∀ (c : Code) (lf : List (St → R)), (∀ (i : Nat) (F : St → R) (b : Code), lf[i]? = some F → (tops c)[i]? = some b → LoopOk P W F b) → LOk P W lf c
  | .seq x y, lf, h => by
    refine ⟨LOk.of_tops x lf fun i F b hF hb => h i F b hF ?_, LOk.of_tops y _ fun i F b hF hb => h (nl x + i) F b (by simpa using hF) ?_⟩
    · simp only [tops]; rw [List.getElem?_append_left (List.getElem?_eq_some_iff.1 hb).1]; exact hb
    · simp only [tops]; rw [List.getElem?_append_right (by rw [tops_nl]; omega), tops_nl]; simpa using hb
  | .cond _ x y, lf, h => by
    refine ⟨LOk.of_tops x lf fun i F b hF hb => h i F b hF ?_, LOk.of_tops y _ fun i F b hF hb => h (nl x + i) F b (by simpa using hF) ?_⟩
    · simp only [tops]; rw [List.getElem?_append_left (List.getElem?_eq_some_iff.1 hb).1]; exact hb
    · simp only [tops]; rw [List.getElem?_append_right (by rw [tops_nl]; omega), tops_nl]; simpa using hb
  | .block _ c, lf, h => LOk.of_tops c lf h
  | .scope c, lf, h => LOk.of_tops c lf h
  | .loop b, lf, h => fun F r hl => h 0 F b (by simp [hl]) rfl
  | .skip, _, _ | .region .., _, _ | .rangeFunc .., _, _ | .exit _, _, _ | .label _, _, _ | .goto _, _, _ | .ret, _, _ | .refuse _, _, _ => trivial

theorem LOk.nil (c : Code) : LOk P W [] c := LOk.of_tops c [] fun i F b hF => by simp at hF

theorem Unch.refl (s : St) : Unch s s := ⟨fun _ _ => .inl rfl, fun _ _ => rfl, fun _ h => h, fun _ h => h, fun _ h => h⟩

theorem Unch.trans (h : Unch s s1) (h' : Unch s1 s2) : Unch s s2 := by
  refine ⟨fun k hk => ?_, fun k hk => ?_, fun k hk => h'.log k (h.log k hk), fun k hk => h'.logE k (h.logE k hk), fun k hk => h'.used k (h.used k hk)⟩
  · rcases h'.look k hk with e | e
    · rw [e]; exact h.look k fun hh => hk (h'.log k hh)
    · exact .inr e
  · rw [h'.ent k hk]; exact h.ent k fun hh => hk (h'.logE k hh)

theorem mem_dstsOf {k : Nat} : ∀ {l : List Inf} {j : Nat} {y : Inf}, l[j]? = some y → y.d.dst = some k → k ∈ dstsOf l
  | [], _, _, h, _ => by simp at h
  | x :: r, 0, y, h, hk => by simp at h; subst h; simp [dstsOf, hk]
  | x :: r, j + 1, y, h, hk => by
    have := mem_dstsOf (l := r) (j := j) (by simpa using h) hk
    simp only [dstsOf]; split <;> simp [this]

theorem mem_widsOf {k : Nat} : ∀ {l : List Inf} {j : Nat} {y : Inf}, l[j]? = some y → k ∈ wids y.d → k ∈ widsOf l
  | [], _, _, h, _ => by simp at h
  | x :: r, 0, y, h, hk => by simp at h; subst h; simp only [widsOf, List.mem_append]; exact .inl hk
  | x :: r, j + 1, y, h, hk => by
    have := mem_widsOf (l := r) (j := j) (by simpa using h) hk
    simp only [widsOf, List.mem_append]; exact .inr this

theorem applyD_log {D : Nat → Bool} : ∀ (l : List Inf) (k : Nat) (s : St), (applyD D k l s).log = s.log ∧ (applyD D k l s).logE = s.logE
  | [], _, _ => ⟨rfl, rfl⟩
  | y :: r, k, s => by
    simp only [applyD]
    rw [(applyD_log r _ _).1, (applyD_log r _ _).2]
    cases D k <;> exact ⟨rfl, rfl⟩

theorem applyD_false : ∀ (l : List Inf) (k : Nat) (s : St), applyD (fun _ => false) k l s = s
  | [], _, _ => rfl
  | _ :: r, k, s => applyD_false r (k + 1) s

theorem clean_look (s : St) (k : Nat) : s.clean.look k = s.look k ∨ s.clean.look k = none := by
  simp only [St.clean]
  split
  · rename_i v h; exact .inl h.symm
  · exact .inr rfl

theorem execRegion_unch {ops : List Oper} {draw : Bool} {nd : List Bool} (h : execRegion P tbl W s ops draw = some (s', nd)) : Unch s s' := by
  unfold execRegion at h
  split at h
  · rename_i s1 l hl
    cases hb : (!draw || indep ops l) with
    | false => simp [hb] at h
    | true =>
      simp only [hb, cond_true, Option.some.injEq, Prod.mk.injEq] at h
      obtain ⟨h, _⟩ := h
      subst h
      obtain ⟨_, hs1, _⟩ := runT_at ops 0 _ _ _ hl
      refine ⟨fun k hk => ?_, fun k hk => ?_, fun k hk => ?_, fun k hk => ?_, fun k hk => ?_⟩
      · simp only [St.fin, List.mem_append, not_or] at hk
        have h1 := (agree_look (D := fun _ => true) (D' := fun _ => false) (t := k) l 0 s.clean s.clean rfl rfl fun j y hy hyd => absurd (mem_dstsOf hy hyd) hk.1).1
        rw [applyD_false] at h1
        have h2 : (s1.fin ops.length l).look k = s1.clean.look k := rfl
        rw [h2]
        rcases clean_look s1 k with e | e
        · rw [e, hs1, h1]; exact clean_look s k
        · exact .inr e
      · simp only [St.fin, List.mem_append, not_or] at hk
        have h1 := (agree_ent (D := fun _ => true) (D' := fun _ => false) (t := k) l 0 s.clean s.clean rfl rfl fun j y hy hyd => absurd (mem_widsOf hy hyd) hk.1).1
        rw [applyD_false] at h1
        show s1.ent k = s.ent k
        rw [hs1, h1]; rfl
      · show k ∈ dstsOf l ++ s1.log
        rw [hs1, (applyD_log l 0 _).1]; exact List.mem_append_right _ hk
      · show k ∈ widsOf l ++ s1.logE
        rw [hs1, (applyD_log l 0 _).2]; exact List.mem_append_right _ hk
      · show s1.used k = true
        rw [hs1]; exact applyD_used l 0 _ hk
  · cases h

theorem mergeSt_unch {b : Bool} (h1 : Unch s.reset s1) (h2 : Unch s.reset s2) : Unch s (mergeSt b s s1 s2) := by
  refine ⟨fun k hk => ?_, fun k hk => ?_, fun k hk => ?_, fun k hk => ?_, fun k hk => (by have := h1.used k hk; simp [mergeSt, this])⟩
  · simp only [mergeSt, List.mem_append, not_or] at hk ⊢
    have e1 : memN s1.log k = false := by cases h : memN s1.log k with | false => rfl | true => exact absurd (agree_ent.memN_mem h) hk.1
    have e2 : memN s2.log k = false := by cases h : memN s2.log k with | false => rfl | true => exact absurd (agree_ent.memN_mem h) hk.2.1
    simp only [e1, e2, Bool.or_self, cond_false]
    unfold keepSS
    split
    · rename_i v v' e e'
      rcases h1.look k hk.1 with q | q
      · exact .inl (by rw [← e, q]; rfl)
      · rw [q] at e; cases e
    · exact .inr rfl
  · simp only [mergeSt, List.mem_append, not_or] at hk ⊢
    have e1 : memN s1.logE k = false := by cases h : memN s1.logE k with | false => rfl | true => exact absurd (agree_ent.memN_mem h) hk.1
    have e2 : memN s2.logE k = false := by cases h : memN s2.logE k with | false => rfl | true => exact absurd (agree_ent.memN_mem h) hk.2.1
    simp only [e1, e2, Bool.or_self, cond_false]
    rw [h1.ent k hk.1, h2.ent k hk.2.1]
    show keepEnt (s.ent k) (s.ent k) = s.ent k
    cases s.ent k <;> rfl
  · exact List.mem_append_right _ (List.mem_append_right _ hk)
  · exact List.mem_append_right _ (List.mem_append_right _ hk)

theorem R.all_bind {f : St → R} (hf : ∀ s1, Unch s s1 → (f s1).all fun _ s2 => Unch s1 s2) : ∀ {r : R}, r.all (fun _ s1 => Unch s s1) → (r.bind f).all fun _ s2 => Unch s s2
  | .none, _ => trivial
  | .done .normal s1, h => by
    have key : ∀ r : R, r.all (fun _ s2 => Unch s1 s2) → r.all (fun _ s2 => Unch s s2) := by
      intro r
      induction r with
      | none => exact fun _ => trivial
      | done x s2 => exact fun h' => h.trans h'
      | need nd r ih => exact ih
      | ite b t e iht ihe => exact fun h' => ⟨iht h'.1, ihe h'.2⟩
    exact key _ (hf s1 h)
  | .done (.exit _) _, h => h
  | .done .ret _, h => h
  | .need _ r, h => R.all_bind (r := r) hf h
  | .ite _ _ _, h => ⟨R.all_bind hf h.1, R.all_bind hf h.2⟩

theorem R.all_inBlock {id : Nat} : ∀ {r : R}, r.all (fun _ s1 => Unch s s1) → (r.inBlock id).all fun _ s1 => Unch s s1
  | .none, _ => trivial
  | .done _ _, h => h
  | .need _ r, h => R.all_inBlock (r := r) h
  | .ite _ _ _, h => ⟨R.all_inBlock h.1, R.all_inBlock h.2⟩

theorem R.all_relog : ∀ {r : R}, r.all (fun _ s1 => Unch s.reset s1) → (r.relog s).all fun _ s1 => Unch s s1
  | .none, _ => trivial
  | .done _ _, h => ⟨fun k hk => h.look k fun hh => hk (List.mem_append_left _ hh), fun k hk => h.ent k fun hh => hk (List.mem_append_left _ hh),
      fun _ hk => List.mem_append_right _ hk, fun _ hk => List.mem_append_right _ hk, h.used⟩
  | .need _ r, h => R.all_relog (r := r) h
  | .ite _ _ _, h => ⟨R.all_relog h.1, R.all_relog h.2⟩

theorem R.all_core {post : Ex → St → Prop} : ∀ {r : R}, r.all post → r.core.all post
  | .none, h => h
  | .done _ _, h => h
  | .need _ r, h => R.all_core (r := r) h
  | .ite _ _ _, h => h

theorem R.all_mkNeed {post : Ex → St → Prop} {nd : List Bool} {r : R} (h : r.all post) : (mkNeed nd r).all post := by
  cases nd <;> exact h

theorem R.sat_mkNeed {nd : List Bool} {r : R} (h : (mkNeed nd r).sat post) : (∀ b ∈ nd, b = true) ∧ r.sat post := by
  cases nd with
  | nil => exact ⟨by simp, h⟩
  | cons x l => exact h

theorem R.sat_core : ∀ {r : R}, (∀ b ∈ r.needs, b = true) → r.core.sat post → r.sat post
  | .none, _, h => h
  | .done _ _, _, h => h
  | .need nd r, hn, h => ⟨fun b hb => hn b (by simp only [R.needs, List.mem_append]; exact .inl hb), R.sat_core (r := r) (fun b hb => hn b (by simp only [R.needs, List.mem_append]; exact .inr hb)) h⟩
  | .ite _ _ _, _, h => h

theorem R.all_mkIte {b : Bool} {t e : R} (ht : t.all fun _ s1 => Unch s.reset s1) (he : e.all fun _ s1 => Unch s.reset s1) : (mkIte b s t e).all fun _ s1 => Unch s s1 := by
  unfold mkIte
  refine R.all_mkNeed ?_
  replace ht := R.all_core ht
  replace he := R.all_core he
  generalize t.core = t at *
  generalize e.core = e at *
  unfold mkIte0
  split
  · rename_i s1 s2
    cases mergeable b s1 s2 with
    | true => exact mergeSt_unch ht he
    | false => exact ⟨R.all_relog (r := .done .normal s1) ht, R.all_relog (r := .done .normal s2) he⟩
  · exact ⟨R.all_relog ht, R.all_relog he⟩

theorem exec_unch : ∀ (lf : List (St → R)) (c : Code) (s : St), LOk P W lf c → (exec P tbl W lf c s).all fun _ s' => Unch s s'
  | _, .skip, s, _ => Unch.refl s
  | _, .region _ ops draw, s, _ => by
    simp only [exec]
    split
    · rename_i s' nd h; exact R.all_mkNeed (execRegion_unch h)
    · trivial
  | lf, .seq x y, s, hl => R.all_bind (fun s1 _ => exec_unch _ y s1 hl.2) (exec_unch lf x s hl.1)
  | lf, .cond c x y, s, hl => by
    simp only [exec]
    split
    · exact R.all_mkIte (exec_unch lf x s.reset hl.1) (exec_unch _ y s.reset hl.2)
    · trivial
  | lf, .block id c, s, hl => R.all_inBlock (exec_unch lf c s hl)
  | _, .exit id, s, _ => Unch.refl s
  | lf, .scope c, s, hl => by simp only [exec]; exact exec_unch lf c s hl
  | _, .label _, s, _ => Unch.refl s
  | _, .ret, s, _ => Unch.refl s
  | [], .loop _, _, _ => trivial
  | F :: r, .loop b, s, hl => (hl F r rfl).un s
  | _, .rangeFunc .., _, _ => by simp only [exec]; trivial
  | _, .goto _, _, _ => by simp only [exec]; trivial
  | _, .refuse _, _, _ => by simp only [exec]; trivial

/-! ### Two ways meet -/

theorem mem_or {l l' : List Nat} {k : Nat} (h : (memN l k || memN l' k) = false) : k ∉ l ∧ k ∉ l' := by
  simp only [Bool.or_eq_false_iff] at h
  exact ⟨memN_false h.1, memN_false h.2⟩

theorem mergeSS_some {b : Bool} {x y : Option SS} {z : SS} (h : mergeSS b x y = some z) : ∃ v v' u, x = some ⟨none, v⟩ ∧ y = some ⟨none, v'⟩ ∧ z = ⟨none, u⟩ ∧ mergeSV b v v' = some u := by
  unfold mergeSS at h
  split at h
  · rename_i v v'
    cases hm : mergeSV b v v' with
    | none => simp [hm] at h
    | some u => simp [hm] at h; subst h; exact ⟨v, v', u, rfl, rfl, rfl, hm⟩
  · cases h

theorem keepSS_some {x y : Option SS} {z : SS} (h : keepSS x y = some z) : ∃ v v', x = some ⟨none, v⟩ ∧ y = some ⟨none, v'⟩ ∧ z = ⟨none, v⟩ := by
  unfold keepSS at h
  split at h
  · rename_i v v'; cases h; exact ⟨v, v', rfl, rfl, rfl⟩
  · cases h

theorem mergeEnt_some {b : Bool} {x y : Option Entry} {z : Entry} (h : mergeEnt b x y = some z) : ∃ T c c' u, x = some (.box T c) ∧ y = some (.box T c') ∧ z = .box T u ∧ mergeCells b c c' = some u := by
  unfold mergeEnt at h
  split at h
  · rename_i T c T' c'
    cases hT : Nat.beq T T' with
    | false => simp [hT] at h
    | true =>
      have := Nat.eq_of_beq_eq_true hT; subst this
      cases hm : mergeCells b c c' with
      | none => simp [hm] at h
      | some u => simp [hm] at h; subst h; exact ⟨T, c, c', u, rfl, rfl, rfl, hm⟩
  · cases h

theorem keepEnt_some {x y : Option Entry} {z : Entry} (h : keepEnt x y = some z) : x = some z ∧ ∃ z', y = some z' := by
  unfold keepEnt at h
  split at h
  · rename_i u v; cases h; exact ⟨rfl, v, rfl⟩
  · cases h

theorem mergeSV_inU' {U : Nat → Bool} {c : Bool} {a b v : SV} (hb : b.inU U) (h : mergeSV c a b = some v) : v.inU U := by
  have hc : ∀ {x y z : Cell}, y.inU U → mergeCell c x y = some z → z.inU U := by
    intro x y z hy h
    unfold mergeCell at h
    split at h
    · rename_i p q
      cases hm : mergeVal c p q with
      | none => simp [hm] at h
      | some u => simp [hm] at h; subst h; trivial
    · rename_i i o i' o'
      cases hbq : (Nat.beq i i' && Nat.beq o o') with
      | false => simp [hbq] at h
      | true =>
        simp [hbq] at h; subst h
        simp only [Bool.and_eq_true] at hbq
        rw [Nat.eq_of_beq_eq_true hbq.1]; exact hy
    · cases h
  have hcs : ∀ {as bs vs : List Cell}, (∀ x ∈ bs, x.inU U) → mergeCells c as bs = some vs → ∀ x ∈ vs, x.inU U := by
    intro as
    induction as with
    | nil => intro bs vs _ h; cases bs <;> simp [mergeCells] at h; subst h; simp
    | cons a as ih =>
      intro bs vs hbs h
      cases bs with
      | nil => simp [mergeCells] at h
      | cons b bs =>
        simp only [mergeCells] at h
        split at h
        · rename_i x xs hx hxs
          cases h
          intro y hy
          rcases List.mem_cons.1 hy with rfl | hy
          · exact hc (hbs _ (by simp)) hx
          · exact ih (fun z hz => hbs z (by simp [hz])) hxs y hy
        · cases h
  have hv : ∀ {x y z : V1}, y.inU U → mergeV1 c x y = some z → z.inU U := by
    intro x y z hy h
    unfold mergeV1 at h
    split at h
    all_goals first
      | cases h
      | (cases hm : mergeCells c x.cs y.cs with
         | none => simp [hm] at h
         | some u => simp [hm] at h; subst h; exact hcs hy hm)
  have hvs : ∀ {as bs vs : List V1}, (∀ x ∈ bs, x.inU U) → mergeV1s c as bs = some vs → ∀ x ∈ vs, x.inU U := by
    intro as
    induction as with
    | nil => intro bs vs _ h; cases bs <;> simp [mergeV1s] at h; subst h; simp
    | cons a as ih =>
      intro bs vs hbs h
      cases bs with
      | nil => simp [mergeV1s] at h
      | cons b bs =>
        simp only [mergeV1s] at h
        split at h
        · rename_i x xs hx hxs
          cases h
          intro y hy
          rcases List.mem_cons.1 hy with rfl | hy
          · exact hv (hbs _ (by simp)) hx
          · exact ih (fun z hz => hbs z (by simp [hz])) hxs y hy
        · cases h
  unfold mergeSV at h
  split at h
  · rename_i x y
    cases hm : mergeV1 c x y with
    | none => simp [hm] at h
    | some u => simp [hm] at h; subst h; exact hv hb hm
  · rename_i x y
    cases hm : mergeV1s c x y with
    | none => simp [hm] at h
    | some u => simp [hm] at h; subst h; exact hvs hb hm
  · cases h

theorem mergeSt_true (h2 : Mdl B ρ s1 a w) : Mdl B ρ (mergeSt true s s1 s2) a w := by
  have hmono : ∀ id, s1.used id = true → (mergeSt true s s1 s2).used id = true := fun id h => by simp [mergeSt, h]
  have look : ∀ k x, (mergeSt true s s1 s2).look k = some x → x.g = none ∧ a.tmps[k]? = some (x.v.conc ρ) ∧ x.v.inU s1.used := by
    intro k x hx
    simp only [mergeSt] at hx
    cases hb : (memN s1.log k || memN s2.log k) with
    | true =>
      simp only [hb, cond_true] at hx
      obtain ⟨v, v', u, e1, _, rfl, hm⟩ := mergeSS_some hx
      refine ⟨rfl, ?_, mergeSV_inU (h2.hu k _ e1) hm⟩
      rw [h2.hs k _ e1]
      simp only [SS.at]
      rw [mergeSV_sound ρ hm]; rfl
    | false =>
      simp only [hb, cond_false] at hx
      obtain ⟨v, v', e1, _, rfl⟩ := keepSS_some hx
      exact ⟨rfl, by rw [h2.hs k _ e1]; rfl, h2.hu k _ e1⟩
  have ent : ∀ k e, (mergeSt true s s1 s2).ent k = some e → (∃ e0, s1.ent k = some e0) ∧ e.holds B ρ w k ∧ s1.used k = true ∧ e.inU s1.used := by
    intro k e he
    simp only [mergeSt] at he
    cases hb : (memN s1.logE k || memN s2.logE k) with
    | true =>
      simp only [hb, cond_true] at he
      obtain ⟨T, c, c', u, e1, _, rfl, hm⟩ := mergeEnt_some he
      obtain ⟨q1, q2, q3⟩ := h2.he k _ e1
      refine ⟨⟨_, e1⟩, ?_, q2, mergeCells_inU q3 hm⟩
      simp only [Entry.holds] at q1 ⊢
      rw [(mergeCells_sound ρ hm).1]; exact q1
    | false =>
      simp only [hb, cond_false] at he
      obtain ⟨e1, _⟩ := keepEnt_some he
      exact ⟨⟨_, e1⟩, h2.he k _ e1⟩
  refine ⟨h2.hd, h2.hn, fun k x hx => ?_, fun k x j b hx hj => ?_, fun k x hx => SV.inU_mono hmono (look k x hx).2.2, fun id e he => ?_, fun id id' e e' he he' hr => ?_, h2.hf, h2.hl⟩
  · obtain ⟨g0, h0, _⟩ := look k x hx
    obtain ⟨g, v⟩ := x
    simp only at g0; subst g0; exact h0
  · rw [(look k x hx).1] at hj; cases hj
  · obtain ⟨_, q1, q2, q3⟩ := ent id e he
    exact ⟨q1, hmono _ q2, Entry.inU_mono hmono q3⟩
  · obtain ⟨⟨e0, h0⟩, _⟩ := ent id e he
    obtain ⟨⟨e1, h1⟩, _⟩ := ent id' e' he'
    exact h2.hi _ _ _ _ h0 h1 hr

theorem mergeSt_false (hu1 : Unch s.reset s1) (hu2 : Unch s.reset s2) (h2 : Mdl B ρ s2 a w) : Mdl B ρ (mergeSt false s s1 s2) a w := by
  have hmono : ∀ id, s2.used id = true → (mergeSt false s s1 s2).used id = true := fun id h => by simp [mergeSt, h]
  have look : ∀ k x, (mergeSt false s s1 s2).look k = some x → x.g = none ∧ a.tmps[k]? = some (x.v.conc ρ) ∧ x.v.inU s2.used := by
    intro k x hx
    simp only [mergeSt] at hx
    cases hb : (memN s1.log k || memN s2.log k) with
    | true =>
      simp only [hb, cond_true] at hx
      obtain ⟨v, v', u, _, e1, rfl, hm⟩ := mergeSS_some hx
      refine ⟨rfl, ?_, mergeSV_inU' (h2.hu k _ e1) hm⟩
      rw [h2.hs k _ e1]
      simp only [SS.at]
      rw [mergeSV_sound ρ hm]; rfl
    | false =>
      simp only [hb, cond_false] at hx
      obtain ⟨v, v', e1, e2, rfl⟩ := keepSS_some hx
      obtain ⟨n1, n2⟩ := mem_or hb
      have hvv : v = v' := by
        rcases hu1.look k n1 with q | q
        · rcases hu2.look k n2 with q' | q'
          · rw [q] at e1; rw [q', e1] at e2; cases e2; rfl
          · rw [q'] at e2; cases e2
        · rw [q] at e1; cases e1
      subst hvv
      exact ⟨rfl, by rw [h2.hs k _ e2]; rfl, h2.hu k _ e2⟩
  have ent : ∀ k e, (mergeSt false s s1 s2).ent k = some e → (∃ e0, s2.ent k = some e0) ∧ e.holds B ρ w k ∧ s2.used k = true ∧ e.inU s2.used := by
    intro k e he
    simp only [mergeSt] at he
    cases hb : (memN s1.logE k || memN s2.logE k) with
    | true =>
      simp only [hb, cond_true] at he
      obtain ⟨T, c, c', u, _, e1, rfl, hm⟩ := mergeEnt_some he
      obtain ⟨q1, q2, q3⟩ := h2.he k _ e1
      have hin : ∀ x ∈ u, x.inU s2.used := by
        have := mergeSV_inU' (U := s2.used) (c := false) (a := .one ⟨true, c⟩) (b := .one ⟨true, c'⟩) (v := .one ⟨true, u⟩) q3 (by simp [mergeSV, mergeV1, hm])
        exact this
      refine ⟨⟨_, e1⟩, ?_, q2, hin⟩
      simp only [Entry.holds] at q1 ⊢
      rw [(mergeCells_sound ρ hm).1]; exact q1
    | false =>
      simp only [hb, cond_false] at he
      obtain ⟨e1, e2, he2⟩ := keepEnt_some he
      obtain ⟨n1, n2⟩ := mem_or hb
      have : s2.ent k = s1.ent k := by rw [hu1.ent k n1, hu2.ent k n2]
      rw [e1] at this
      exact ⟨⟨_, this⟩, h2.he k _ this⟩
  refine ⟨h2.hd, h2.hn, fun k x hx => ?_, fun k x j b hx hj => ?_, fun k x hx => SV.inU_mono hmono (look k x hx).2.2, fun id e he => ?_, fun id id' e e' he he' hr => ?_, h2.hf, h2.hl⟩
  · obtain ⟨g0, h0, _⟩ := look k x hx
    obtain ⟨g, v⟩ := x
    simp only at g0; subst g0; exact h0
  · rw [(look k x hx).1] at hj; cases hj
  · obtain ⟨_, q1, q2, q3⟩ := ent id e he
    exact ⟨q1, hmono _ q2, Entry.inU_mono hmono q3⟩
  · obtain ⟨⟨e0, h0⟩, _⟩ := ent id e he
    obtain ⟨⟨e1, h1⟩, _⟩ := ent id' e' he'
    exact h2.hi _ _ _ _ h0 h1 hr

theorem Mdl.reset (h : Mdl B ρ s a w) : Mdl B ρ s.reset a w := ⟨h.hd, h.hn, h.hs, h.hg, h.hu, h.he, h.hi, h.hf, h.hl⟩
theorem Mdl.relog (h : Mdl B ρ s a w) (l l' : List Nat) : Mdl B ρ { s with log := l, logE := l' } a w := ⟨h.hd, h.hn, h.hs, h.hg, h.hu, h.he, h.hi, h.hf, h.hl⟩

theorem R.sat_relog : ∀ {r : R}, (r.relog s).sat post → r.sat (fun x s' => post x { s' with log := s'.log ++ s.log, logE := s'.logE ++ s.logE })
  | .none, h => h
  | .done _ _, h => h
  | .need _ _, h => ⟨h.1, R.sat_relog h.2⟩
  | .ite _ _ _, h => ⟨fun hb => R.sat_relog (h.1 hb), fun hb => R.sat_relog (h.2 hb)⟩

theorem R.sat_and {p q : Ex → St → Prop} : ∀ {r : R}, r.sat p → r.all q → r.sat fun x s => p x s ∧ q x s
  | .none, h, _ => h
  | .done _ _, h, h' => ⟨h, h'⟩
  | .need _ r, h, h' => ⟨h.1, R.sat_and (r := r) h.2 h'⟩
  | .ite _ _ _, h, h' => ⟨fun hb => R.sat_and (h.1 hb) h'.1, fun hb => R.sat_and (h.2 hb) h'.2⟩

theorem exec_used (lf : List (St → R)) (c : Code) (s : St) (hl : LOk P W lf c) : (exec P tbl W lf c s).all fun _ s' => ∀ id, s.used id = true → s'.used id = true :=
  R.all_mono (fun _ _ h => h.used) (exec_unch lf c s hl)

/-- **What the evaluator comes to is what the code does.** -/
theorem exec_sound (hmix : P.follows .mixedOrders = true) : ∀ (lf : List (St → R)) (c : Code) (s : St) (post : Ex → St → Prop), LOk P B.W lf c → (exec P tbl B.W lf c s).sat post → Sat P B c s post
  | _, .skip, s, post, _, h, ρ, a, w, hM => wp_skip ⟨.normal, s, ρ, rfl, fun _ _ => rfl, hM, h⟩
  | _, .region id ops draw, s, post, _, h, ρ, a, w, hM => by
    simp only [exec] at h
    split at h
    · rename_i s' nd hs'
      obtain ⟨hnd, h⟩ := R.sat_mkNeed h
      have := execRegion_sound (id := id) (Q := fun e a' w' => ∃ x s' ρ', e = Ex.out x ∧ (∀ id, s.used id = true → ρ' id = ρ id) ∧ Mdl B ρ' s' a' w' ∧ post x s') hmix hs' hnd hM fun ρ' a' w' hag hM' => ⟨.normal, s', ρ', rfl, hag, hM', h⟩
      simpa using this
    · exact h.elim
  | lf, .seq x y, s, post, hl, h, ρ, a, w, hM => by
    have hx := R.sat_and (R.sat_bind h) (exec_used (P := P) (tbl := tbl) (W := B.W) lf x s hl.1)
    refine wp_seq (wp_mono (exec_sound hmix lf x s _ hl.1 hx ρ a w hM) fun e a' w' ⟨q, s', ρ', he, hag, hM', hp, hus⟩ => ?_)
    subst he
    cases q with
    | normal =>
      refine wp_mono (exec_sound hmix _ y s' post hl.2 hp ρ' a' w' hM') fun e a'' w'' ⟨q, s'', ρ'', he, hag', hM'', hp'⟩ => ?_
      exact ⟨q, s'', ρ'', he, fun id hid => (hag' id (hus id hid)).trans (hag id hid), hM'', hp'⟩
    | exit id => exact ⟨.exit id, s', ρ', rfl, hag, hM', hp⟩
    | ret => exact ⟨.ret, s', ρ', rfl, hag, hM', hp⟩
  | lf, .cond c x y, s, post, hl, h, ρ, a, w, hM => by
    simp only [exec] at h
    split at h
    · rename_i b hb
      have hc : a.eval c = .bool b := ev_conc hM (by simp) hb
      have hx := exec_unch (P := P) (tbl := tbl) (W := B.W) lf x s.reset hl.1
      have hy := exec_unch (P := P) (tbl := tbl) (W := B.W) _ y s.reset hl.2
      unfold mkIte at h
      obtain ⟨hnd, h⟩ := R.sat_mkNeed h
      have hn1 : b = true → ∀ n ∈ (exec P tbl B.W lf x s.reset).needs, n = true := fun hbt n hn => by
        have := hnd (!b || n) (by simp only [List.mem_append]; exact .inl (List.mem_map_of_mem hn))
        simpa [hbt] using this
      have hn2 : b = false → ∀ n ∈ (exec P tbl B.W (lf.drop (nl x)) y s.reset).needs, n = true := fun hbt n hn => by
        have := hnd (b || n) (by simp only [List.mem_append]; exact .inr (List.mem_map_of_mem hn))
        simpa [hbt] using this
      replace hx := R.all_core hx
      replace hy := R.all_core hy
      unfold mkIte0 at h
      split at h
      · rename_i s1 s2 e1 e2
        rw [e1] at hx; rw [e2] at hy
        cases hm : mergeable b s1 s2 with
        | true =>
          simp only [hm, cond_true] at h
          refine wp_cond hc ?_
          cases b with
          | true =>
            refine wp_mono (exec_sound hmix lf x s.reset (fun q s' => q = .normal ∧ s' = s1) hl.1 (R.sat_core (hn1 rfl) (by rw [e1]; exact ⟨rfl, rfl⟩)) ρ a w hM.reset) fun e a' w' ⟨q, s', ρ', he, hag, hM', hq, hs'⟩ => ?_
            subst hq; subst hs'
            exact ⟨.normal, _, ρ', he, hag, mergeSt_true hM', h⟩
          | false =>
            refine wp_mono (exec_sound hmix _ y s.reset (fun q s' => q = .normal ∧ s' = s2) hl.2 (R.sat_core (hn2 rfl) (by rw [e2]; exact ⟨rfl, rfl⟩)) ρ a w hM.reset) fun e a' w' ⟨q, s', ρ', he, hag, hM', hq, hs'⟩ => ?_
            subst hq; subst hs'
            exact ⟨.normal, _, ρ', he, hag, mergeSt_false hx hy hM', h⟩
        | false =>
          simp only [hm, cond_false] at h
          rw [← e1, ← e2] at h
          refine wp_cond hc ?_
          cases b with
          | true =>
            refine wp_mono (exec_sound hmix lf x s.reset _ hl.1 (R.sat_core (hn1 rfl) (R.sat_relog (h.1 rfl))) ρ a w hM.reset) fun e a' w' ⟨q, s', ρ', he, hag, hM', hp⟩ => ?_
            exact ⟨q, _, ρ', he, hag, hM'.relog _ _, hp⟩
          | false =>
            refine wp_mono (exec_sound hmix _ y s.reset _ hl.2 (R.sat_core (hn2 rfl) (R.sat_relog (h.2 rfl))) ρ a w hM.reset) fun e a' w' ⟨q, s', ρ', he, hag, hM', hp⟩ => ?_
            exact ⟨q, _, ρ', he, hag, hM'.relog _ _, hp⟩
      · refine wp_cond hc ?_
        cases b with
        | true =>
          refine wp_mono (exec_sound hmix lf x s.reset _ hl.1 (R.sat_core (hn1 rfl) (R.sat_relog (h.1 rfl))) ρ a w hM.reset) fun e a' w' ⟨q, s', ρ', he, hag, hM', hp⟩ => ?_
          exact ⟨q, _, ρ', he, hag, hM'.relog _ _, hp⟩
        | false =>
          refine wp_mono (exec_sound hmix _ y s.reset _ hl.2 (R.sat_core (hn2 rfl) (R.sat_relog (h.2 rfl))) ρ a w hM.reset) fun e a' w' ⟨q, s', ρ', he, hag, hM', hp⟩ => ?_
          exact ⟨q, _, ρ', he, hag, hM'.relog _ _, hp⟩
    · exact h.elim
  | lf, .block id c, s, post, hl, h, ρ, a, w, hM => by
    refine wp_block (wp_mono (exec_sound hmix lf c s _ hl (R.sat_inBlock h) ρ a w hM) fun e a' w' ⟨q, s', ρ', he, hag, hM', hp⟩ => ?_)
    subst he
    cases q with
    | normal => exact ⟨.normal, s', ρ', rfl, hag, hM', hp⟩
    | ret => exact ⟨.ret, s', ρ', rfl, hag, hM', hp⟩
    | exit k =>
      simp only [Ex.out, Exit.inBlock]
      simp only [Ex.inBlock] at hp
      cases hk : Nat.beq k id with
      | true =>
        have := Nat.eq_of_beq_eq_true hk; subst this
        simp only [hk, cond_true] at hp
        simp only [if_true]; exact ⟨.normal, s', ρ', rfl, hag, hM', hp⟩
      | false =>
        have hne : k ≠ id := fun e => by subst e; simp at hk
        simp only [hk, cond_false] at hp
        simp only [hne, if_false]; exact ⟨.exit k, s', ρ', rfl, hag, hM', hp⟩
  | _, .exit id, s, post, _, h, ρ, a, w, hM => wp_exit ⟨.exit id, s, ρ, rfl, fun _ _ => rfl, hM, h⟩
  | lf, .scope c, s, post, hl, h, ρ, a, w, hM => by
    simp only [exec] at h
    refine wp_scope_straight (wp_mono (exec_sound hmix lf c s post hl h ρ a w hM) fun e a' w' hh => ?_)
    obtain ⟨q, s', ρ', he, hag, hM', hp⟩ := hh
    subst he
    cases q <;> exact ⟨_, s', ρ', rfl, hag, hM', hp⟩
  | _, .label _, s, post, _, h, ρ, a, w, hM => wp_label ⟨.normal, s, ρ, rfl, fun _ _ => rfl, hM, h⟩
  | _, .ret, s, post, _, h, ρ, a, w, hM => wp_ret ⟨.ret, s, ρ, rfl, fun _ _ => rfl, hM, h⟩
  | [], .loop _, s, post, _, h, _, _, _, _ => by simp only [exec] at h; exact h.elim
  | F :: r, .loop b, s, post, hl, h, ρ, a, w, hM => (hl F r rfl).ok B s post rfl (by simpa only [exec] using h) ρ a w hM
  | _, .rangeFunc .., s, post, _, h, _, _, _, _ => by simp only [exec] at h; exact h.elim
  | _, .goto _, s, post, _, h, _, _, _, _ => by simp only [exec] at h; exact h.elim
  | _, .refuse _, s, post, _, h, _, _, _, _ => by simp only [exec] at h; exact h.elim

/-! ### A loop -/

/-- What a state says that knows less. -/
structure Sub (t s : St) : Prop where
  look : ∀ k x, t.look k = some x → s.look k = some x ∧ x.g = none ∧ x.v.inU t.used
  ent : ∀ id e, t.ent id = some e → s.ent id = some e ∧ t.used id = true ∧ e.inU t.used

theorem Sub.mdl (h : Sub s1 s2) (hM : Mdl B ρ s2 a w) : Mdl B ρ s1 a w :=
  ⟨hM.hd, hM.hn, fun k x hx => hM.hs k x (h.look k x hx).1, fun k x j b hx hj => (by rw [(h.look k x hx).2.1] at hj; cases hj), fun k x hx => (h.look k x hx).2.2,
    fun id e he => ⟨(hM.he id e (h.ent id e he).1).1, (h.ent id e he).2⟩, fun id id' e e' he he' => hM.hi id id' e e' (h.ent id e he).1 (h.ent id' e' he').1, hM.hf, hM.hl⟩

/-- A loop, by a relation that bears a number, which every round lowers; what the relation names keeps its place. -/
theorem Sat.loop {b : Code} (U : Nat → Bool) (I : Nat → St → Prop) (hU : ∀ m s, I m s → ∀ id, U id = true → s.used id = true)
    (round : ∀ m s, I m s → Sat P B b s fun x s' => match x with | .normal => ∃ m' s'', m' < m ∧ I m' s'' ∧ Sub s'' s' | x => post x s')
    (m : Nat) (s : St) (h : I m s) (hM : Mdl B ρ s a w) : (Code.loop b).wp P (fun e a' w' => ∃ x s' ρ', e = Ex.out x ∧ (∀ id, U id = true → ρ' id = ρ id) ∧ Mdl B ρ' s' a' w' ∧ post x s') a w := by
  refine Go.wp_loop_ghost (fun m a w => ∃ s ρ', I m s ∧ (∀ id, U id = true → ρ' id = ρ id) ∧ Mdl B ρ' s a w) m ⟨s, ρ, h, fun _ _ => rfl, hM⟩ fun m a w ⟨s, ρ1, hI, hag, hM⟩ => ?_
  refine wp_mono (round m s hI ρ1 a w hM) fun e a' w' ⟨x, s', ρ', he, hag', hM', hp⟩ => ?_
  subst he
  have hagg : ∀ id, U id = true → ρ' id = ρ id := fun id hid => (hag' id (hU m s hI id hid)).trans (hag id hid)
  cases x with
  | normal =>
    obtain ⟨m', s'', hlt, hI', hsub⟩ := hp
    exact ⟨m', hlt, s'', ρ', hI', hagg, hsub.mdl hM'⟩
  | exit id => exact ⟨.exit id, s', ρ', rfl, hagg, hM', hp⟩
  | ret => exact ⟨.ret, s', ρ', rfl, hagg, hM', hp⟩

/-! ### A loop by a state of its own: the slots that its body writes (D), the variables that it may write (ids), all else as it stands around it -/

/-- The state behind the loop: of the slots in D and the variables in ids what y says, of all else what s says. -/
def encL (D ids : List Nat) (y s : St) : St :=
  { look := fun k => bif memN D k then y.look k else s.clean.look k
    ent := fun k => bif memN ids k then y.ent k else s.ent k
    used := s.used, wr := fun _ => false, next := s.next, log := D ++ s.log, logE := ids ++ s.logE }

theorem memN_not {l : List Nat} {k : Nat} (h : k ∉ l) : memN l k = false := by
  cases hm : memN l k with
  | false => rfl
  | true => exact absurd (agree_ent.memN_mem hm) h

theorem encL_unch (D ids : List Nat) (y s : St) : Unch s (encL D ids y s) := by
  refine ⟨fun k hk => ?_, fun k hk => ?_, fun k hk => List.mem_append_right _ hk, fun k hk => List.mem_append_right _ hk, fun _ h => h⟩
  · simp only [encL, List.mem_append, not_or] at hk ⊢
    simp only [memN_not hk.1, cond_false]
    exact clean_look s k
  · simp only [encL, List.mem_append, not_or] at hk ⊢
    simp only [memN_not hk.1, cond_false]

/-- **A loop.** J: the relation's states; each knows no more than ids. The round is shown from J's states alone; what stands around them stays. -/
theorem LoopOk.mk' (hmix : P.follows .mixedOrders = true) {b : Code} {D ids : List Nat} {X Y : Type} {J : X → St} {Jx : Ex → Y → St} {lf : List (St → R)} (hD : ∀ k ∈ D, W k = true)
    (hl : LOk P (memN D) lf b) (Inv : Nat → X → Prop) (fin : X → Ex → Y → Prop)
    (hJ : ∀ x, (∀ id, (J x).used id = memN ids id) ∧ (∀ id, memN ids id = true → ((J x).ent id).isSome = true) ∧ (∀ id, memN ids id = false → (J x).ent id = none) ∧ (∀ k, memN D k = true → ∀ z, (J x).look k = some z → z.g = none))
    (hJx : ∀ q x, (∀ id, (Jx q x).used id = memN ids id) ∧ (∀ id, memN ids id = true → ((Jx q x).ent id).isSome = true) ∧ (∀ id, memN ids id = false → (Jx q x).ent id = none) ∧ (∀ k, memN D k = true → ∀ z, (Jx q x).look k = some z → z.g = none))
    (round : ∀ m x, Inv m x → (exec P tbl (memN D) lf b (J x)).sat fun r s' => match r with
      | .normal => ∃ m' x', m' < m ∧ Inv m' x' ∧ (∀ q z, fin x' q z → fin x q z) ∧ Sub (J x') s'
      | r => ∃ z, fin x r z ∧ Sub (Jx r z) s')
    (F : St → R) (hF : ∀ s, F s = .none ∨ ∃ nd x Ro, F s = .need nd Ro ∧ (Ro.all fun _ s' => Unch s s') ∧ Sub (J x) s ∧ ((∀ n ∈ nd, n = true) → (∃ m, Inv m x) ∧ ∀ q z, fin x q z → ∀ post : Ex → St → Prop, Ro.sat post → post q (encL D ids (Jx q z) s))) :
    LoopOk P W F b := by
  refine ⟨fun B s post hBW h ρ a w hM => ?_, fun s => ?_⟩
  · rcases hF s with h0 | ⟨nd, x, Ro, h0, _, hsub, hnd⟩
    · rw [h0] at h; exact h.elim
    · rw [h0] at h
      obtain ⟨hn, hp⟩ := h
      obtain ⟨⟨m, hInv⟩, huniq⟩ := hnd hn
      -- the base of the loop alone
      obtain ⟨own, hown, hown'⟩ : ∃ own : Nat → Bool, (∀ id, memN ids id = true → own (ρ id) = true) ∧ (∀ blk, own blk = true → ∃ id, memN ids id = true ∧ ρ id = blk) := by
        refine ⟨fun blk => ids.any fun id => Nat.beq (ρ id) blk, fun id hid => ?_, fun blk h => ?_⟩
        · simp only [List.any_eq_true]
          exact ⟨id, agree_ent.memN_mem hid, by simp⟩
        · simp only [List.any_eq_true] at h
          obtain ⟨id, h1, h2⟩ := h
          exact ⟨id, memN_true h1, Nat.eq_of_beq_eq_true h2⟩
      have hWn : ∀ k, memN D k = true → k < B.n := fun k hk => (B.hW k (by rw [hBW]; exact hD k (agree_ent.memN_mem hk))).1
      let B' : Base := ⟨B.n, w, fun blk => bif own blk then none else w.heap[blk]?, fun k => bif memN D k then none else a.tmps[k]?, memN D, fun k hk => ⟨hWn k hk, by simp [hk]⟩⟩
      have hMs := hsub.mdl hM
      have hM' : Mdl B' ρ (J x) a w := by
        refine ⟨hMs.hd, hMs.hn, hMs.hs, hMs.hg, hMs.hu, fun id e he => ?_, hMs.hi, ⟨rfl, rfl, rfl, Nat.le_refl _, fun blk o h => ?_⟩, fun k v hv => ?_⟩
        · obtain ⟨h1, h2, h3⟩ := hMs.he id e he
          refine ⟨?_, h2, h3⟩
          have hid : memN ids id = true := by rw [← (hJ x).1 id]; exact h2
          cases e with
          | box T cs => exact ⟨h1.1, by simp only [B', hown id hid, cond_true]⟩
        · simp only [B'] at h
          cases ho : own blk with
          | true => simp [ho] at h
          | false => simpa [ho] using h
        · simp only [B'] at hv
          cases ho : memN D k with
          | true => simp [ho] at hv
          | false => simpa [ho] using hv
      have hloop := Sat.loop (P := P) (B := B') (post := fun r s' => ∃ z, fin x r z ∧ Sub (Jx r z) s') (memN ids) (fun m s => ∃ x', s = J x' ∧ Inv m x' ∧ ∀ q z, fin x' q z → fin x q z)
        (fun m s ⟨x', hs, _, _⟩ id hid => by rw [hs, (hJ x').1 id]; exact hid)
        (fun m s ⟨x', hs, hI, hfin⟩ => by
          subst hs
          refine exec_sound (tbl := tbl) hmix lf b (J x') _ hl (R.sat_mono (fun r s' hr => ?_) (round m x' hI))
          cases r with
          | normal =>
            obtain ⟨m', x'', hlt, hI', hf', hsub'⟩ := hr
            exact ⟨m', J x'', hlt, ⟨x'', rfl, hI', fun q z hz => hfin q z (hf' q z hz)⟩, hsub'⟩
          | exit id => obtain ⟨z, hz, hs⟩ := hr; exact ⟨z, hfin _ z hz, hs⟩
          | ret => obtain ⟨z, hz, hs⟩ := hr; exact ⟨z, hfin _ z hz, hs⟩)
        m (J x) ⟨x, rfl, hInv, fun _ _ h => h⟩ hM'
      refine wp_mono hloop fun e a' w' ⟨r, s', ρ', he, hag, hM2, y, hy, hsub2⟩ => ?_
      have hpp := huniq r y hy post hp
      obtain ⟨Jy, hJy⟩ : ∃ Jy, Jy = Jx r y := ⟨_, rfl⟩
      have hJ' := hJx r y
      rw [← hJy] at hsub2 hpp hJ'
      have hMy := hsub2.mdl hM2
      have hagJ : ∀ id, Jy.used id = true → ρ id = ρ' id := fun id hid => (hag id (by rw [← hJ'.1 id]; exact hid)).symm
      have hids : ∀ id, memN ids id = true → ∃ e, s.ent id = some e := fun id hid => by
        have := (hJ x).2.1 id hid
        cases hq : (J x).ent id with
        | none => simp [hq] at this
        | some e => exact ⟨e, (hsub.ent id e hq).1⟩
      have hused : ∀ id, Jy.used id = true → s.used id = true := fun id hid => by
        obtain ⟨e, he⟩ := hids id (by rw [← hJ'.1 id]; exact hid)
        exact (hM.he id e he).2.1
      -- all other blocks and slots are as they were
      have hkeep : ∀ blk, own blk = false → ∀ o, w.heap[blk]? = some o → w'.heap[blk]? = some o := fun blk ho o h =>
        hM2.hf.mem blk o (by simp only [B', ho, cond_false]; exact h)
      have hslot : ∀ k, memN D k = false → ∀ v, a.tmps[k]? = some v → a'.tmps[k]? = some v := fun k hk v hv =>
        hM2.hl k v (by simp only [B', hk, cond_false]; exact hv)
      have look : ∀ k z, (encL D ids Jy s).look k = some z → z.g = none ∧ a'.tmps[k]? = some (z.v.conc ρ) ∧ z.v.inU s.used := by
        intro k z hz
        simp only [encL] at hz
        cases hk : memN D k with
        | true =>
          simp only [hk, cond_true] at hz
          have hg := hJ'.2.2.2 k hk z hz
          have hs := hMy.hs k z hz
          have hu := hMy.hu k z hz
          refine ⟨hg, ?_, SV.inU_mono hused hu⟩
          rw [hs]
          simp only [SS.at, hg]
          rw [SV.conc_congr hagJ hu]
        | false =>
          simp only [hk, cond_false] at hz
          have hMc := hM.clean
          have hs := hMc.hs k z hz
          have hg : z.g = none := by
            simp only [St.clean] at hz
            split at hz
            · cases hz; rfl
            · cases hz
          refine ⟨hg, ?_, hMc.hu k z hz⟩
          simp only [SS.at, hg] at hs
          exact hslot k hk _ hs
      have ent : ∀ id e, (encL D ids Jy s).ent id = some e → e.holds B ρ w' id ∧ s.used id = true ∧ e.inU s.used ∧ ∃ e0, s.ent id = some e0 := by
        intro id e he
        simp only [encL] at he
        cases hk : memN ids id with
        | true =>
          simp only [hk, cond_true] at he
          obtain ⟨h1, h2, h3⟩ := hMy.he id e he
          obtain ⟨e0, he0⟩ := hids id hk
          have h0 := (hM.he id e0 he0).1
          refine ⟨?_, hused id h2, Entry.inU_mono hused h3, e0, he0⟩
          have hB : B.mem (ρ id) = none := by cases e0 with | box T0 c0 => exact h0.2
          cases e with
          | box T cs =>
            simp only [Entry.holds] at h1 ⊢
            rw [hagJ id h2]
            rw [map_conc_congr hagJ h3]
            refine ⟨h1.1, ?_⟩
            rw [← hagJ id h2]; exact hB
        | false =>
          simp only [hk, cond_false] at he
          obtain ⟨h1, h2, h3⟩ := hM.he id e he
          refine ⟨?_, h2, h3, e, he⟩
          have hno : own (ρ id) = false := by
            cases ho : own (ρ id) with
            | false => rfl
            | true =>
              obtain ⟨id', hid', hr⟩ := hown' _ ho
              obtain ⟨e0, he0⟩ := hids id' hid'
              have := hM.hi id' id e0 e he0 he hr
              subst this
              rw [hid'] at hk; cases hk
          cases e with
          | box T cs => exact ⟨hkeep _ hno _ h1.1, h1.2⟩
      refine ⟨r, encL D ids Jy s, ρ, he, fun _ _ => rfl, ?_, hpp⟩
      refine ⟨hM2.hd, hM2.hn, fun k z hz => ?_, fun k z j bb hz hj => ?_, fun k z hz => (look k z hz).2.2, fun id e he => ⟨(ent id e he).1, (ent id e he).2.1, (ent id e he).2.2.1⟩, fun id id' e e' he he' hr => ?_,
        ⟨hM2.hf.os.trans hM.hf.os, hM2.hf.tape.trans hM.hf.tape, hM2.hf.output.trans hM.hf.output, Nat.le_trans hM.hf.size hM2.hf.size, fun blk o hb => ?_⟩, fun k v hv => ?_⟩
      · obtain ⟨g0, h0, _⟩ := look k z hz
        rw [h0]; simp only [SS.at, g0]
      · rw [(look k z hz).1] at hj; cases hj
      · obtain ⟨_, _, _, e0, h0⟩ := ent id e he
        obtain ⟨_, _, _, e1, h1⟩ := ent id' e' he'
        exact hM.hi _ _ _ _ h0 h1 hr
      · refine hkeep blk ?_ o (hM.hf.mem blk o hb)
        cases ho : own blk with
        | false => rfl
        | true =>
          obtain ⟨id, hid, hr⟩ := hown' blk ho
          obtain ⟨e0, he0⟩ := hids id hid
          have h0 := (hM.he id e0 he0).1
          have hB : B.mem (ρ id) = none := by cases e0 with | box T0 c0 => exact h0.2
          rw [hr, hb] at hB; cases hB
      · refine hslot k ?_ v (hM.hl k v hv)
        cases hk : memN D k with
        | false => rfl
        | true =>
          have := (B.hW k (by rw [hBW]; exact hD k (agree_ent.memN_mem hk))).2
          rw [this] at hv; cases hv
  · rcases hF s with h0 | ⟨nd, x, Ro, h0, hun, _, _⟩
    · rw [h0]; trivial
    · rw [h0]; exact hun

end
end Go.SX

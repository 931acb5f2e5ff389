/- A symbolic evaluator over the model's own operations, part 9: code, and functions that hold no loop. -/
import Derived.Test.YtjncnnpdaeociaaTX8
import Derived.Deep.LoopGhost
namespace Go.SX
open Go.RowKit

inductive Ex where
  | normal
  | exit (id : Nat)
  | ret

def Ex.out : Ex → Exit
  | .normal => .normal
  | .exit id => .exit id
  | .ret => .ret

inductive R where
  | none
  | done (x : Ex) (s : St)
  | need (nd : List Bool) (r : R)
  | ite (b : Bool) (t e : R)

def R.bind : R → (St → R) → R
  | .none, _ => .none
  | .done .normal s, f => f s
  | .done x s, _ => .done x s
  | .need nd r, f => .need nd (r.bind f)
  | .ite b t e, f => .ite b (t.bind f) (e.bind f)

def Ex.inBlock (id : Nat) : Ex → Ex
  | .exit k => bif Nat.beq k id then .normal else .exit k
  | x => x

def R.inBlock (id : Nat) : R → R
  | .none => .none
  | .done x s => .done (x.inBlock id) s
  | .need nd r => .need nd (r.inBlock id)
  | .ite b t e => .ite b (t.inBlock id) (e.inBlock id)

def mergeSS (b : Bool) : Option SS → Option SS → Option SS
  | some ⟨none, v⟩, some ⟨none, v'⟩ => (mergeSV b v v').map (⟨none, ·⟩)
  | _, _ => none

def mergeEnt (b : Bool) : Option Entry → Option Entry → Option Entry
  | some e, some e' => guardE b e (some e')
  | _, _ => none

def keepSS : Option SS → Option SS → Option SS
  | some ⟨none, v⟩, some ⟨none, _⟩ => some ⟨none, v⟩
  | _, _ => none

def keepEnt : Option Entry → Option Entry → Option Entry
  | some x, some _ => some x
  | _, _ => none

def St.reset (s : St) : St := { s with log := [], logE := [] }

def mergeSt (b : Bool) (s s1 s2 : St) : St :=
  { look := fun k => bif memN s1.log k || memN s2.log k then mergeSS b (s1.look k) (s2.look k) else keepSS (s1.look k) (s2.look k)
    ent := fun k => bif memN s1.logE k || memN s2.logE k then mergeEnt b (s1.ent k) (s2.ent k) else keepEnt (s1.ent k) (s2.ent k)
    used := fun k => s1.used k || s2.used k
    wr := fun _ => false
    next := Nat.max s1.next s2.next
    log := s1.log ++ (s2.log ++ s.log)
    logE := s1.logE ++ (s2.logE ++ s.logE) }

/-- No slot and no variable that both know is lost. -/
def mergeable (b : Bool) (s1 s2 : St) : Bool :=
  (s1.log ++ s2.log).all (fun k => match s1.look k, s2.look k with
    | some ⟨none, v⟩, some ⟨none, v'⟩ => (mergeSV b v v').isSome
    | _, _ => true) &&
  (s1.logE ++ s2.logE).all (fun k => match s1.ent k, s2.ent k with
    | some e, some e' => (guardE b e (some e')).isSome
    | _, _ => true)

def R.relog (s : St) : R → R
  | .none => .none
  | .done x s' => .done x { s' with log := s'.log ++ s.log, logE := s'.logE ++ s.logE }
  | .need nd r => .need nd (r.relog s)
  | .ite b t e => .ite b (t.relog s) (e.relog s)

def mkIte0 (b : Bool) (s : St) (t e : R) : R :=
  match t, e with
  | .done .normal s1, .done .normal s2 => bif mergeable b s1 s2 then .done .normal (mergeSt b s s1 s2) else .ite b (R.relog s (.done .normal s1)) (R.relog s (.done .normal s2))
  | t, e => .ite b (t.relog s) (e.relog s)

def R.needs : R → List Bool
  | .need nd r => nd ++ r.needs
  | _ => []

def R.core : R → R
  | .need _ r => r.core
  | r => r

def mkNeed (nd : List Bool) (r : R) : R :=
  match nd with
  | [] => r
  | l => .need l r

def mkIte (b : Bool) (s : St) (t e : R) : R :=
  mkNeed (t.needs.map (fun n => !b || n) ++ e.needs.map (fun n => b || n)) (mkIte0 b s t.core e.core)

/-- How many loops stand in the code, those within loops not counted. -/
def nl : Code → Nat
  | .seq x y => nl x + nl y
  | .cond _ x y => nl x + nl y
  | .block _ c => nl c
  | .scope c => nl c
  | .loop _ => 1
  | _ => 0

def isPanic : Oper → Bool
  | ⟨_, .panic _, _, _, _, _⟩ => true
  | _ => false

/-- Code that panics, whatever happens. -/
def panics : Code → Bool
  | .region _ ops _ => ops.toList.any isPanic
  | .seq x y => panics x || (match x with | .region .. => panics y | .skip => panics y | _ => false)
  | .block _ c => panics c
  | .scope c => panics c
  | _ => false

/-- 'lf': what each loop comes to, in the order of the text. -/
def exec (P : Program) (tbl : List (PF P)) (W : Nat → Bool) : List (St → R) → Code → St → R
  | _, .skip, s => .done .normal s
  | _, .region _ ops draw, s => match execRegion P tbl W s ops.toList draw with
    | some (s', nd) => mkNeed nd (.done .normal s')
    | none => .none
  | lf, .seq x y, s => (exec P tbl W lf x s).bind (exec P tbl W (lf.drop (nl x)) y)
  | lf, .cond c x y, s => match ev s.look [] c with
    | some (.one ⟨false, [.val (.bool b)]⟩) => bif panics x then .need [!b] (exec P tbl W (lf.drop (nl x)) y s) else mkIte b s (exec P tbl W lf x s.reset) (exec P tbl W (lf.drop (nl x)) y s.reset)
    | _ => .none
  | lf, .block id c, s => (exec P tbl W lf c s).inBlock id
  | _, .exit id, s => .done (.exit id) s
  | lf, .scope c, s => exec P tbl W lf c s
  | _, .label _, s => .done .normal s
  | _, .ret, s => .done .ret s
  | lf, .loop _, s => match lf with
    | F :: _ => F s
    | [] => .none
  | _, _, _ => .none

def R.sat (post : Ex → St → Prop) : R → Prop
  | .none => False
  | .done x s => post x s
  | .need nd r => (∀ b ∈ nd, b = true) ∧ r.sat post
  | .ite b t e => (b = true → t.sat post) ∧ (b = false → e.sat post)

/-- From whatever fits the state, the code comes to an end that the post allows. -/
def Sat (P : Program) (B : Base) (c : Code) (s : St) (post : Ex → St → Prop) : Prop :=
  ∀ ρ a w, Mdl B ρ s a w → c.wp P (fun e a' w' => ∃ x s' ρ', e = Ex.out x ∧ Ext B s.used ρ ρ' ∧ Mdl B ρ' s' a' w' ∧ post x s') a w

structure Unch (s s' : St) : Prop where
  look : ∀ k, k ∉ s'.log → s'.look k = s.look k ∨ s'.look k = none
  ent : ∀ k, k ∉ s'.logE → s'.ent k = s.ent k
  log : ∀ k ∈ s.log, k ∈ s'.log
  logE : ∀ k ∈ s.logE, k ∈ s'.logE
  used : ∀ k, s.used k = true → s'.used k = true

def R.all (post : Ex → St → Prop) : R → Prop
  | .none => True
  | .done x s => post x s
  | .need _ r => r.all post
  | .ite _ t e => t.all post ∧ e.all post

/-- What a loop comes to is what it does. -/
structure LoopOk (P : Program) (W : Nat → Bool) (F : St → R) (b : Code) : Prop where
  ok : ∀ (B : Base) (s : St) (post : Ex → St → Prop), B.W = W → (F s).sat post → Sat P B (.loop b) s post
  un : ∀ s, (F s).all fun _ s' => Unch s s'

def LOk (P : Program) (W : Nat → Bool) : List (St → R) → Code → Prop
  | lf, .seq x y => LOk P W lf x ∧ LOk P W (lf.drop (nl x)) y
  | lf, .cond _ x y => LOk P W lf x ∧ LOk P W (lf.drop (nl x)) y
  | lf, .block _ c => LOk P W lf c
  | lf, .scope c => LOk P W lf c
  | lf, .loop b => ∀ F r, lf = F :: r → LoopOk P W F b
  | _, _ => True

def tops : Code → List Code
  | .seq x y => tops x ++ tops y
  | .cond _ x y => tops x ++ tops y
  | .block _ c => tops c
  | .scope c => tops c
  | .loop b => [b]
  | _ => []

section
variable {P : Program} {tbl : List (PF P)} {s s' s1 s2 : St} {W : Nat → Bool} {lf : List (St → R)} {B : Base} {ρ : Nm} {a : Act} {w : World} {post post' : Ex → St → Prop}

theorem R.sat_mono (hp : ∀ x s, post x s → post' x s) : ∀ {r : R}, r.sat post → r.sat post'
  | .none, h => h
  | .done x s, h => hp x s h
  | .need _ _, h => ⟨h.1, R.sat_mono hp h.2⟩
  | .ite _ _ _, h => ⟨fun hb => R.sat_mono hp (h.1 hb), fun hb => R.sat_mono hp (h.2 hb)⟩

theorem R.all_mono {p q : Ex → St → Prop} (hp : ∀ x s, p x s → q x s) : ∀ {r : R}, r.all p → r.all q
  | .none, _ => trivial
  | .done x s, h => hp x s h
  | .need _ r, h => R.all_mono (r := r) hp h
  | .ite _ _ _, h => ⟨R.all_mono hp h.1, R.all_mono hp h.2⟩

theorem R.sat_bind {f : St → R} : ∀ {r : R}, (r.bind f).sat post → r.sat (fun x s => match x with | .normal => (f s).sat post | x => post x s)
  | .none, h => h
  | .done .normal _, h => h
  | .done (.exit _) _, h => h
  | .done .ret _, h => h
  | .need _ _, h => ⟨h.1, R.sat_bind h.2⟩
  | .ite _ _ _, h => ⟨fun hb => R.sat_bind (h.1 hb), fun hb => R.sat_bind (h.2 hb)⟩

theorem R.sat_inBlock {id : Nat} : ∀ {r : R}, (r.inBlock id).sat post → r.sat (fun x s => post (x.inBlock id) s)
  | .none, h => h
  | .done _ _, h => h
  | .need _ _, h => ⟨h.1, R.sat_inBlock h.2⟩
  | .ite _ _ _, h => ⟨fun hb => R.sat_inBlock (h.1 hb), fun hb => R.sat_inBlock (h.2 hb)⟩

/-! ### What is not in the logs is as it was -/

theorem tops_nl : ∀ c : Code, (tops c).length = nl c
  | .seq x y => by simp [tops, nl, tops_nl x, tops_nl y]
  | .cond _ x y => by simp [tops, nl, tops_nl x, tops_nl y]
  | .block _ c => by simp [tops, nl, tops_nl c]
  | .scope c => by simp [tops, nl, tops_nl c]
  | .loop _ | .skip | .region .. | .rangeFunc .. | .exit _ | .label _ | .goto _ | .ret | .refuse _ => rfl

theorem LOk.of_tops : ∀ (c : Code) (lf : List (St → R)), (∀ (i : Nat) (F : St → R) (b : Code), lf[i]? = some F → (tops c)[i]? = some b → LoopOk P W F b) → LOk P W lf c
  | .seq x y, lf, h => by
    refine ⟨LOk.of_tops x lf fun i F b hF hb => h i F b hF ?_, LOk.of_tops y _ fun i F b hF hb => h (nl x + i) F b (by simpa using hF) ?_⟩
    · simp only [tops]; rw [List.getElem?_append_left (List.getElem?_eq_some_iff.1 hb).1]; exact hb
    · simp only [tops]; rw [List.getElem?_append_right (by rw [tops_nl]; omega), tops_nl]; simpa using hb
  | .cond _ x y, lf, h => by
    refine ⟨LOk.of_tops x lf fun i F b hF hb => h i F b hF ?_, LOk.of_tops y _ fun i F b hF hb => h (nl x + i) F b (by simpa using hF) ?_⟩
    · simp only [tops]; rw [List.getElem?_append_left (List.getElem?_eq_some_iff.1 hb).1]; exact hb
    · simp only [tops]; rw [List.getElem?_append_right (by rw [tops_nl]; omega), tops_nl]; simpa using hb
  | .block _ c, lf, h => LOk.of_tops c lf h
  | .scope c, lf, h => LOk.of_tops c lf h
  | .loop b, lf, h => fun F r hl => h 0 F b (by simp [hl]) rfl
  | .skip, _, _ | .region .., _, _ | .rangeFunc .., _, _ | .exit _, _, _ | .label _, _, _ | .goto _, _, _ | .ret, _, _ | .refuse _, _, _ => trivial

theorem LOk.nil (c : Code) : LOk P W [] c := LOk.of_tops c [] fun i F b hF => by simp at hF

theorem Unch.refl (s : St) : Unch s s := ⟨fun _ _ => .inl rfl, fun _ _ => rfl, fun _ h => h, fun _ h => h, fun _ h => h⟩

theorem Unch.trans (h : Unch s s1) (h' : Unch s1 s2) : Unch s s2 := by
  refine ⟨fun k hk => ?_, fun k hk => ?_, fun k hk => h'.log k (h.log k hk), fun k hk => h'.logE k (h.logE k hk), fun k hk => h'.used k (h.used k hk)⟩
  · rcases h'.look k hk with e | e
    · rw [e]; exact h.look k fun hh => hk (h'.log k hh)
    · exact .inr e
  · rw [h'.ent k hk]; exact h.ent k fun hh => hk (h'.logE k hh)

theorem mem_dstsOf {k : Nat} : ∀ {l : List Inf} {j : Nat} {y : Inf}, l[j]? = some y → y.d.dst = some k → k ∈ dstsOf l
  | [], _, _, h, _ => by simp at h
  | x :: r, 0, y, h, hk => by simp at h; subst h; simp [dstsOf, hk]
  | x :: r, j + 1, y, h, hk => by
    have := mem_dstsOf (l := r) (j := j) (by simpa using h) hk
    simp only [dstsOf]; split <;> simp [this]

theorem mem_widsOf {k : Nat} : ∀ {l : List Inf} {j : Nat} {y : Inf}, l[j]? = some y → k ∈ wids y.d → k ∈ widsOf l
  | [], _, _, h, _ => by simp at h
  | x :: r, 0, y, h, hk => by simp at h; subst h; simp only [widsOf, List.mem_append]; exact .inl hk
  | x :: r, j + 1, y, h, hk => by
    have := mem_widsOf (l := r) (j := j) (by simpa using h) hk
    simp only [widsOf, List.mem_append]; exact .inr this

theorem applyD_log {D : Nat → Bool} : ∀ (l : List Inf) (k : Nat) (s : St), (applyD D k l s).log = s.log ∧ (applyD D k l s).logE = s.logE
  | [], _, _ => ⟨rfl, rfl⟩
  | y :: r, k, s => by
    simp only [applyD]
    rw [(applyD_log r _ _).1, (applyD_log r _ _).2]
    cases D k <;> exact ⟨rfl, rfl⟩

theorem applyD_false : ∀ (l : List Inf) (k : Nat) (s : St), applyD (fun _ => false) k l s = s
  | [], _, _ => rfl
  | _ :: r, k, s => applyD_false r (k + 1) s

theorem clean_look (s : St) (k : Nat) : s.clean.look k = s.look k ∨ s.clean.look k = none := by
  simp only [St.clean]
  split
  · rename_i v h; exact .inl h.symm
  · exact .inr rfl

theorem execRegion_unch {ops : List Oper} {draw : Bool} {nd : List Bool} (h : execRegion P tbl W s ops draw = some (s', nd)) : Unch s s' := by
  unfold execRegion at h
  split at h
  · rename_i s1 l hl
    cases hb : (!draw || indep ops l) with
    | false => simp [hb] at h
    | true =>
      simp only [hb, cond_true, Option.some.injEq, Prod.mk.injEq] at h
      obtain ⟨h, _⟩ := h
      subst h
      obtain ⟨_, hs1, _⟩ := runT_at ops 0 _ _ _ hl
      refine ⟨fun k hk => ?_, fun k hk => ?_, fun k hk => ?_, fun k hk => ?_, fun k hk => ?_⟩
      · simp only [St.fin, List.mem_append, not_or] at hk
        have h1 := (agree_look (D := fun _ => true) (D' := fun _ => false) (t := k) l 0 s.clean s.clean rfl rfl fun j y hy hyd => absurd (mem_dstsOf hy hyd) hk.1).1
        rw [applyD_false] at h1
        have h2 : (s1.fin ops.length l).look k = s1.clean.look k := rfl
        rw [h2]
        rcases clean_look s1 k with e | e
        · rw [e, hs1, h1]; exact clean_look s k
        · exact .inr e
      · simp only [St.fin, List.mem_append, not_or] at hk
        have h1 := (agree_ent (D := fun _ => true) (D' := fun _ => false) (t := k) l 0 s.clean s.clean rfl rfl fun j y hy hyd => absurd (mem_widsOf hy hyd) hk.1).1
        rw [applyD_false] at h1
        show s1.ent k = s.ent k
        rw [hs1, h1]; rfl
      · show k ∈ dstsOf l ++ s1.log
        rw [hs1, (applyD_log l 0 _).1]; exact List.mem_append_right _ hk
      · show k ∈ widsOf l ++ s1.logE
        rw [hs1, (applyD_log l 0 _).2]; exact List.mem_append_right _ hk
      · show s1.used k = true
        rw [hs1]; exact applyD_used l 0 _ hk
  · cases h

theorem mergeSt_unch {b : Bool} (h1 : Unch s.reset s1) (h2 : Unch s.reset s2) : Unch s (mergeSt b s s1 s2) := by
  refine ⟨fun k hk => ?_, fun k hk => ?_, fun k hk => ?_, fun k hk => ?_, fun k hk => (by have := h1.used k hk; simp [mergeSt, this])⟩
  · simp only [mergeSt, List.mem_append, not_or] at hk ⊢
    have e1 : memN s1.log k = false := by cases h : memN s1.log k with | false => rfl | true => exact absurd (agree_ent.memN_mem h) hk.1
    have e2 : memN s2.log k = false := by cases h : memN s2.log k with | false => rfl | true => exact absurd (agree_ent.memN_mem h) hk.2.1
    simp only [e1, e2, Bool.or_self, cond_false]
    unfold keepSS
    split
    · rename_i v v' e e'
      rcases h1.look k hk.1 with q | q
      · exact .inl (by rw [← e, q]; rfl)
      · rw [q] at e; cases e
    · exact .inr rfl
  · simp only [mergeSt, List.mem_append, not_or] at hk ⊢
    have e1 : memN s1.logE k = false := by cases h : memN s1.logE k with | false => rfl | true => exact absurd (agree_ent.memN_mem h) hk.1
    have e2 : memN s2.logE k = false := by cases h : memN s2.logE k with | false => rfl | true => exact absurd (agree_ent.memN_mem h) hk.2.1
    simp only [e1, e2, Bool.or_self, cond_false]
    rw [h1.ent k hk.1, h2.ent k hk.2.1]
    show keepEnt (s.ent k) (s.ent k) = s.ent k
    cases s.ent k <;> rfl
  · exact List.mem_append_right _ (List.mem_append_right _ hk)
  · exact List.mem_append_right _ (List.mem_append_right _ hk)

theorem R.all_bind {f : St → R} (hf : ∀ s1, Unch s s1 → (f s1).all fun _ s2 => Unch s1 s2) : ∀ {r : R}, r.all (fun _ s1 => Unch s s1) → (r.bind f).all fun _ s2 => Unch s s2
  | .none, _ => trivial
  | .done .normal s1, h => by
    have key : ∀ r : R, r.all (fun _ s2 => Unch s1 s2) → r.all (fun _ s2 => Unch s s2) := by
      intro r
      induction r with
      | none => exact fun _ => trivial
      | done x s2 => exact fun h' => h.trans h'
      | need nd r ih => exact ih
      | ite b t e iht ihe => exact fun h' => ⟨iht h'.1, ihe h'.2⟩
    exact key _ (hf s1 h)
  | .done (.exit _) _, h => h
  | .done .ret _, h => h
  | .need _ r, h => R.all_bind (r := r) hf h
  | .ite _ _ _, h => ⟨R.all_bind hf h.1, R.all_bind hf h.2⟩

theorem R.all_inBlock {id : Nat} : ∀ {r : R}, r.all (fun _ s1 => Unch s s1) → (r.inBlock id).all fun _ s1 => Unch s s1
  | .none, _ => trivial
  | .done _ _, h => h
  | .need _ r, h => R.all_inBlock (r := r) h
  | .ite _ _ _, h => ⟨R.all_inBlock h.1, R.all_inBlock h.2⟩

theorem R.all_relog : ∀ {r : R}, r.all (fun _ s1 => Unch s.reset s1) → (r.relog s).all fun _ s1 => Unch s s1
  | .none, _ => trivial
  | .done _ _, h => ⟨fun k hk => h.look k fun hh => hk (List.mem_append_left _ hh), fun k hk => h.ent k fun hh => hk (List.mem_append_left _ hh),
      fun _ hk => List.mem_append_right _ hk, fun _ hk => List.mem_append_right _ hk, h.used⟩
  | .need _ r, h => R.all_relog (r := r) h
  | .ite _ _ _, h => ⟨R.all_relog h.1, R.all_relog h.2⟩

theorem R.all_core {post : Ex → St → Prop} : ∀ {r : R}, r.all post → r.core.all post
  | .none, h => h
  | .done _ _, h => h
  | .need _ r, h => R.all_core (r := r) h
  | .ite _ _ _, h => h

theorem R.all_mkNeed {post : Ex → St → Prop} {nd : List Bool} {r : R} (h : r.all post) : (mkNeed nd r).all post := by
  cases nd <;> exact h

theorem R.sat_mkNeed {nd : List Bool} {r : R} (h : (mkNeed nd r).sat post) : (∀ b ∈ nd, b = true) ∧ r.sat post := by
  cases nd with
  | nil => exact ⟨by simp, h⟩
  | cons x l => exact h

theorem R.sat_core : ∀ {r : R}, (∀ b ∈ r.needs, b = true) → r.core.sat post → r.sat post
  | .none, _, h => h
  | .done _ _, _, h => h
  | .need nd r, hn, h => ⟨fun b hb => hn b (by simp only [R.needs, List.mem_append]; exact .inl hb), R.sat_core (r := r) (fun b hb => hn b (by simp only [R.needs, List.mem_append]; exact .inr hb)) h⟩
  | .ite _ _ _, _, h => h

theorem R.all_mkIte {b : Bool} {t e : R} (ht : t.all fun _ s1 => Unch s.reset s1) (he : e.all fun _ s1 => Unch s.reset s1) : (mkIte b s t e).all fun _ s1 => Unch s s1 := by
  unfold mkIte
  refine R.all_mkNeed ?_
  replace ht := R.all_core ht
  replace he := R.all_core he
  generalize t.core = t at *
  generalize e.core = e at *
  unfold mkIte0
  split
  · rename_i s1 s2
    cases mergeable b s1 s2 with
    | true => exact mergeSt_unch ht he
    | false => exact ⟨R.all_relog (r := .done .normal s1) ht, R.all_relog (r := .done .normal s2) he⟩
  · exact ⟨R.all_relog ht, R.all_relog he⟩

theorem exec_unch : ∀ (lf : List (St → R)) (c : Code) (s : St), LOk P W lf c → (exec P tbl W lf c s).all fun _ s' => Unch s s'
  | _, .skip, s, _ => Unch.refl s
  | _, .region _ ops draw, s, _ => by
    simp only [exec]
    split
    · rename_i s' nd h; exact R.all_mkNeed (execRegion_unch h)
    · trivial
  | lf, .seq x y, s, hl => R.all_bind (fun s1 _ => exec_unch _ y s1 hl.2) (exec_unch lf x s hl.1)
  | lf, .cond c x y, s, hl => by
    simp only [exec]
    split
    · cases panics x with
      | true => exact exec_unch _ y s hl.2
      | false => exact R.all_mkIte (exec_unch lf x s.reset hl.1) (exec_unch _ y s.reset hl.2)
    · trivial
  | lf, .block id c, s, hl => R.all_inBlock (exec_unch lf c s hl)
  | _, .exit id, s, _ => Unch.refl s
  | lf, .scope c, s, hl => by simp only [exec]; exact exec_unch lf c s hl
  | _, .label _, s, _ => Unch.refl s
  | _, .ret, s, _ => Unch.refl s
  | [], .loop _, _, _ => trivial
  | F :: r, .loop b, s, hl => (hl F r rfl).un s
  | _, .rangeFunc .., _, _ => by simp only [exec]; trivial
  | _, .goto _, _, _ => by simp only [exec]; trivial
  | _, .refuse _, _, _ => by simp only [exec]; trivial

/-! ### Two ways meet -/

theorem mem_or {l l' : List Nat} {k : Nat} (h : (memN l k || memN l' k) = false) : k ∉ l ∧ k ∉ l' := by
  simp only [Bool.or_eq_false_iff] at h
  exact ⟨memN_false h.1, memN_false h.2⟩

theorem mergeSS_some {b : Bool} {x y : Option SS} {z : SS} (h : mergeSS b x y = some z) : ∃ v v' u, x = some ⟨none, v⟩ ∧ y = some ⟨none, v'⟩ ∧ z = ⟨none, u⟩ ∧ mergeSV b v v' = some u := by
  unfold mergeSS at h
  split at h
  · rename_i v v'
    cases hm : mergeSV b v v' with
    | none => simp [hm] at h
    | some u => simp [hm] at h; subst h; exact ⟨v, v', u, rfl, rfl, rfl, hm⟩
  · cases h

theorem keepSS_some {x y : Option SS} {z : SS} (h : keepSS x y = some z) : ∃ v v', x = some ⟨none, v⟩ ∧ y = some ⟨none, v'⟩ ∧ z = ⟨none, v⟩ := by
  unfold keepSS at h
  split at h
  · rename_i v v'; cases h; exact ⟨v, v', rfl, rfl, rfl⟩
  · cases h

theorem mergeEnt_some {b : Bool} {x y : Option Entry} {z : Entry} (h : mergeEnt b x y = some z) : ∃ e e', x = some e ∧ y = some e' ∧ guardE b e (some e') = some z := by
  unfold mergeEnt at h
  split at h
  · exact ⟨_, _, rfl, rfl, h⟩
  · cases h

theorem keepEnt_some {x y : Option Entry} {z : Entry} (h : keepEnt x y = some z) : x = some z ∧ ∃ z', y = some z' := by
  unfold keepEnt at h
  split at h
  · rename_i u v; cases h; exact ⟨rfl, v, rfl⟩
  · cases h

theorem mergeSV_inU' {U : Nat → Bool} {c : Bool} {a b v : SV} (hb : b.inU U) (h : mergeSV c a b = some v) : v.inU U := by
  have hc : ∀ {x y z : Cell}, y.inU U → mergeCell c x y = some z → z.inU U := by
    intro x y z hy h
    unfold mergeCell at h
    split at h
    · rename_i p q
      cases hm : mergeVal c p q with
      | none => simp [hm] at h
      | some u => simp [hm] at h; subst h; trivial
    · rename_i i o i' o'
      cases hbq : (Nat.beq i i' && Nat.beq o o') with
      | false => simp [hbq] at h
      | true =>
        simp [hbq] at h; subst h
        simp only [Bool.and_eq_true] at hbq
        rw [Nat.eq_of_beq_eq_true hbq.1]; exact hy
    · rename_i i i'
      cases hbq : Nat.beq i i' with
      | false => simp [hbq] at h
      | true =>
        simp [hbq] at h; subst h
        rw [Nat.eq_of_beq_eq_true hbq]; exact hy
    · cases h
  have hcs : ∀ {as bs vs : List Cell}, (∀ x ∈ bs, x.inU U) → mergeCells c as bs = some vs → ∀ x ∈ vs, x.inU U := by
    intro as
    induction as with
    | nil => intro bs vs _ h; cases bs <;> simp [mergeCells] at h; subst h; simp
    | cons a as ih =>
      intro bs vs hbs h
      cases bs with
      | nil => simp [mergeCells] at h
      | cons b bs =>
        simp only [mergeCells] at h
        split at h
        · rename_i x xs hx hxs
          cases h
          intro y hy
          rcases List.mem_cons.1 hy with rfl | hy
          · exact hc (hbs _ (by simp)) hx
          · exact ih (fun z hz => hbs z (by simp [hz])) hxs y hy
        · cases h
  have hv : ∀ {x y z : V1}, y.inU U → mergeV1 c x y = some z → z.inU U := by
    intro x y z hy h
    unfold mergeV1 at h
    split at h
    all_goals first
      | cases h
      | (cases hm : mergeCells c x.cs y.cs with
         | none => simp [hm] at h
         | some u => simp [hm] at h; subst h; exact hcs hy hm)
  have hvs : ∀ {as bs vs : List V1}, (∀ x ∈ bs, x.inU U) → mergeV1s c as bs = some vs → ∀ x ∈ vs, x.inU U := by
    intro as
    induction as with
    | nil => intro bs vs _ h; cases bs <;> simp [mergeV1s] at h; subst h; simp
    | cons a as ih =>
      intro bs vs hbs h
      cases bs with
      | nil => simp [mergeV1s] at h
      | cons b bs =>
        simp only [mergeV1s] at h
        split at h
        · rename_i x xs hx hxs
          cases h
          intro y hy
          rcases List.mem_cons.1 hy with rfl | hy
          · exact hv (hbs _ (by simp)) hx
          · exact ih (fun z hz => hbs z (by simp [hz])) hxs y hy
        · cases h
  unfold mergeSV at h
  split at h
  · rename_i x y
    cases hm : mergeV1 c x y with
    | none => simp [hm] at h
    | some u => simp [hm] at h; subst h; exact hv hb hm
  · rename_i x y
    cases hm : mergeV1s c x y with
    | none => simp [hm] at h
    | some u => simp [hm] at h; subst h; exact hvs hb hm
  · cases h

theorem mergeCells_inU' {U : Nat → Bool} {c : Bool} {as bs vs : List Cell} (hb : ∀ x ∈ bs, x.inU U) (hm : mergeCells c as bs = some vs) : ∀ x ∈ vs, x.inU U :=
  mergeSV_inU' (U := U) (c := c) (a := .one ⟨true, as⟩) (b := .one ⟨true, bs⟩) (v := .one ⟨true, vs⟩) hb (by simp [mergeSV, mergeV1, hm])

theorem guardE_false' {used : Nat → Bool} {id : Nat} {e e2 old : Entry} (h : guardE false e (some old) = some e2) (hh : old.holds B ρ w id) (hin : old.inU used) : e2.holds B ρ w id ∧ e2.ob (ρ id) = old.ob (ρ id) ∧ e2.inU used := by
  unfold guardE at h
  split at h
  · rename_i heq; cases heq
  · rename_i own e0 t xs own' e' t' xs' heq
    cases heq
    split at h
    · rename_i ht
      subst ht
      cases hb : (own == own' && Nat.beq e0 e') with
      | false => simp [hb] at h
      | true =>
        simp only [hb, cond_true] at h; cases h
        simp only [Bool.and_eq_true, beq_iff_eq] at hb
        obtain ⟨rfl, h2⟩ := hb
        have := Nat.eq_of_beq_eq_true h2; subst this
        exact ⟨hh, rfl, trivial⟩
    · cases h
  · rename_i T cs T' cs' heq
    cases heq
    cases hb : Nat.beq T T' with
    | false => simp [hb] at h
    | true =>
      have := Nat.eq_of_beq_eq_true hb; subst this
      simp only [hb, cond_true, Option.map_eq_some_iff] at h
      obtain ⟨ms, hm, rfl⟩ := h
      obtain ⟨b, k1, k2, k3, k4⟩ := hh
      have := (mergeCells_sound ρ hm).1
      simp only [cond_false] at this
      exact ⟨⟨b, k1, by rw [this]; exact k2, k3, k4⟩, rfl, mergeCells_inU' hin hm⟩
  · rename_i heq; cases heq; cases h; exact ⟨trivial, rfl, trivial⟩
  · cases h

theorem mergeSt_true (h2 : Mdl B ρ s1 a w) : Mdl B ρ (mergeSt true s s1 s2) a w := by
  have hmono : ∀ id, s1.used id = true → (mergeSt true s s1 s2).used id = true := fun id h => by simp [mergeSt, h]
  have look : ∀ k x, (mergeSt true s s1 s2).look k = some x → x.g = none ∧ a.tmps[k]? = some (x.v.conc ρ) ∧ x.v.inU s1.used := by
    intro k x hx
    simp only [mergeSt] at hx
    cases hb : (memN s1.log k || memN s2.log k) with
    | true =>
      simp only [hb, cond_true] at hx
      obtain ⟨v, v', u, e1, _, rfl, hm⟩ := mergeSS_some hx
      refine ⟨rfl, ?_, mergeSV_inU (h2.hu k _ e1) hm⟩
      rw [h2.hs k _ e1]
      simp only [SS.at]
      rw [mergeSV_sound ρ hm]; rfl
    | false =>
      simp only [hb, cond_false] at hx
      obtain ⟨v, v', e1, _, rfl⟩ := keepSS_some hx
      exact ⟨rfl, by rw [h2.hs k _ e1]; rfl, h2.hu k _ e1⟩
  have ent : ∀ k e, (mergeSt true s s1 s2).ent k = some e → (∃ e0, s1.ent k = some e0 ∧ e.ob (ρ k) = e0.ob (ρ k)) ∧ e.holds B ρ w k ∧ s1.used k = true ∧ e.inU s1.used := by
    intro k e he
    simp only [mergeSt] at he
    cases hb : (memN s1.logE k || memN s2.logE k) with
    | true =>
      simp only [hb, cond_true] at he
      obtain ⟨e1, e2, h3, _, hm⟩ := mergeEnt_some he
      obtain ⟨q1, q2, q3⟩ := h2.he k _ h3
      obtain ⟨g1, g2, g3⟩ := guardE_true (used := s1.used) hm q1 q3
      exact ⟨⟨_, h3, g2⟩, g1, q2, g3⟩
    | false =>
      simp only [hb, cond_false] at he
      obtain ⟨e1, _⟩ := keepEnt_some he
      exact ⟨⟨_, e1, rfl⟩, h2.he k _ e1⟩
  refine ⟨h2.hd, h2.hn, fun k x hx => ?_, fun k x j b hx hj => ?_, fun k x hx => SV.inU_mono hmono (look k x hx).2.2, ⟨fun id e he => ?_, fun id id' e e' b he he' hr hr' => ?_, h2.hp.hf⟩, h2.hl⟩
  · obtain ⟨g0, h0, _⟩ := look k x hx
    obtain ⟨g, v⟩ := x
    simp only at g0; subst g0; exact h0
  · rw [(look k x hx).1] at hj; cases hj
  · obtain ⟨_, q1, q2, q3⟩ := ent id e he
    exact ⟨q1, hmono _ q2, Entry.inU_mono hmono q3⟩
  · obtain ⟨⟨e0, h0, o0⟩, _⟩ := ent id e he
    obtain ⟨⟨e1, h1, o1⟩, _⟩ := ent id' e' he'
    rw [o0] at hr; rw [o1] at hr'
    exact h2.hp.hi _ _ _ _ b h0 h1 hr hr'

theorem mergeSt_false (hu1 : Unch s.reset s1) (hu2 : Unch s.reset s2) (h2 : Mdl B ρ s2 a w) : Mdl B ρ (mergeSt false s s1 s2) a w := by
  have hmono : ∀ id, s2.used id = true → (mergeSt false s s1 s2).used id = true := fun id h => by simp [mergeSt, h]
  have look : ∀ k x, (mergeSt false s s1 s2).look k = some x → x.g = none ∧ a.tmps[k]? = some (x.v.conc ρ) ∧ x.v.inU s2.used := by
    intro k x hx
    simp only [mergeSt] at hx
    cases hb : (memN s1.log k || memN s2.log k) with
    | true =>
      simp only [hb, cond_true] at hx
      obtain ⟨v, v', u, _, e1, rfl, hm⟩ := mergeSS_some hx
      refine ⟨rfl, ?_, mergeSV_inU' (h2.hu k _ e1) hm⟩
      rw [h2.hs k _ e1]
      simp only [SS.at]
      rw [mergeSV_sound ρ hm]; rfl
    | false =>
      simp only [hb, cond_false] at hx
      obtain ⟨v, v', e1, e2, rfl⟩ := keepSS_some hx
      obtain ⟨n1, n2⟩ := mem_or hb
      have hvv : v = v' := by
        rcases hu1.look k n1 with q | q
        · rcases hu2.look k n2 with q' | q'
          · rw [q] at e1; rw [q', e1] at e2; cases e2; rfl
          · rw [q'] at e2; cases e2
        · rw [q] at e1; cases e1
      subst hvv
      exact ⟨rfl, by rw [h2.hs k _ e2]; rfl, h2.hu k _ e2⟩
  have ent : ∀ k e, (mergeSt false s s1 s2).ent k = some e → (∃ e0, s2.ent k = some e0 ∧ e.ob (ρ k) = e0.ob (ρ k)) ∧ e.holds B ρ w k ∧ s2.used k = true ∧ e.inU s2.used := by
    intro k e he
    simp only [mergeSt] at he
    cases hb : (memN s1.logE k || memN s2.logE k) with
    | true =>
      simp only [hb, cond_true] at he
      obtain ⟨e1, e2, _, h3, hm⟩ := mergeEnt_some he
      obtain ⟨q1, q2, q3⟩ := h2.he k _ h3
      obtain ⟨g1, g2, g3⟩ := guardE_false' (used := s2.used) hm q1 q3
      exact ⟨⟨_, h3, g2⟩, g1, q2, g3⟩
    | false =>
      simp only [hb, cond_false] at he
      obtain ⟨e1, e2, he2⟩ := keepEnt_some he
      obtain ⟨n1, n2⟩ := mem_or hb
      have : s2.ent k = s1.ent k := by rw [hu1.ent k n1, hu2.ent k n2]
      rw [e1] at this
      exact ⟨⟨_, this, rfl⟩, h2.he k _ this⟩
  refine ⟨h2.hd, h2.hn, fun k x hx => ?_, fun k x j b hx hj => ?_, fun k x hx => SV.inU_mono hmono (look k x hx).2.2, ⟨fun id e he => ?_, fun id id' e e' b he he' hr hr' => ?_, h2.hp.hf⟩, h2.hl⟩
  · obtain ⟨g0, h0, _⟩ := look k x hx
    obtain ⟨g, v⟩ := x
    simp only at g0; subst g0; exact h0
  · rw [(look k x hx).1] at hj; cases hj
  · obtain ⟨_, q1, q2, q3⟩ := ent id e he
    exact ⟨q1, hmono _ q2, Entry.inU_mono hmono q3⟩
  · obtain ⟨⟨e0, h0, o0⟩, _⟩ := ent id e he
    obtain ⟨⟨e1, h1, o1⟩, _⟩ := ent id' e' he'
    rw [o0] at hr; rw [o1] at hr'
    exact h2.hp.hi _ _ _ _ b h0 h1 hr hr'

theorem Mdl.reset (h : Mdl B ρ s a w) : Mdl B ρ s.reset a w := ⟨h.hd, h.hn, h.hs, h.hg, h.hu, h.hp, h.hl⟩
theorem Mdl.relog (h : Mdl B ρ s a w) (l l' : List Nat) : Mdl B ρ { s with log := l, logE := l' } a w := ⟨h.hd, h.hn, h.hs, h.hg, h.hu, h.hp, h.hl⟩

theorem R.sat_relog : ∀ {r : R}, (r.relog s).sat post → r.sat (fun x s' => post x { s' with log := s'.log ++ s.log, logE := s'.logE ++ s.logE })
  | .none, h => h
  | .done _ _, h => h
  | .need _ _, h => ⟨h.1, R.sat_relog h.2⟩
  | .ite _ _ _, h => ⟨fun hb => R.sat_relog (h.1 hb), fun hb => R.sat_relog (h.2 hb)⟩

theorem R.sat_and {p q : Ex → St → Prop} : ∀ {r : R}, r.sat p → r.all q → r.sat fun x s => p x s ∧ q x s
  | .none, h, _ => h
  | .done _ _, h, h' => ⟨h, h'⟩
  | .need _ r, h, h' => ⟨h.1, R.sat_and (r := r) h.2 h'⟩
  | .ite _ _ _, h, h' => ⟨fun hb => R.sat_and (h.1 hb) h'.1, fun hb => R.sat_and (h.2 hb) h'.2⟩

theorem exec_used (lf : List (St → R)) (c : Code) (s : St) (hl : LOk P W lf c) : (exec P tbl W lf c s).all fun _ s' => ∀ id, s.used id = true → s'.used id = true :=
  R.all_mono (fun _ _ h => h.used) (exec_unch lf c s hl)

/-- **What the evaluator comes to is what the code does.** -/
theorem exec_sound (hmix : P.follows .mixedOrders = true) : ∀ (lf : List (St → R)) (c : Code) (s : St) (post : Ex → St → Prop), LOk P B.W lf c → (exec P tbl B.W lf c s).sat post → Sat P B c s post
  | _, .skip, s, post, _, h, ρ, a, w, hM => wp_skip ⟨.normal, s, ρ, rfl, Ext.refl _ _ _, hM, h⟩
  | _, .region id ops draw, s, post, _, h, ρ, a, w, hM => by
    simp only [exec] at h
    split at h
    · rename_i s' nd hs'
      obtain ⟨hnd, h⟩ := R.sat_mkNeed h
      have := execRegion_sound (id := id) (Q := fun e a' w' => ∃ x s' ρ', e = Ex.out x ∧ Ext B s.used ρ ρ' ∧ Mdl B ρ' s' a' w' ∧ post x s') hmix hs' hnd hM fun ρ' a' w' hag hM' => ⟨.normal, s', ρ', rfl, hag, hM', h⟩
      simpa using this
    · exact h.elim
  | lf, .seq x y, s, post, hl, h, ρ, a, w, hM => by
    have hx := R.sat_and (R.sat_bind h) (exec_used (P := P) (tbl := tbl) (W := B.W) lf x s hl.1)
    refine wp_seq (wp_mono (exec_sound hmix lf x s _ hl.1 hx ρ a w hM) fun e a' w' ⟨q, s', ρ', he, hag, hM', hp, hus⟩ => ?_)
    subst he
    cases q with
    | normal =>
      refine wp_mono (exec_sound hmix _ y s' post hl.2 hp ρ' a' w' hM') fun e a'' w'' ⟨q, s'', ρ'', he, hag', hM'', hp'⟩ => ?_
      exact ⟨q, s'', ρ'', he, hag.trans hag' hus, hM'', hp'⟩
    | exit id => exact ⟨.exit id, s', ρ', rfl, hag, hM', hp⟩
    | ret => exact ⟨.ret, s', ρ', rfl, hag, hM', hp⟩
  | lf, .cond c x y, s, post, hl, h, ρ, a, w, hM => by
    simp only [exec] at h
    split at h
    · rename_i b hb
      have hc : a.eval c = .bool b := ev_conc hM (fun _ _ h => h) (by simp) hb
      cases hpn : panics x with
      | true =>
        simp only [hpn, cond_true] at h
        obtain ⟨hb0, h⟩ := h
        have hb0 := hb0 (!b) (by simp)
        refine wp_cond hc ?_
        cases b with
        | true => cases hb0
        | false => exact exec_sound hmix _ y s post hl.2 h ρ a w hM
      | false =>
      simp only [hpn, cond_false] at h
      have hx := exec_unch (P := P) (tbl := tbl) (W := B.W) lf x s.reset hl.1
      have hy := exec_unch (P := P) (tbl := tbl) (W := B.W) _ y s.reset hl.2
      unfold mkIte at h
      obtain ⟨hnd, h⟩ := R.sat_mkNeed h
      have hn1 : b = true → ∀ n ∈ (exec P tbl B.W lf x s.reset).needs, n = true := fun hbt n hn => by
        have := hnd (!b || n) (by simp only [List.mem_append]; exact .inl (List.mem_map_of_mem hn))
        simpa [hbt] using this
      have hn2 : b = false → ∀ n ∈ (exec P tbl B.W (lf.drop (nl x)) y s.reset).needs, n = true := fun hbt n hn => by
        have := hnd (b || n) (by simp only [List.mem_append]; exact .inr (List.mem_map_of_mem hn))
        simpa [hbt] using this
      replace hx := R.all_core hx
      replace hy := R.all_core hy
      unfold mkIte0 at h
      split at h
      · rename_i s1 s2 e1 e2
        rw [e1] at hx; rw [e2] at hy
        cases hm : mergeable b s1 s2 with
        | true =>
          simp only [hm, cond_true] at h
          refine wp_cond hc ?_
          cases b with
          | true =>
            refine wp_mono (exec_sound hmix lf x s.reset (fun q s' => q = .normal ∧ s' = s1) hl.1 (R.sat_core (hn1 rfl) (by rw [e1]; exact ⟨rfl, rfl⟩)) ρ a w hM.reset) fun e a' w' ⟨q, s', ρ', he, hag, hM', hq, hs'⟩ => ?_
            subst hq; subst hs'
            exact ⟨.normal, _, ρ', he, hag, mergeSt_true hM', h⟩
          | false =>
            refine wp_mono (exec_sound hmix _ y s.reset (fun q s' => q = .normal ∧ s' = s2) hl.2 (R.sat_core (hn2 rfl) (by rw [e2]; exact ⟨rfl, rfl⟩)) ρ a w hM.reset) fun e a' w' ⟨q, s', ρ', he, hag, hM', hq, hs'⟩ => ?_
            subst hq; subst hs'
            exact ⟨.normal, _, ρ', he, hag, mergeSt_false hx hy hM', h⟩
        | false =>
          simp only [hm, cond_false] at h
          rw [← e1, ← e2] at h
          refine wp_cond hc ?_
          cases b with
          | true =>
            refine wp_mono (exec_sound hmix lf x s.reset _ hl.1 (R.sat_core (hn1 rfl) (R.sat_relog (h.1 rfl))) ρ a w hM.reset) fun e a' w' ⟨q, s', ρ', he, hag, hM', hp⟩ => ?_
            exact ⟨q, _, ρ', he, hag, hM'.relog _ _, hp⟩
          | false =>
            refine wp_mono (exec_sound hmix _ y s.reset _ hl.2 (R.sat_core (hn2 rfl) (R.sat_relog (h.2 rfl))) ρ a w hM.reset) fun e a' w' ⟨q, s', ρ', he, hag, hM', hp⟩ => ?_
            exact ⟨q, _, ρ', he, hag, hM'.relog _ _, hp⟩
      · refine wp_cond hc ?_
        cases b with
        | true =>
          refine wp_mono (exec_sound hmix lf x s.reset _ hl.1 (R.sat_core (hn1 rfl) (R.sat_relog (h.1 rfl))) ρ a w hM.reset) fun e a' w' ⟨q, s', ρ', he, hag, hM', hp⟩ => ?_
          exact ⟨q, _, ρ', he, hag, hM'.relog _ _, hp⟩
        | false =>
          refine wp_mono (exec_sound hmix _ y s.reset _ hl.2 (R.sat_core (hn2 rfl) (R.sat_relog (h.2 rfl))) ρ a w hM.reset) fun e a' w' ⟨q, s', ρ', he, hag, hM', hp⟩ => ?_
          exact ⟨q, _, ρ', he, hag, hM'.relog _ _, hp⟩
    · exact h.elim
  | lf, .block id c, s, post, hl, h, ρ, a, w, hM => by
    refine wp_block (wp_mono (exec_sound hmix lf c s _ hl (R.sat_inBlock h) ρ a w hM) fun e a' w' ⟨q, s', ρ', he, hag, hM', hp⟩ => ?_)
    subst he
    cases q with
    | normal => exact ⟨.normal, s', ρ', rfl, hag, hM', hp⟩
    | ret => exact ⟨.ret, s', ρ', rfl, hag, hM', hp⟩
    | exit k =>
      simp only [Ex.out, Exit.inBlock]
      simp only [Ex.inBlock] at hp
      cases hk : Nat.beq k id with
      | true =>
        have := Nat.eq_of_beq_eq_true hk; subst this
        simp only [hk, cond_true] at hp
        simp only [if_true]; exact ⟨.normal, s', ρ', rfl, hag, hM', hp⟩
      | false =>
        have hne : k ≠ id := fun e => by subst e; simp at hk
        simp only [hk, cond_false] at hp
        simp only [hne, if_false]; exact ⟨.exit k, s', ρ', rfl, hag, hM', hp⟩
  | _, .exit id, s, post, _, h, ρ, a, w, hM => wp_exit ⟨.exit id, s, ρ, rfl, Ext.refl _ _ _, hM, h⟩
  | lf, .scope c, s, post, hl, h, ρ, a, w, hM => by
    simp only [exec] at h
    refine wp_scope_straight (wp_mono (exec_sound hmix lf c s post hl h ρ a w hM) fun e a' w' hh => ?_)
    obtain ⟨q, s', ρ', he, hag, hM', hp⟩ := hh
    subst he
    cases q <;> exact ⟨_, s', ρ', rfl, hag, hM', hp⟩
  | _, .label _, s, post, _, h, ρ, a, w, hM => wp_label ⟨.normal, s, ρ, rfl, Ext.refl _ _ _, hM, h⟩
  | _, .ret, s, post, _, h, ρ, a, w, hM => wp_ret ⟨.ret, s, ρ, rfl, Ext.refl _ _ _, hM, h⟩
  | [], .loop _, s, post, _, h, _, _, _, _ => by simp only [exec] at h; exact h.elim
  | F :: r, .loop b, s, post, hl, h, ρ, a, w, hM => (hl F r rfl).ok B s post rfl (by simpa only [exec] using h) ρ a w hM
  | _, .rangeFunc .., s, post, _, h, _, _, _, _ => by simp only [exec] at h; exact h.elim
  | _, .goto _, s, post, _, h, _, _, _, _ => by simp only [exec] at h; exact h.elim
  | _, .refuse _, s, post, _, h, _, _, _, _ => by simp only [exec] at h; exact h.elim

end
end Go.SX

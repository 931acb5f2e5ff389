/- A symbolic evaluator over the model's own operations, part 7: a region that draws its order. -/
import Derived.Test.YtofbpbijfhfnoaaSX6
namespace Go.SX
open Go.RowKit

section
variable {P : Program} {tbl : List (PF P)} {s s' : St} {i nid : Nat} {W : Nat → Bool} {A : List (Nat × Bool)} {ops : List Oper} {o : Oper} {d : Dl} {r : Raw} {B : Base} {ρ : Nm} {a : Act} {w : World} {Q : Exit → Act → World → Prop}

theorem ev_congr {x : Operand} (h : ∀ t, x = .tmp t → s'.look t = s.look t) : ev s' A x = ev s A x := by
  cases x with
  | tmp t => simp only [ev, h t rfl]
  | _ => rfl

theorem asm_congr : ∀ (f : Nat) (g : Option (Nat × Bool)), (∀ q ∈ asm s f g, s'.look q.1 = s.look q.1) → asm s' f g = asm s f g
  | 0, none, _ => rfl
  | _ + 1, none, _ => rfl
  | 0, some p, _ => rfl
  | f + 1, some p, h => by
    simp only [asm] at h ⊢
    rw [h p (by simp)]
    rw [asm_congr f _ fun q hq => h q (List.mem_cons_of_mem _ hq)]

theorem gbool_congr : ∀ (f : Nat) (g : Option (Nat × Bool)), (∀ q ∈ asm s f g, s'.look q.1 = s.look q.1) → gbool s' f g = gbool s f g
  | 0, none, _ => rfl
  | _ + 1, none, _ => rfl
  | 0, some p, _ => rfl
  | f + 1, some p, h => by
    simp only [gbool]
    rw [h p (by simp [asm])]
    split
    · rename_i g c hx
      rw [gbool_congr f g fun q hq => h q (by simp only [asm, hx]; exact List.mem_cons_of_mem _ hq)]
    · rfl

theorem underG_congr {g : Option (Nat × Bool)} (l : List Bool) (h : ∀ q ∈ asm s 32 g, s'.look q.1 = s.look q.1) : underG s' g l = underG s g l := by
  cases l with
  | nil => rfl
  | cons x r =>
    cases g with
    | none => rfl
    | some p => simp only [underG]; rw [gbool_congr 32 (some p) h]

theorem generic_congr (hsel : ∀ cs b, o.op ≠ .select cs b) (h : ∀ x ∈ opsOf o.op, ∀ t, x = .tmp t → s'.look t = s.look t) : generic P tbl s' A o = generic P tbl s A o := by
  have hev : ∀ x ∈ opsOf o.op, ev s' A x = ev s A x := fun x hx => ev_congr (h x hx)
  have hok : (opsOf o.op).all (vok s' A) = (opsOf o.op).all (vok s A) := by
    rw [Bool.eq_iff_iff]
    simp only [List.all_eq_true]
    constructor
    · intro hh x hx; have := hh x hx; unfold vok at *; rwa [hev x hx] at this
    · intro hh x hx; have := hh x hx; unfold vok at *; rwa [hev x hx]
  have hcg : execOp (vof s' A) o = execOp (vof s A) o := execOp_congr o hsel fun x hx => by
    unfold vof; rw [hev x (mem_opsOf hx)]
  unfold generic
  rw [hok, hcg]

theorem opV_congr (h : opV P tbl s A nid o = some r) (hl : ∀ t ∈ tmpsOf (opsOf o.op), s'.look t = s.look t) (he : ∀ id ∈ r.ids, s'.ent id = s.ent id) (hu : nid ∈ r.ids → s'.used nid = s.used nid) : opV P tbl s' A nid o = some r := by
  have hl' : ∀ x ∈ opsOf o.op, ∀ t, x = .tmp t → s'.look t = s.look t := fun x hx t ht => hl t (mem_tmpsOf (ht ▸ hx))
  have hev : ∀ (A : List (Nat × Bool)) (x : Operand), x ∈ opsOf o.op → ev s' A x = ev s A x := fun A x hx => ev_congr (hl' x hx)
  have hgen := fun hsel => generic_congr (P := P) (tbl := tbl) (A := A) hsel hl'
  obtain ⟨dst, op, ty, pos, after, guard⟩ := o
  cases op <;> simp only [opV] at h ⊢
  case move x => rw [hev A x (by simp [opsOf, Op.operands])]; exact h
  case assign x => rw [hev A x (by simp [opsOf, Op.operands])]; exact h
  case pick c x y =>
    rw [hev A c (by simp [opsOf, Op.operands])]
    split at h
    · rename_i jc cb hc
      try simp only [hc]
      rw [hev _ x (by simp [opsOf, Op.operands]), hev _ y (by simp [opsOf, Op.operands])]
      exact h
    · cases h
  case alloc T =>
    split at h
    · rename_i i hi
      split at h
      · rename_i z hz
        cases hun : s.used nid with
        | true => simp [hun] at h
        | false =>
          simp only [hun, cond_false, Option.some.injEq] at h
          have := hu (by rw [← h]; simp)
          rw [this, hun]
          simp only [cond_false, h]
      · cases h
    · cases h
  case box T x =>
    rw [hev A x (by simp [opsOf, Op.operands])]
    split at h
    · rename_i v hx
      split at h
      · rename_i cs hcs
        cases hun : s.used nid with
        | true => simp [hun] at h
        | false =>
          simp only [hun, cond_false, Option.some.injEq] at h
          have := hu (by rw [← h]; simp)
          rw [this, hun]
          simp only [cond_false, h]
      · cases h
    · cases h
  case load T x =>
    rw [hev A x (by simp [opsOf, Op.operands])]
    split at h
    · rename_i id off hx
      try simp only [hx]
      split at h
      · rename_i U cs hent
        split at h
        · rename_i v hv
          cases h
          rw [he id (by simp), hent]
          simp only [hv]
        · cases h
      · cases h
    · cases h
  case store T x y =>
    rw [hev A x (by simp [opsOf, Op.operands]), hev A y (by simp [opsOf, Op.operands])]
    split at h
    · rename_i id off v hx hy
      try simp only [hx, hy]
      split at h
      · rename_i U cs ns hent hns
        cases hok : storeOk P T off cs ns with
        | false => simp [hok] at h
        | true =>
          simp only [hok, cond_true, Option.some.injEq] at h
          have := he id (by rw [← h]; simp)
          rw [this, hent]
          simp only [hns, hok, cond_true, h]
      · cases h
    · cases h
  case fieldAddr T x f =>
    rw [hev A x (by simp [opsOf, Op.operands])]
    exact h
  case nilCheck x =>
    rw [hev A x (by simp [opsOf, Op.operands]), hgen (fun _ _ => by simp)]
    exact h
  case extract x i =>
    rw [hev A x (by simp [opsOf, Op.operands])]
    exact h
  case select => cases h
  all_goals (rw [hgen (fun _ _ => by simp)]; exact h)

theorem opV_new (h : opV P tbl s A nid o = some r) : r.new = [] ∨ r.new = [nid] := by
  have hg : ∀ {r : Raw}, generic P tbl s A o = some r → r.new = [] := by
    intro r h
    unfold generic at h
    cases hall : (opsOf o.op).all (vok s A) with
    | false => simp [hall] at h
    | true =>
      simp only [hall, cond_true] at h
      split at h
      · cases h; rfl
      · split at h
        · split at h
          · cases h; rfl
          · cases h
        · cases h
      · cases h
  obtain ⟨dst, op, ty, pos, after, guard⟩ := o
  cases op <;> simp only [opV] at h
  case move x => cases hx : ev s A x with
    | none => simp [hx] at h
    | some v => simp [hx] at h; subst h; exact .inl rfl
  case assign x => cases hx : ev s A x with
    | none => simp [hx] at h
    | some v => simp [hx] at h; subst h; exact .inl rfl
  case pick c x y =>
    split at h
    · split at h
      · rename_i vx vy hx hy
        cases hm : mergeSV ‹Bool› vx vy with
        | none => simp [hm] at h
        | some v => simp [hm] at h; subst h; exact .inl rfl
      · cases h
    · cases h
  case alloc T =>
    split at h
    · split at h
      · cases hu : s.used nid with
        | true => simp [hu] at h
        | false => simp [hu] at h; subst h; exact .inr rfl
      · cases h
    · cases h
  case box T x =>
    split at h
    · split at h
      · cases hu : s.used nid with
        | true => simp [hu] at h
        | false => simp [hu] at h; subst h; exact .inr rfl
      · cases h
    · cases h
  case load T x =>
    split at h
    · split at h
      · split at h
        · cases h; exact .inl rfl
        · cases h
      · cases h
    · cases h
  case store T x y =>
    split at h
    · rename_i id off v hx hy
      split at h
      · rename_i U cs ns he hns
        cases hok : storeOk P T off cs ns with
        | false => simp [hok] at h
        | true => simp [hok] at h; subst h; exact .inl rfl
      · cases h
    · cases h
  case fieldAddr T x f =>
    split at h
    · split at h
      · cases h; exact .inl rfl
      · cases h
    · cases h
  case nilCheck x =>
    split at h
    · cases h; exact .inl rfl
    · exact .inl (hg h)
  case extract x i =>
    split at h
    · rename_i vs hx
      cases hv : vs[i]? with
      | none => simp [hv] at h
      | some v => simp [hv] at h; subst h; exact .inl rfl
    · cases h
  case select => cases h
  all_goals exact .inl (hg h)

theorem opD_wids (h : opD P tbl W ops s i o = some d) : ∀ k ∈ wids d, k ∈ d.ids := by
  unfold opD at h
  split at h
  · cases h
  · rename_i g _
    cases hok : (dstOk W s o.dst && guardOk s g) with
    | false => simp [hok] at h
    | true =>
      simp only [hok, cond_true] at h
      split at h
      · cases h
      · split at h
        · cases h
          intro k hk
          simp only [wids, List.mem_append] at hk ⊢
          rcases hk with hk | hk
          · exact .inl (.inr hk)
          · exact .inr hk
        · cases h; intro k hk; simp [wids] at hk
        · cases h

theorem opD_new (h : opD P tbl W ops s i o = some d) : d.new = [] ∨ d.new = [s.next + i] := by
  unfold opD at h
  split at h
  · cases h
  · rename_i g _
    cases hok : (dstOk W s o.dst && guardOk s g) with
    | false => simp [hok] at h
    | true =>
      simp only [hok, cond_true] at h
      split at h
      · cases h
      · rename_i r hr
        split at h
        · cases h; exact opV_new hr
        · cases h; exact .inl rfl
        · cases h

theorem opD_dst (h : opD P tbl W ops s i o = some d) : d.dst = o.dst := by
  unfold opD at h
  split at h
  · cases h
  · rename_i g _
    cases hok : (dstOk W s o.dst && guardOk s g) with
    | false => simp [hok] at h
    | true =>
      simp only [hok, cond_true] at h
      split at h
      · cases h
      · split at h
        · cases h; rfl
        · cases h; rfl
        · cases h

theorem opD_congr (h : opD P tbl W ops s i o = some d) (hl : ∀ t ∈ looks ops s o, s'.look t = s.look t ∧ s'.wr t = s.wr t) (hd : ∀ t, o.dst = some t → s'.wr t = s.wr t)
    (he : ∀ id ∈ d.ids, s'.ent id = s.ent id) (hu : s.next + i ∈ d.ids → s'.used (s.next + i) = s.used (s.next + i)) (hn : s'.next = s.next) : opD P tbl W ops s' i o = some d := by
  unfold opD at h ⊢
  split at h
  · cases h
  · rename_i g hg
    have hl1 : ∀ t ∈ tmpsOf (opsOf o.op), s'.look t = s.look t := fun t ht => (hl t (by simp [looks, ht])).1
    have hl2 : ∀ q ∈ asm s 32 g, s'.look q.1 = s.look q.1 ∧ s'.wr q.1 = s.wr q.1 := fun q hq => hl q.1 (by simp only [looks, hg, List.mem_append]; exact .inr (List.mem_map_of_mem hq))
    have hasm : asm s' 32 g = asm s 32 g := asm_congr 32 g fun q hq => (hl2 q hq).1
    have hdst : dstOk W s' o.dst = dstOk W s o.dst := by
      unfold dstOk
      cases hod : o.dst with
      | none => rfl
      | some k => simp only [hd k hod]
    have hgo : guardOk s' g = guardOk s g := by
      cases g with
      | none => rfl
      | some p => exact (hl2 p (by simp [asm])).2
    simp only [hdst, hgo, hasm, hn]
    cases hok : (dstOk W s o.dst && guardOk s g) with
    | false => simp [hok] at h
    | true =>
      simp only [hok, cond_true] at h ⊢
      split at h
      · cases h
      · rename_i r hr
        have hids : ∀ id ∈ r.ids, s'.ent id = s.ent id := by
          split at h
          · cases h; exact fun id hid => he id (by simp [hid])
          · cases h; exact fun id hid => he id (by simpa using hid)
          · cases h
        have hu' : s.next + i ∈ r.ids → s'.used (s.next + i) = s.used (s.next + i) := by
          intro hid
          split at h
          · cases h; exact hu (by simp [hid])
          · cases h; exact hu (by simpa using hid)
          · cases h
        rw [opV_congr hr hl1 hids hu']
        cases g with
        | none => exact h
        | some p =>
          have hug := underG_congr (g := some p) r.nd fun q hq => (hl2 q hq).1
          cases hes : r.es with
          | nil => cases hnew : r.new with
            | nil => simp only [hes, hnew] at h ⊢; rw [hug]; exact h
            | cons x y => simp only [hes, hnew] at h; cases h
          | cons x y => simp only [hes] at h; cases h

end
end Go.SX

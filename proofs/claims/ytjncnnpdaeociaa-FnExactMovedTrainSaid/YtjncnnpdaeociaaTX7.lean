/- A symbolic evaluator over the model's own operations, part 7: a region that draws its order. -/
import Derived.Test.YtjncnnpdaeociaaTX6
namespace Go.SX
open Go.RowKit

section
variable {P : Program} {tbl : List (PF P)} {s s' : St} {i nid : Nat} {W : Nat → Bool} {A : List (Nat × Bool)} {ops : List Oper} {o : Oper} {d : Dl} {r : Raw}

theorem ev_congr {look look' : Nat → Option SS} {x : Operand} (h : ∀ t, x = .tmp t → look' t = look t) : ev look' A x = ev look A x := by
  cases x with
  | tmp t => simp only [ev, h t rfl]
  | _ => rfl

theorem asm_congr : ∀ (f : Nat) (g : Option (Nat × Bool)), (∀ q ∈ asm s f g, s'.look q.1 = s.look q.1) → asm s' f g = asm s f g
  | 0, none, _ => rfl
  | _ + 1, none, _ => rfl
  | 0, some p, _ => rfl
  | f + 1, some p, h => by
    simp only [asm] at h ⊢
    rw [h p (by simp)]
    rw [asm_congr f _ fun q hq => h q (List.mem_cons_of_mem _ hq)]

theorem gbool_congr : ∀ (f : Nat) (g : Option (Nat × Bool)), (∀ q ∈ asm s f g, s'.look q.1 = s.look q.1) → gbool s' f g = gbool s f g
  | 0, none, _ => rfl
  | _ + 1, none, _ => rfl
  | 0, some p, _ => rfl
  | f + 1, some p, h => by
    simp only [gbool]
    rw [h p (by simp [asm])]
    split
    · rename_i g c hx
      rw [gbool_congr f g fun q hq => h q (by simp only [asm, hx]; exact List.mem_cons_of_mem _ hq)]
    · rfl

theorem gval_congr : ∀ (f : Nat) (g : Option (Nat × Bool)), (∀ q ∈ asm s f g, s'.look q.1 = s.look q.1) → gval s' f g = gval s f g
  | 0, none, _ => rfl
  | _ + 1, none, _ => rfl
  | 0, some p, _ => rfl
  | f + 1, some p, h => by
    simp only [gval]
    rw [h p (by simp [asm])]
    split
    · rename_i g c hx
      rw [gval_congr f g fun q hq => h q (by simp only [asm, hx]; exact List.mem_cons_of_mem _ hq)]
    · rfl

theorem underG_congr {g : Option (Nat × Bool)} (l : List Bool) (h : ∀ q ∈ asm s 32 g, s'.look q.1 = s.look q.1) : underG s' g l = underG s g l := by
  cases l with
  | nil => rfl
  | cons x r =>
    cases g with
    | none => rfl
    | some p => simp only [underG]; rw [gbool_congr 32 (some p) h]

theorem direct_congr {look look' : Nat → Option SS} : ∀ (l : List Operand), (∀ t ∈ tmpsOf l, look' t = look t) → direct look' A l = direct look A l
  | [], _ => rfl
  | x :: r, h => by
    have h1 : ev look' A x = ev look A x := ev_congr fun t ht => h t (by subst ht; simp [tmpsOf])
    have h2 : ∀ t ∈ tmpsOf r, look' t = look t := fun t ht => h t (by cases x <;> simp [tmpsOf, ht])
    simp only [direct, h1, direct_congr r h2]

theorem slotIds_congr {look look' : Nat → Option SS} : ∀ (l : List Nat), (∀ t ∈ l, look' t = look t) → slotIds look' l = slotIds look l
  | [], _ => rfl
  | t :: r, h => by
    simp only [slotIds, h t (by simp), slotIds_congr r fun t ht => h t (by simp [ht])]

theorem addN_mem : ∀ (l acc : List Nat) (i : Nat), i ∈ acc → i ∈ addN acc l
  | [], acc, i, h => h
  | k :: r, acc, i, h => by
    simp only [addN]
    cases memN acc k with
    | true => exact addN_mem r acc i h
    | false => exact addN_mem r _ i (by simp [h])

theorem reach_mem {ent : Nat → Option Entry} : ∀ (f : Nat) (l : List Nat) (i : Nat), i ∈ l → i ∈ reach ent f l
  | 0, _, _, h => h
  | f + 1, _, i, h => reach_mem f _ i (addN_mem _ _ i h)

theorem joinL_ids_congr {ent ent' : Nat → Option Entry} {l : List Nat} (h : ∀ i ∈ l, ent' i = ent i) : l.map (entIds ent') = l.map (entIds ent) :=
  List.map_congr_left fun i hi => by unfold entIds; rw [h i hi]

theorem reach_congr {ent ent' : Nat → Option Entry} : ∀ (f : Nat) (l : List Nat), (∀ i ∈ reach ent f l, ent' i = ent i) → reach ent' f l = reach ent f l
  | 0, l, _ => rfl
  | f + 1, l, h => by
    simp only [reach] at h ⊢
    have h1 : l.map (entIds ent') = l.map (entIds ent) := joinL_ids_congr fun i hi => h i (reach_mem f _ i (addN_mem _ _ i hi))
    rw [h1]
    exact reach_congr f _ h

theorem touch_congr {look look' : Nat → Option SS} {ent ent' : Nat → Option Entry} (hl : ∀ t ∈ tmpsOf (opsOf o.op), look' t = look t) (he : ∀ i ∈ touch look ent A o, ent' i = ent i) : touch look' ent' A o = touch look ent A o := by
  have hd := direct_congr (A := A) _ hl
  unfold touch at he ⊢
  split <;> simp only [hd]
  rename_i c heq
  rw [heq] at he
  simp only at he
  split <;> try rfl
  rename_i hb
  exact reach_congr 4 _ fun i hi => he i (by
    split
    · rename_i b hb'; exact (hb b hb').elim
    · rw [heq] at hi; exact hi)

theorem rsF_congr {α : Type} {f f' : Nat → Option α} {l : List Nat} (h : ∀ i ∈ l, f' i = f i) : rsF f' l = rsF f l := by
  funext i
  unfold rsF
  cases hm : memN l i with
  | true => simp only [cond_true]; exact h i (SX.memN_mem.1 hm)
  | false => rfl

theorem guardEs_congr {c : Bool} {ent ent' : Nat → Option Entry} : ∀ {es : List (Nat × Entry)}, (∀ i ∈ keys es, ent' i = ent i) → guardEs c ent' es = guardEs c ent es
  | [], _ => rfl
  | p :: r, h => by
    simp only [guardEs, h p.1 (by simp [keys]), guardEs_congr (es := r) fun i hi => h i (by simp only [keys, List.map_cons, List.mem_cons] at hi ⊢; exact .inr hi)]

theorem finD_ids {g : Option (Nat × Bool)} {ids : List Nat} (h : finD s o g ids r = some d) : (∀ i ∈ ids, i ∈ d.ids) ∧ (∀ i ∈ keys r.es, i ∈ d.ids) ∧ (∀ i ∈ r.new, i ∈ d.ids) ∧ (∀ k ∈ wids d, k ∈ d.ids) ∧ d.dst = o.dst := by
  unfold finD at h
  split at h
  · cases h
    refine ⟨fun i hi => by simp [hi], fun i hi => by simp [hi], fun i hi => by simp [hi], fun k hk => ?_, rfl⟩
    simp only [wids, List.mem_append] at hk ⊢
    exact .inr hk
  · split at h
    · rename_i h1 h2
      cases h
      rw [h1, h2]
      exact ⟨fun i hi => hi, fun i hi => by simp [keys] at hi, fun i hi => by simp at hi, fun k hk => by simp [wids] at hk, rfl⟩
    · split at h
      · split at h
        · rename_i es' hes'
          split at h
          · cases h
            obtain ⟨k1, _⟩ := look?_guardEs hes'
            refine ⟨fun i hi => by simp [hi], fun i hi => by simp [hi], fun i hi => by simp [hi], fun k hk => ?_, rfl⟩
            simp only [wids, List.mem_append] at hk ⊢
            rw [← k1]
            exact .inr hk
          · cases h
        · cases h
      · cases h

theorem opD_inv (h : opD P tbl W ops s i o = some d) : ∃ g r, gslot ops o = some g ∧ opR P tbl s.look s.ent (asm s 32 g) ((s.next + i) * 64) o = some r ∧ finD s o g (touch s.look s.ent (asm s 32 g) o) r = some d ∧
    (dstOk W s o.dst && guardOk s g) = true ∧ (r.new.all (fun i => !s.used i) && r.v.inUb (memN (srcs s.look s.ent (touch s.look s.ent (asm s 32 g) o) o r.new))) = true := by
  unfold opD at h
  split at h
  · cases h
  · rename_i g hg
    cases hok : (dstOk W s o.dst && guardOk s g) with
    | false => simp [hok] at h
    | true =>
      simp only [hok, cond_true] at h
      split at h
      · cases h
      · rename_i r hr
        cases hck : (r.new.all (fun i => !s.used i) && r.v.inUb (memN (srcs s.look s.ent (touch s.look s.ent (asm s 32 g) o) o r.new))) with
        | false => simp [hck] at h
        | true => simp only [hck, cond_true] at h; exact ⟨g, r, hg, hr, h, hok, hck⟩

theorem opD_wids (h : opD P tbl W ops s i o = some d) : ∀ k ∈ wids d, k ∈ d.ids := by
  obtain ⟨g, r, _, _, hf, _⟩ := opD_inv h
  exact (finD_ids hf).2.2.2.1

theorem opD_dst (h : opD P tbl W ops s i o = some d) : d.dst = o.dst := by
  obtain ⟨g, r, _, _, hf, _⟩ := opD_inv h
  exact (finD_ids hf).2.2.2.2

theorem opD_congr (h : opD P tbl W ops s i o = some d) (hl : ∀ t ∈ looks ops s o, s'.look t = s.look t ∧ s'.wr t = s.wr t) (hd : ∀ t, o.dst = some t → s'.wr t = s.wr t)
    (he : ∀ id ∈ d.ids, s'.ent id = s.ent id) (hu : ∀ id ∈ d.ids, s'.used id = s.used id) (hn : s'.next = s.next) : opD P tbl W ops s' i o = some d := by
  obtain ⟨g, r, hg, hr, hf, hok, hck⟩ := opD_inv h
  obtain ⟨f1, f2, f3, _, _⟩ := finD_ids hf
  have hl1 : ∀ t ∈ tmpsOf (opsOf o.op), s'.look t = s.look t := fun t ht => (hl t (by simp [looks, ht])).1
  have hl2 : ∀ q ∈ asm s 32 g, s'.look q.1 = s.look q.1 ∧ s'.wr q.1 = s.wr q.1 := fun q hq => hl q.1 (by simp only [looks, hg, List.mem_append]; exact .inr (List.mem_map_of_mem hq))
  have hasm : asm s' 32 g = asm s 32 g := asm_congr 32 g fun q hq => (hl2 q hq).1
  have hdst : dstOk W s' o.dst = dstOk W s o.dst := by
    unfold dstOk
    cases hod : o.dst with
    | none => rfl
    | some k => simp only [hd k hod]
  have hgo : guardOk s' g = guardOk s g := by
    cases g with
    | none => rfl
    | some p => exact (hl2 p (by simp [asm])).2
  have ht : touch s'.look s'.ent (asm s 32 g) o = touch s.look s.ent (asm s 32 g) o := touch_congr hl1 fun i hi => he i (f1 i hi)
  have hR : opR P tbl s'.look s'.ent (asm s 32 g) ((s.next + i) * 64) o = some r := by
    unfold opR at hr ⊢
    rw [ht, rsF_congr hl1, rsF_congr fun i hi => he i (f1 i hi)]
    exact hr
  have hnew : r.new.all (fun i => !s'.used i) = r.new.all (fun i => !s.used i) := by
    rw [Bool.eq_iff_iff]; simp only [List.all_eq_true]
    exact ⟨fun hh i hi => by rw [← hu i (f3 i hi)]; exact hh i hi, fun hh i hi => by rw [hu i (f3 i hi)]; exact hh i hi⟩
  have hsrc : ∀ new, srcs s'.look s'.ent (touch s.look s.ent (asm s 32 g) o) o new = srcs s.look s.ent (touch s.look s.ent (asm s 32 g) o) o new := fun new => by
    simp only [srcs, slotIds_congr _ hl1, joinL_ids_congr fun i hi => he i (f1 i hi)]
  have hfin : finD s' o g (touch s.look s.ent (asm s 32 g) o) r = finD s o g (touch s.look s.ent (asm s 32 g) o) r := by
    unfold finD
    cases g with
    | none => rfl
    | some p =>
      simp only
      rw [underG_congr r.nd fun q hq => (hl2 q hq).1, gval_congr 32 (some p) fun q hq => (hl2 q hq).1]
      split
      · rfl
      · split
        · rw [guardEs_congr fun i hi => he i (f2 i hi), hsrc]
          rw [show (keys r.es).all (fun i => (s'.ent i).isSome || memN r.new i) = (keys r.es).all (fun i => (s.ent i).isSome || memN r.new i) from by
            rw [Bool.eq_iff_iff]; simp only [List.all_eq_true]
            exact ⟨fun hh i hi => by rw [← he i (f2 i hi)]; exact hh i hi, fun hh i hi => by rw [he i (f2 i hi)]; exact hh i hi⟩]
        · rfl
  unfold opD
  simp only [hg, hdst, hgo, hasm, hn, ht, hR, hok, hck, hnew, hsrc, cond_true, hfin, hf]

end
end Go.SX

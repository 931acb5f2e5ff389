/- A symbolic evaluator over the model's own operations, part 4e: every operation. -/
import Derived.Test.YtjncnnpdaeociaaTX4v
namespace Go.SX
open Go.RowKit

section
variable {P : Program} {tbl : List (PF P)} {s : St} {look : Nat → Option SS} {ent : Nat → Option Entry} {A : List (Nat × Bool)} {nid : Nat} {o : Oper} {r : Raw} {B : Base} {ρ : Nm} {a : Act} {w : World} {K : Act → World → Prop} {Q : Exit → Act → World → Prop}

theorem callK_sound (c : Ctx B ρ s a w look ent A) {k : FuncId} {args : List SV} {L : List Nat} (hin : ∀ v ∈ args, v.inU s.used) (hr : (execOp a.eval o).run P w = .ok (.enter k (args.map (SV.conc ρ)).toArray) w)
    (h : callK tbl ent nid k args L = some r) (hnew : ∀ i ∈ r.new, s.used i = false) (hnd : ∀ b ∈ r.nd, b = true) (hC : Cont B s ρ r o a K) : o.wp P a w K Q := by
  unfold callK at h
  split at h
  · rename_i args' es0 ha hes
    split at h
    · rename_i out hout
      simp only at h
      split at h
      · rename_i v es' hv hes'
        cases hnd' : noDup L with
        | false => simp [hnd'] at h
        | true =>
          simp only [hnd', cond_true] at h
          cases h
          have hn := noDup_nodup hnd'
          have hlend := lend (B := B) (w := w) c.hE c.hp hn hes
          have hc := callPF_ok hout hnd (memBig w s.ent ρ L) (subNm ρ L) w hlend
          have hargs : args'.map (SV.conc (subNm ρ L)) = args.map (SV.conc ρ) :=
            mapO_map ha fun x hx y hy => SV.ren_conc (U := s.used) (fun i j _ hj => subNm_at (posN_get hj)) (hin x hx) hy
          rw [hargs] at hc
          unfold Oper.wp; rw [hr]
          refine hc.mono fun e w' ⟨ρc, hx, he, hl, hU, hpl⟩ => ?_
          subst he
          have hl0 : es0.length = L.length := (mapO_get hes).1
          obtain ⟨ρ', hX, hren, hp⟩ := back (m := out.new.length) c.hE c.hp hn hes hnew (by rw [List.length_append, hl, hl0]) hx hpl hes'
          exact hC ρ' _ w' hX (SV.ren_conc hren hU hv).symm hp
      · cases h
    · cases h
  · cases h

theorem run_callFunc {k : FuncId} {args : Array Value} (h : okFn P k = true) : (callFunc k args).run P w = .ok (.enter k args) w := by
  unfold okFn at h
  split at h
  · rename_i fn hfn
    simp only [Bool.and_eq_true, Bool.not_eq_true'] at h
    obtain ⟨h1, h2⟩ := h
    unfold callFunc
    have h3 : ¬ fn.name = "runtime.NumGoroutine" := by simpa using h1
    have h4 : fn.body ≠ none := fun e => by rw [e] at h2; cases h2
    simp [program, Sem.run_bind, Sem.run, hfn, h3, h4]
  · cases h

theorem capsV_conc (caps : List Nat) : (capsV caps).map (SV.conc ρ) = caps.map fun id => Value.pointer (some ⟨blkN (ρ id), 0, none⟩) := by
  simp only [capsV, List.map_map]; rfl

theorem callV_sound (c : Ctx B ρ s a w look ent A) {cl : Call} {f : Operand} (ho : o.op = .call cl) (hf : cl.callee = .value f) (h : callV P tbl look ent A nid f cl.args.toList = some r)
    (hnew : ∀ i ∈ r.new, s.used i = false) (hnd : ∀ b ∈ r.nd, b = true) (hC : Cont B s ρ r o a K) : o.wp P a w K Q := by
  obtain ⟨dst, op, ty, pos, after, guard⟩ := o
  simp only at ho; subst ho
  unfold callV at h
  split at h
  · rename_i k fi ca vs hk hvs
    split at h
    · rename_i h1 h2
      have e1 : fi = #[] := by rw [← Array.toArray_toList (xs := fi), h1]
      have e2 : ca = #[] := by rw [← Array.toArray_toList (xs := ca), h2]
      subst e1; subst e2
      cases hok : okFn P k with
      | false => simp [hok] at h
      | true =>
        simp only [hok, cond_true] at h
        obtain ⟨g1, g2⟩ := evs_conc c hvs
        have hkv := (c.evC hk).1
        simp only [Cell.conc] at hkv
        refine callK_sound c g2 ?_ h hnew hnd hC
        have hag : cl.args.map a.eval = (vs.map (SV.conc ρ)).toArray := by rw [← g1, ← Array.toArray_toList (xs := cl.args.map a.eval), Array.toList_map]
        simp [execOp, resolve, hf, Deferred.ofValue, hkv, invoke, hag, run_callFunc hok]
    · cases h
  · rename_i k caps vs hk hvs
    cases hok : okFn P k with
    | false => simp [hok] at h
    | true =>
      simp only [hok, cond_true] at h
      obtain ⟨g1, g2⟩ := evs_conc c hvs
      obtain ⟨hkv, hku⟩ := c.evC hk
      simp only [Cell.conc] at hkv
      refine callK_sound c (fun v hv => ?_) ?_ h hnew hnd hC
      · rcases List.mem_append.1 hv with hv | hv
        · exact g2 v hv
        · simp only [capsV, List.mem_map] at hv
          obtain ⟨id, hid, rfl⟩ := hv
          intro x hx; simp only [List.mem_singleton] at hx; subst hx; exact hku id hid
      · have hag : cl.args.map a.eval = (vs.map (SV.conc ρ)).toArray := by rw [← g1, ← Array.toArray_toList (xs := cl.args.map a.eval), Array.toList_map]
        simp [execOp, resolve, hf, Deferred.ofValue, hkv, invoke, hag, run_callFunc hok, capsV_conc]
  · cases h

end

/-- The first answer. -/
def orE {α : Type} : Option α → Option α → Option α
  | some a, _ => some a
  | none, b => b

theorem orE_some {α : Type} {x y : Option α} {r : α} (h : orE x y = some r) : x = some r ∨ y = some r := by
  cases x with
  | none => exact .inr h
  | some a => exact .inl h

/-- One operation. -/
def opV (P : Program) (tbl : List (PF P)) (look : Nat → Option SS) (ent : Nat → Option Entry) (A : List (Nat × Bool)) (nid : Nat) (o : Oper) : Option Raw :=
  match o.op with
  | .move x => moveV P look A nid o.type x
  | .assign x => moveV P look A nid o.type x
  | .pick c x y => pickV look A c x y
  | .alloc T => allocV P nid T
  | .box T x => boxV P look A nid T x
  | .load T x => loadV P look ent A nid T x
  | .store T x y => storeV P look ent A nid T x y
  | .fieldAddr T x f => fieldAddrV P look A T x f
  | .field T x f => orE (generic P look A o) (fieldV P look A T x f)
  | .nilCheck x => orE (nilCheckV look A x) (generic P look A o)
  | .indexAddr T x ix => indexAddrV P look ent A T x ix
  | .index T x ix => orE (indexV P look A T x ix) (generic P look A o)
  | .slice T x lo hi mx => sliceV P look ent A nid (PF.marked tbl) T x lo hi mx
  | .makeFunc fn fi ca => makeFuncV look A fn fi ca
  | .makeSlice T l c => makeSliceV P look A nid T l c
  | .buildSlice T n ps => buildSliceV P look ent A nid T n ps
  | .build T ps => orE (buildV P look A nid T ps) (generic P look A o)
  | .binOp op T x y _ => orE (divV look A op x y) (orE (eqV P look A op T x y) (orE (eqNilV P look ent A op T x y) (generic P look A o)))
  | .extract x i => match ev look A x with
    | some (.tup vs) => vs[i]?.map fun v => Raw.ofV (.one v)
    | _ => none
  | .call cl => match cl.callee, cl.args.toList with
    | .builtin .len, [x] => orE (lenV P look ent A cl.argTypes x) (generic P look A o)
    | .builtin .append, [x, y] => appendV P look ent A nid cl.argTypes x y
    | .builtin _, _ => generic P look A o
    | .value f, args => callV P tbl look ent A nid f args
    | _, _ => none
  | .select _ _ => none
  | _ => generic P look A o

section
variable {P : Program} {tbl : List (PF P)} {s : St} {look : Nat → Option SS} {ent : Nat → Option Entry} {A : List (Nat × Bool)} {nid : Nat} {o : Oper} {r : Raw} {B : Base} {ρ : Nm} {a : Act} {w : World} {K : Act → World → Prop} {Q : Exit → Act → World → Prop}

theorem opV_sound (c : Ctx B ρ s a w look ent A) (h : opV P tbl look ent A nid o = some r) (hnew : ∀ i ∈ r.new, s.used i = false) (hnd : ∀ b ∈ r.nd, b = true) (hC : Cont B s ρ r o a K) : o.wp P a w K Q := by
  unfold opV at h
  cases hop : o.op <;> rw [hop] at h <;> simp only at h
  case move x => exact moveV_sound c (.inl hop) h hnew hC
  case assign x => exact moveV_sound c (.inr hop) h hnew hC
  case pick cc x y => exact pickV_sound c hop h hC
  case alloc T => exact allocV_sound c hop h hnew hC
  case box T x => exact boxV_sound c hop h hnew hC
  case load T x => exact loadV_sound c hop h hnew hnd hC
  case store T x y => exact storeV_sound c hop h hnd hC
  case fieldAddr T x f => exact fieldAddrV_sound c hop h hC
  case field T x f =>
    rcases orE_some h with h | h
    · exact generic_sound c (fun _ _ => by simp [hop]) h hC
    · exact fieldV_sound c hop h hC
  case nilCheck x =>
    rcases orE_some h with h | h
    · exact nilCheckV_sound c hop h hC
    · exact generic_sound c (fun _ _ => by simp [hop]) h hC
  case indexAddr T x ix => exact indexAddrV_sound c hop h hnd hC
  case index T x ix =>
    rcases orE_some h with h | h
    · exact indexV_sound c hop h hnd hC
    · exact generic_sound c (fun _ _ => by simp [hop]) h hC
  case slice T x lo hi mx => exact sliceV_sound c hop h hnew hnd hC
  case makeFunc fn fi ca => exact makeFuncV_sound c hop h hC
  case makeSlice T l m => exact makeSliceV_sound c hop h hnew hnd hC
  case buildSlice T n ps => exact buildSliceV_sound c hop h hnew hC
  case build T ps =>
    rcases orE_some h with h | h
    · exact buildV_sound c hop h hnew hC
    · exact generic_sound c (fun _ _ => by simp [hop]) h hC
  case binOp bop T x y T' =>
    rcases orE_some h with h | h
    · exact divV_sound c hop h hnd hC
    · rcases orE_some h with h | h
      · exact eqV_sound c hop h hC
      rcases orE_some h with h | h
      · exact eqNilV_sound c hop h hnd hC
      · exact generic_sound c (fun _ _ => by simp [hop]) h hC
  case extract x i =>
    obtain ⟨dst, op, ty, pos, after, guard⟩ := o
    simp only at hop; subst hop
    split at h
    · rename_i vs hx
      cases hv : vs[i]? with
      | none => simp [hv] at h
      | some v =>
        simp [hv] at h; subst h
        refine wp_of_value (u := v.conc ρ) (w' := w) ?_ (Cont.same (v := .one v) rfl hC c.hp)
        have := (c.ev hx).1
        simp [execOp, this, SV.conc, Instr.extract, hv]
    · cases h
  case call cl =>
    split at h
    · rename_i x hcl hargs
      rcases orE_some h with h | h
      · exact lenV_sound c hop hcl hargs h hC
      · exact generic_sound c (fun _ _ => by simp [hop]) h hC
    · rename_i x y hcl hargs
      exact appendV_sound c hop hcl hargs h hnew hnd hC
    · exact generic_sound c (fun _ _ => by simp [hop]) h hC
    · rename_i f hcl
      exact callV_sound c hop hcl h hnew hnd hC
    · cases h
  case select => cases h
  all_goals exact generic_sound c (fun _ _ => by simp [hop]) h hC

end
end Go.SX

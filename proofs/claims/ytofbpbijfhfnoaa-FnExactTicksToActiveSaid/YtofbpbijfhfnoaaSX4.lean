/- A symbolic evaluator over the model's own operations, part 4: what is said of one operation holds. -/
import Derived.Test.YtofbpbijfhfnoaaSX3
namespace Go.SX
open Go.RowKit

section
variable {P : Program} {tbl : List (PF P)} {s : St} {A : List (Nat × Bool)} {nid : Nat} {o : Oper} {r : Raw} {B : Base} {ρ : Nm} {a : Act} {w : World} {K : Act → World → Prop} {Q : Exit → Act → World → Prop}

/-- What follows behind the operation. -/
def Cont (B : Base) (s : St) (ρ : Nm) (r : Raw) (o : Oper) (a : Act) (K : Act → World → Prop) : Prop :=
  ∀ (ρ' : Nm) (u : Value) (w' : World), (∀ id, s.used id = true → ρ' id = ρ id) → u = r.v.conc ρ' → r.v.inU (usedOf s.used r.new) → Hp B ρ' (entOf s.ent r.es) (usedOf s.used r.new) w' → K (a.put o.dst u) w'

theorem wp_of_value {u : Value} {w' : World} (hr : (execOp a.eval o).run P w = .ok (.value u) w') (h : K (a.put o.dst u) w') : o.wp P a w K Q := by
  unfold Oper.wp; rw [hr]; exact h

theorem wp_of_skip {w' : World} (hr : (execOp a.eval o).run P w = .ok .skip w') (h : K (a.put o.dst undef) w') : o.wp P a w K Q := by
  unfold Oper.wp; rw [hr]; exact h

theorem wp_of_enter {f : FuncId} {args : Array Value} {v : Value} (hr : (execOp a.eval o).run P w = .ok (.enter f args) w)
    (hc : Calls P f args w fun e w' => e = .returned v ∧ Below w.heap.size w w') (h : ∀ w', Below w.heap.size w w' → K (a.put o.dst v) w') : o.wp P a w K Q := by
  unfold Oper.wp; rw [hr]
  exact hc.mono fun e w' ⟨he, hb⟩ => by subst he; exact h w' hb

/-- The world stays as it is. -/
theorem Cont.same {v : SV} (hv : v.inU s.used) {nd : List Bool} {ids : List Nat} (hr : r = ⟨v, [], [], ids, nd⟩) (hC : Cont B s ρ r o a K) {w' : World} (hp : Hp B ρ s.ent s.used w') : K (a.put o.dst (v.conc ρ)) w' := by
  subst hr
  exact hC ρ _ w' (fun _ _ => rfl) rfl hv hp

theorem vof_conc (hM : Mdl B ρ s a w) (hA : ∀ q ∈ A, yl a.tmps q.1 = some q.2) {x : Operand} (h : vok s A x = true) : vof s A x = a.eval x := by
  unfold vok at h
  unfold vof
  cases he : ev s A x with
  | none => simp [he] at h
  | some v =>
    simp only [he] at h
    cases ht : v.toValue? with
    | none => simp [ht] at h
    | some u => rw [ev_conc hM hA he, SV.toValue?_conc ρ ht]; simp only [ht]

theorem generic_sound (hM : Mdl B ρ s a w) (hA : ∀ q ∈ A, yl a.tmps q.1 = some q.2) (hsel : ∀ cs b, o.op ≠ .select cs b) (h : generic P tbl s A o = some r) (hnd : ∀ b ∈ r.nd, b = true) (hC : Cont B s ρ r o a K) : o.wp P a w K Q := by
  unfold generic at h
  cases hall : (opsOf o.op).all (vok s A) with
  | false => simp [hall] at h
  | true =>
    simp only [hall, cond_true] at h
    have hcg : execOp a.eval o = execOp (vof s A) o := execOp_congr o hsel fun x hx => by
      have hm := mem_opsOf hx
      exact (vof_conc hM hA (List.all_eq_true.1 hall x hm)).symm
    split at h
    · rename_i v hv
      cases h
      have hrun := pureRun_run P _ _ hv w
      rw [← hcg] at hrun
      refine wp_of_value hrun ?_
      have := Cont.same (SV.ofValue_inU _ v) rfl hC hM.hp
      rwa [SV.conc_ofValue] at this
    · rename_i f args hv
      have hrun := pureRun_run P _ _ hv w
      rw [← hcg] at hrun
      split at h
      · rename_i p hp
        split at h
        · rename_i v nd hF
          cases h
          have hc := p.ok _ _ _ hF hnd w
          rw [findPF_k hp] at hc
          refine wp_of_enter hrun (by simpa using hc) fun w' hb => ?_
          have := Cont.same (SV.ofValue_inU _ v) rfl hC (hM.hp.below hb)
          rwa [SV.conc_ofValue] at this
        · cases h
      · cases h
    · cases h

theorem run_isAgg {T : TypeId} {d : TypeDesc} (h : P.underlying T = some d) (w : World) : (isAgg T).run P w = .ok (isAggD d) w := by
  unfold isAgg
  rw [Sem.run_bind, run_underlying h w]
  cases d <;> rfl

theorem addr_add (b off j : Nat) : (⟨b, off, none⟩ : Addr).add j = ⟨b, off + j, none⟩ := by
  unfold Addr.add; split <;> simp_all

theorem run_loadC {T U : TypeId} {off : Nat} {cs : List Cell} {v : V1} {b : Nat} (hv : loadC P T off cs = some v) (hh : w.heap[b]? = some (.cells (cs.map (Cell.conc ρ)).toArray U (0, 0))) :
    (loadVar T ⟨b, off, none⟩).run P w = .ok (v.conc ρ) w := by
  have hcell : ∀ j, w.cell? ⟨b, j, none⟩ = (cs.map (Cell.conc ρ))[j]? := fun j => by simp [World.cell?, hh]
  unfold loadC at hv
  split at hv
  · rename_i d i hd hi
    split at hv
    · rename_i hag
      cases hb : Nat.ble (off + i.size) cs.length with
      | false => simp [hb] at hv
      | true =>
        simp [hb] at hv; subst hv
        have hle := Nat.le_of_ble_eq_true hb
        have hlen : (((cs.drop off).take i.size).map (Cell.conc ρ)).length = i.size := by simp; omega
        have hl : (loadCells ⟨b, off, none⟩ (((cs.drop off).take i.size).map (Cell.conc ρ)).length).run P w = .ok (((cs.drop off).take i.size).map (Cell.conc ρ)).toArray w :=
          run_loadCells_list (P := P) w _ _ fun j u hj => by
            rw [addr_add, hcell]
            rw [← hj]
            simp only [List.getElem?_map, List.getElem?_take, List.getElem?_drop]
            split
            · rfl
            · rename_i hlt
              have := (List.getElem?_eq_some_iff.1 hj).1
              rw [hlen] at this; omega
        rw [hlen] at hl
        simp [loadVar, Sem.run_bind, run_isAgg hd, hag, sizeOf, typeInfo, hi, hl, V1.conc]
    · rename_i hag
      split at hv
      · rename_i c hc
        cases hv
        have : w.cell? ⟨b, off, none⟩ = some (c.conc ρ) := by rw [hcell]; simp [hc]
        simp [loadVar, Sem.run_bind, run_isAgg hd, hag, V1.conc, this]
      · cases hv
  · cases hv

theorem run_storeC {T U : TypeId} {off : Nat} {cs ns : List Cell} {v : Value} {b : Nat} (hok : storeOk P T off cs ns = true) (hv : v.cells = (ns.map (Cell.conc ρ)).toArray) (hh : w.heap[b]? = some (.cells (cs.map (Cell.conc ρ)).toArray U (0, 0))) :
    (storeVar T ⟨b, off, none⟩ v).run P w = .ok () (w.setRow b ((cs.take off ++ ns ++ cs.drop (off + ns.length)).map (Cell.conc ρ)).toArray) := by
  unfold storeOk at hok
  split at hok
  · rename_i i hi
    simp only [Bool.and_eq_true] at hok
    obtain ⟨⟨h1, h2⟩, h3⟩ := hok
    have h1 := Nat.eq_of_beq_eq_true h1
    have h2 := Nat.le_of_ble_eq_true h2
    have hst := run_storeCells_at P b off U (ns.map (Cell.conc ρ)) 0 _ w hh (by simp; omega) (fun u hu => by
      obtain ⟨c, hc, rfl⟩ := List.mem_map.1 hu
      exact Cell.one_conc ρ (List.all_eq_true.1 h3 c hc))
    have hsz : v.cells.size = i.size := by rw [hv]; simp [h1]
    have hvl : v.cells.toList = ns.map (Cell.conc ρ) := by rw [hv]
    simp only [storeVar, sizeOf, typeInfo, program, Sem.run_bind, Sem.run, hi, Result.andThen_ok, Sem.run_pure, hsz, ne_eq, not_true_eq_false, if_false, hvl]
    rw [hst]
    simp [List.map_take, List.map_drop]
  · cases hok

theorem ptr_conc {id off : Nat} : (SV.one ⟨false, [.ptr id off]⟩).conc ρ = .pointer (some ⟨ρ id, off, none⟩) := rfl
theorem ptr_conc' {id off : Nat} : (ptrV id off).conc ρ = .pointer (some ⟨ρ id, off, none⟩) := rfl

theorem loadC_inU {U : Nat → Bool} {T : TypeId} {off : Nat} {cs : List Cell} {v : V1} (hv : loadC P T off cs = some v) (hin : ∀ c ∈ cs, c.inU U) : v.inU U := by
  unfold loadC at hv
  split at hv
  · rename_i i _ _
    split at hv
    · cases hb : Nat.ble (off + i.size) cs.length with
      | false => simp [hb] at hv
      | true =>
        simp [hb] at hv; subst hv
        exact fun c hc => hin c (List.mem_of_mem_drop (List.mem_of_mem_take hc))
    · split at hv
      · rename_i c hc
        cases hv
        intro c' hc'
        simp only [List.mem_singleton] at hc'; subst hc'
        exact hin _ (List.mem_of_getElem? hc)
      · cases hv
  · cases hv

theorem opV_sound (hM : Mdl B ρ s a w) (hA : ∀ q ∈ A, yl a.tmps q.1 = some q.2) (h : opV P tbl s A nid o = some r) (hnd : ∀ b ∈ r.nd, b = true) (hC : Cont B s ρ r o a K) : o.wp P a w K Q := by
  obtain ⟨dst, op, ty, pos, after, guard⟩ := o
  cases op <;> simp only [opV] at h
  case move x =>
    cases hx : ev s A x with
    | none => simp [hx] at h
    | some v =>
      simp [hx] at h; subst h
      refine wp_of_value (u := a.eval x) (w' := w) rfl ?_
      rw [ev_conc hM hA hx]
      exact Cont.same (ev_inU hM hx) rfl hC hM.hp
  case assign x =>
    cases hx : ev s A x with
    | none => simp [hx] at h
    | some v =>
      simp [hx] at h; subst h
      refine wp_of_value (u := a.eval x) (w' := w) rfl ?_
      rw [ev_conc hM hA hx]
      exact Cont.same (ev_inU hM hx) rfl hC hM.hp
  case pick c x y =>
    split at h
    · rename_i jc cb hc
      split at h
      · rename_i vx vy hx hy
        cases hm : mergeSV cb vx vy with
        | none => simp [hm] at h
        | some v =>
          simp [hm] at h; subst h
          have hcv : a.eval (.tmp jc) = .bool cb := ev_conc hM hA hc
          have hyl : yl a.tmps jc = some cb := by
            simp only [Act.eval, Array.getD_eq_getD_getElem?] at hcv
            unfold yl
            cases hq : a.tmps[jc]? with
            | none => rw [hq] at hcv; simp [undef] at hcv
            | some u => rw [hq] at hcv; simp at hcv; subst hcv; rfl
          have hin : v.inU s.used := mergeSV_inU (ev_inU hM hx) hm
          refine wp_of_value (u := cond cb (a.eval x) (a.eval y)) (w' := w) ?_ ?_
          · cases cb <;> simp [execOp, hcv, asBool]
          · have : cond cb (a.eval x) (a.eval y) = v.conc ρ := by
              rw [mergeSV_sound ρ hm]
              have hA' : ∀ q ∈ (jc, cb) :: A, yl a.tmps q.1 = some q.2 := fun q hq => by
                rcases List.mem_cons.1 hq with rfl | hq
                · exact hyl
                · exact hA q hq
              cases cb with
              | true => simpa using ev_conc hM hA' hx
              | false => simpa using ev_conc hM hA' hy
            rw [this]
            exact Cont.same hin rfl hC hM.hp
      · cases h
    · cases h
  case alloc T =>
    split at h
    · rename_i i hi
      split at h
      · rename_i z hz
        cases hu : s.used nid with
        | true => simp [hu] at h
        | false =>
          simp [hu] at h; subst h
          obtain ⟨h1, h2⟩ := hM.hp.alloc hu T (z.cells.toList.map Cell.val) (fun c hc => by obtain ⟨v, _, rfl⟩ := List.mem_map.1 hc; trivial)
          have hcc : ((z.cells.toList.map Cell.val).map (Cell.conc ρ)).toArray = z.cells := by
            rw [List.map_map, show (Cell.conc ρ ∘ Cell.val) = id from rfl, List.map_id]
          rw [hcc] at h1
          refine wp_of_value (u := .pointer (some ⟨w.heap.size, 0, none⟩)) (w' := w.alloc (.cells z.cells T)) ?_ ?_
          · simp [execOp, Instr.alloc, zeroValue, typeInfo, hi, hz, newVar, newRow, newObj]; rfl
          · refine hC (upd ρ nid w.heap.size) _ _ h2 ?_ ?_ h1
            · simp [ptr_conc', upd_same]
            · intro c hc; simp only [List.mem_singleton] at hc; subst hc; simp [Cell.inU, usedOf, memN]
      · cases h
    · cases h
  case box T x =>
    split at h
    · rename_i v hx
      split at h
      · rename_i cs hcs
        cases hu : s.used nid with
        | true => simp [hu] at h
        | false =>
          simp [hu] at h; subst h
          obtain ⟨h1, h2⟩ := hM.hp.alloc hu T cs (V1.cells?_inU (ev_inU hM hx) hcs)
          refine wp_of_value (u := .pointer (some ⟨w.heap.size, 0, none⟩)) (w' := w.alloc (.cells (cs.map (Cell.conc ρ)).toArray T)) ?_ ?_
          · have := ev_conc hM hA hx
            simp [execOp, Instr.box, newVar, newRow, newObj, this, SV.conc, V1.cells?_conc ρ hcs]; rfl
          · refine hC (upd ρ nid w.heap.size) _ _ h2 ?_ ?_ h1
            · simp [ptr_conc', upd_same]
            · intro c hc; simp only [List.mem_singleton] at hc; subst hc; simp [Cell.inU, usedOf, memN]
      · cases h
    · cases h
  case load T x =>
    split at h
    · rename_i id off hx
      split at h
      · rename_i U cs he
        split at h
        · rename_i v hv
          cases h
          obtain ⟨⟨hh, _⟩, _, hin⟩ := hM.he _ _ he
          have hr := run_loadC (ρ := ρ) hv hh
          refine wp_of_value (u := v.conc ρ) (w' := w) ?_ ?_
          · have := ev_conc hM hA hx
            simp [execOp, Instr.loadAt, this, ptr_conc, Instr.sureAddr, hr]
          · refine hC ρ _ w (fun _ _ => rfl) rfl ?_ hM.hp
            exact loadC_inU hv hin
        · cases h
      · cases h
    · cases h
  case store T x y =>
    split at h
    · rename_i id off v hx hy
      split at h
      · rename_i U cs ns he hns
        cases hok : storeOk P T off cs ns with
        | false => simp [hok] at h
        | true =>
          simp [hok] at h; subst h
          obtain ⟨⟨hh, _⟩, _, hin⟩ := hM.he _ _ he
          have hnin := V1.cells?_inU (ev_inU hM hy) hns
          have hr := run_storeC (ρ := ρ) hok (V1.cells?_conc ρ hns) hh
          obtain ⟨W, hW⟩ : ∃ W, W = w.setRow (ρ id) ((cs.take off ++ ns ++ cs.drop (off + ns.length)).map (Cell.conc ρ)).toArray := ⟨_, rfl⟩
          rw [← hW] at hr
          refine wp_of_skip (w' := W) ?_ ?_
          · have h1 := ev_conc hM hA hx
            have h2 := ev_conc hM hA hy
            rw [ptr_conc] at h1
            simp [execOp, Instr.storeAt, h1, h2, Instr.sureAddr, SV.conc, hr]
          · refine hC ρ _ _ (fun _ _ => rfl) (SV.conc_ofValue ρ undef).symm (by exact SV.ofValue_inU _ undef) ?_
            have := hM.hp.setRow he (ns := cs.take off ++ ns ++ cs.drop (off + ns.length)) (fun c hc => by
              simp only [List.append_assoc, List.mem_append] at hc
              rcases hc with hc | hc | hc
              · exact hin c (List.mem_of_mem_take hc)
              · exact hnin c hc
              · exact hin c (List.mem_of_mem_drop hc))
            rw [hW]; simpa [List.append_assoc, usedOf_nil] using this
      · cases h
    · cases h
  case fieldAddr T x f =>
    split at h
    · rename_i id off hx
      split at h
      · rename_i d hd
        cases h
        refine wp_of_value (u := .pointer (some ⟨ρ id, off + d, none⟩)) (w' := w) ?_ ?_
        · have := ev_conc hM hA hx
          unfold fieldOff at hd
          split at hd
          · rename_i fs hfs
            split at hd
            · rename_i fd hfd
              split at hd
              · rename_i i hi
                cases hz : Nat.beq i.size 0 with
                | true => simp [hz] at hd
                | false =>
                  simp [hz] at hd; subst hd
                  have hne : i.size ≠ 0 := fun h0 => by rw [h0] at hz; cases hz
                  simp [execOp, Instr.fieldAt, run_underlying hfs, hfd, this, ptr_conc, Instr.sureAddr, fieldPlace, sizeOf, typeInfo, hi, hne, addr_add]
              · cases hd
            · cases hd
          · cases hd
        · have hi := ev_inU hM hx
          have hid : s.used id = true := hi (.ptr id off) (by simp)
          exact Cont.same (v := ptrV id (off + d)) (fun c hc => by simp only [List.mem_singleton] at hc; subst hc; exact hid) rfl hC hM.hp
      · cases h
    · cases h
  case nilCheck x =>
    split at h
    · rename_i id off hx
      cases h
      have hv := ev_conc hM hA hx
      refine wp_of_value (u := a.eval x) (w' := w) ?_ ?_
      · simp [execOp, hv, ptr_conc]
      · rw [hv]
        exact Cont.same (v := ptrV id off) (ev_inU hM hx) rfl hC hM.hp
    · exact generic_sound hM hA (fun _ _ => by simp) h hnd hC
  case extract x i =>
    split at h
    · rename_i vs hx
      cases hv : vs[i]? with
      | none => simp [hv] at h
      | some v =>
        simp [hv] at h; subst h
        refine wp_of_value (u := v.conc ρ) (w' := w) ?_ ?_
        · have := ev_conc hM hA hx
          simp [execOp, this, SV.conc, Instr.extract, hv]
        · have hin := ev_inU hM hx
          exact Cont.same (v := .one v) (hin v (List.mem_of_getElem? hv)) rfl hC hM.hp
    · cases h
  case select => cases h
  all_goals exact generic_sound hM hA (fun _ _ => by simp) h hnd hC


theorem generic_inU (U : Nat → Bool) (h : generic P tbl s A o = some r) : r.v.inU U := by
  unfold generic at h
  cases hall : (opsOf o.op).all (vok s A) with
  | false => simp [hall] at h
  | true =>
    simp only [hall, cond_true] at h
    split at h
    · cases h; exact SV.ofValue_inU _ _
    · split at h
      · split at h
        · cases h; exact SV.ofValue_inU _ _
        · cases h
      · cases h
    · cases h

theorem opV_inU (hM : Mdl B ρ s a w) (h : opV P tbl s A nid o = some r) (hnew : r.new = []) : r.v.inU s.used := by
  obtain ⟨dst, op, ty, pos, after, guard⟩ := o
  cases op <;> simp only [opV] at h
  case move x => cases hx : ev s A x with
    | none => simp [hx] at h
    | some v => simp [hx] at h; subst h; exact ev_inU hM hx
  case assign x => cases hx : ev s A x with
    | none => simp [hx] at h
    | some v => simp [hx] at h; subst h; exact ev_inU hM hx
  case pick c x y =>
    split at h
    · rename_i jc cb hc
      split at h
      · rename_i vx vy hx hy
        cases hm : mergeSV cb vx vy with
        | none => simp [hm] at h
        | some v => simp [hm] at h; subst h; exact mergeSV_inU (ev_inU hM hx) hm
      · cases h
    · cases h
  case alloc T =>
    split at h
    · split at h
      · cases hu : s.used nid with
        | true => simp [hu] at h
        | false => simp [hu] at h; subst h; cases hnew
      · cases h
    · cases h
  case box T x =>
    split at h
    · split at h
      · cases hu : s.used nid with
        | true => simp [hu] at h
        | false => simp [hu] at h; subst h; cases hnew
      · cases h
    · cases h
  case load T x =>
    split at h
    · rename_i id off hx
      split at h
      · rename_i U cs he
        split at h
        · rename_i v hv
          cases h
          exact loadC_inU hv (hM.he _ _ he).2.2
        · cases h
      · cases h
    · cases h
  case store T x y =>
    split at h
    · rename_i id off v hx hy
      split at h
      · rename_i U cs ns he hns
        cases hok : storeOk P T off cs ns with
        | false => simp [hok] at h
        | true => simp [hok] at h; subst h; exact SV.ofValue_inU _ undef
      · cases h
    · cases h
  case fieldAddr T x f =>
    split at h
    · rename_i id off hx
      split at h
      · cases h
        have hid : s.used id = true := ev_inU hM hx (.ptr id off) (by simp)
        intro c hc; simp only [List.mem_singleton] at hc; subst hc; exact hid
      · cases h
    · cases h
  case nilCheck x =>
    split at h
    · rename_i id off hx
      cases h
      exact ev_inU hM hx
    · exact generic_inU _ h
  case extract x i =>
    split at h
    · rename_i vs hx
      cases hv : vs[i]? with
      | none => simp [hv] at h
      | some v => simp [hv] at h; subst h; exact ev_inU hM hx v (List.mem_of_getElem? hv)
    · cases h
  case select => cases h
  all_goals exact generic_inU _ h

end
end Go.SX

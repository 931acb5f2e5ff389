/- A symbolic evaluator over the model's own operations, part 4o: the operations one by one. -/
import Derived.Test.YtjncnnpdaeociaaTX4
namespace Go.SX
open Go.RowKit

section
variable {P : Program} {s : St} {look : Nat → Option SS} {ent : Nat → Option Entry} {A : List (Nat × Bool)} {nid : Nat} {o : Oper} {r : Raw} {B : Base} {ρ : Nm} {a : Act} {w : World} {K : Act → World → Prop} {Q : Exit → Act → World → Prop}

theorem moveV_sound (c : Ctx B ρ s a w look ent A) {T : TypeId} {x : Operand} (ho : o.op = .move x ∨ o.op = .assign x) (h : moveV P look A nid T x = some r) (hnew : ∀ i ∈ r.new, s.used i = false) (hC : Cont B s ρ r o a K) : o.wp P a w K Q := by
  have hr : ∀ w, (execOp a.eval o).run P w = .ok (.value (a.eval x)) w := fun w => by
    obtain ⟨dst, op, ty, pos, after, guard⟩ := o
    rcases ho with ho | ho <;> (simp only at ho; subst ho; rfl)
  unfold moveV at h
  split at h
  · rename_i v hv
    cases h
    obtain ⟨h1, h2⟩ := c.ev hv
    obtain ⟨ρ', hx, _, hp, hcc, _⟩ := fixV_sound (P := P) (T := T) (n := nid) (v := v) c.hp h2 hnew
    refine wp_of_value (hr w) (hC ρ' _ w hx ?_ hp)
    rw [h1]; exact hcc.symm
  · rename_i v hv
    cases h
    obtain ⟨h1, h2⟩ := c.ev hv
    refine wp_of_value (hr w) ?_
    rw [h1]
    exact Cont.same rfl hC c.hp
  · cases h

theorem pickV_sound (c : Ctx B ρ s a w look ent A) {cc x y : Operand} (ho : o.op = .pick cc x y) (h : pickV look A cc x y = some r) (hC : Cont B s ρ r o a K) : o.wp P a w K Q := by
  obtain ⟨dst, op, ty, pos, after, guard⟩ := o
  simp only at ho; subst ho
  unfold pickV at h
  split at h
  · rename_i jc cb hc
    split at h
    · rename_i vx vy hx hy
      cases hm : mergeSV cb vx vy with
      | none => simp [hm] at h
      | some v =>
        simp [hm] at h; subst h
        have hcv : a.eval (.tmp jc) = .bool cb := (c.evC hc).1
        have hyl : yl a.tmps jc = some cb := by
          simp only [Act.eval, Array.getD_eq_getD_getElem?] at hcv
          unfold yl
          cases hq : a.tmps[jc]? with
          | none => rw [hq] at hcv; simp [undef] at hcv
          | some u => rw [hq] at hcv; simp at hcv; subst hcv; rfl
        refine wp_of_value (u := cond cb (a.eval x) (a.eval y)) (w' := w) ?_ ?_
        · cases cb <;> simp [execOp, hcv, asBool]
        · have : cond cb (a.eval x) (a.eval y) = v.conc ρ := by
            rw [mergeSV_sound ρ hm]
            have hA' : ∀ q ∈ (jc, cb) :: A, yl a.tmps q.1 = some q.2 := fun q hq => by
              rcases List.mem_cons.1 hq with rfl | hq
              · exact hyl
              · exact c.hA q hq
            cases cb with
            | true => simpa using ev_conc c.hM c.hL hA' hx
            | false => simpa using ev_conc c.hM c.hL hA' hy
          rw [this]
          exact Cont.same rfl hC c.hp
    · cases h
  · cases h

theorem conc_vals (ρ : Nm) (l : List Value) : (l.map Cell.val).map (Cell.conc ρ) = l := by
  rw [List.map_map, show (Cell.conc ρ ∘ Cell.val) = id from rfl, List.map_id]

theorem keys_mem {l : List (Nat × Entry)} {i : Nat} {e : Entry} (h : look? l i = some e) : i ∈ keys l := by
  induction l with
  | nil => simp [look?] at h
  | cons p l ih =>
    simp only [look?] at h
    simp only [keys, List.map_cons, List.mem_cons]
    cases hb : Nat.beq p.1 i with
    | true => exact .inl (Nat.eq_of_beq_eq_true hb).symm
    | false => simp [hb] at h; exact .inr (ih h)

theorem usedOf_keys {used : Nat → Bool} {l : List Nat} {i : Nat} (h : i ∈ l) : usedOf used l i = true := by simp [usedOf, memN_mem.2 h]

theorem usedOf_not {used : Nat → Bool} {l : List Nat} {i : Nat} (h : i ∉ l) (hu : used i = false) : usedOf used l i = false := by
  have : memN l i = false := by
    cases hm : memN l i with
    | false => rfl
    | true => exact (h (memN_mem.1 hm)).elim
  simp [usedOf, this, hu]

/-- A variable with cells that are fixed first. -/
theorem newVar_sound (c : Ctx B ρ s a w look ent A) {T : TypeId} {cs : List Cell} (hcs : ∀ x ∈ cs, x.inU s.used)
    (hr : (execOp a.eval o).run P w = .ok (.value (.pointer (some ⟨w.heap.size, 0, none⟩))) (w.alloc (.cells (cs.map (Cell.conc ρ)).toArray T)))
    (hnew : ∀ i ∈ nid :: keys (fixV P T (nid + 1) ⟨true, cs⟩).es, s.used i = false)
    (hC : Cont B s ρ ⟨one (.ptr nid 0), (nid, .box T (fixV P T (nid + 1) ⟨true, cs⟩).v.cs) :: (fixV P T (nid + 1) ⟨true, cs⟩).es, nid :: keys (fixV P T (nid + 1) ⟨true, cs⟩).es, []⟩ o a K) : o.wp P a w K Q := by
  obtain ⟨ρ1, hx1, hm1, hp1, _, _, hcc⟩ := fixV_sound (P := P) (T := T) (n := nid + 1) (v := ⟨true, cs⟩) c.hp hcs fun i hi => hnew i (by simp [hi])
  have hun : usedOf s.used (keys (fixV P T (nid + 1) ⟨true, cs⟩).es) nid = false := usedOf_not (fun hi => by have := fixV_ge hi; omega) (hnew nid (by simp))
  have hin : ∀ x ∈ (fixV P T (nid + 1) ⟨true, cs⟩).v.cs, x.inU (usedOf s.used (keys (fixV P T (nid + 1) ⟨true, cs⟩).es)) :=
    fixV_inU (v := ⟨true, cs⟩) (fun x hx => Cell.inU_mono usedOf_mono (hcs x hx)) fun i hi => usedOf_keys hi
  obtain ⟨hx2, hp2⟩ := hp1.alloc hun T (fixV P T (nid + 1) ⟨true, cs⟩).v.cs hin
  rw [hcc, entOf_append, usedOf_append] at hp2
  refine wp_of_value hr (hC _ _ _ (hx1.trans hx2 usedOf_mono) ?_ hp2)
  simp only [one, SV.conc, V1.conc, Cell.conc]
  rw [upd_same _ _ rfl]; rfl

theorem allocV_sound (c : Ctx B ρ s a w look ent A) {T : TypeId} (ho : o.op = .alloc T) (h : allocV P nid T = some r) (hnew : ∀ i ∈ r.new, s.used i = false) (hC : Cont B s ρ r o a K) : o.wp P a w K Q := by
  obtain ⟨dst, op, ty, pos, after, guard⟩ := o
  simp only at ho; subst ho
  unfold allocV at h
  split at h
  · rename_i i hi
    split at h
    · rename_i z hz
      cases h
      refine newVar_sound c (fun x hx => ?_) ?_ hnew hC
      · obtain ⟨v, _, rfl⟩ := List.mem_map.1 hx; trivial
      · rw [conc_vals]
        simp [execOp, Instr.alloc, zeroValue, typeInfo, hi, hz, newVar, newRow, newObj]; rfl
    · cases h
  · cases h

theorem boxV_sound (c : Ctx B ρ s a w look ent A) {T : TypeId} {x : Operand} (ho : o.op = .box T x) (h : boxV P look A nid T x = some r) (hnew : ∀ i ∈ r.new, s.used i = false) (hC : Cont B s ρ r o a K) : o.wp P a w K Q := by
  obtain ⟨dst, op, ty, pos, after, guard⟩ := o
  simp only at ho; subst ho
  unfold boxV at h
  split at h
  · rename_i v hv
    split at h
    · rename_i cs hcs
      cases h
      obtain ⟨h1, h2⟩ := c.ev1 hv
      refine newVar_sound c (V1.cells?_inU h2 hcs) ?_ hnew hC
      simp [execOp, Instr.box, newVar, newRow, newObj, h1, V1.cells?_conc ρ hcs]; rfl
    · cases h
  · cases h

theorem addr_add (b off j : Nat) : (⟨b, off, none⟩ : Addr).add j = ⟨b, off + j, none⟩ := by
  unfold Addr.add; split <;> simp_all

theorem run_isAgg {T : TypeId} {d : TypeDesc} (h : P.underlying T = some d) (w : World) : (isAgg T).run P w = .ok (isAggD d) w := by
  unfold isAgg
  rw [Sem.run_bind, run_underlying h w]
  cases d <;> rfl

theorem run_loadC {T : TypeId} {off base b : Nat} {cs : List Cell} {v : V1} (hv : loadC P T off cs = some v) (hcell : ∀ j u, (cs.map (Cell.conc ρ))[j]? = some u → w.cell? ⟨b, base + j, none⟩ = some u) :
    (loadVar T ⟨b, base + off, none⟩).run P w = .ok (v.conc ρ) w := by
  unfold loadC at hv
  split at hv
  · rename_i d i hd hi
    split at hv
    · rename_i hag
      cases hb : Nat.ble (off + i.size) cs.length with
      | false => simp [hb] at hv
      | true =>
        simp [hb] at hv; subst hv
        have hle := Nat.le_of_ble_eq_true hb
        have hlen : (((cs.drop off).take i.size).map (Cell.conc ρ)).length = i.size := by simp; omega
        have hl : (loadCells ⟨b, base + off, none⟩ (((cs.drop off).take i.size).map (Cell.conc ρ)).length).run P w = .ok (((cs.drop off).take i.size).map (Cell.conc ρ)).toArray w :=
          run_loadCells_list (P := P) w _ _ fun j u hj => by
            rw [addr_add, Nat.add_assoc]
            refine hcell _ _ ?_
            rw [← hj]
            simp only [List.getElem?_map, List.getElem?_take, List.getElem?_drop]
            split
            · rfl
            · rename_i hlt
              have := (List.getElem?_eq_some_iff.1 hj).1
              rw [hlen] at this; omega
        rw [hlen] at hl
        simp [loadVar, Sem.run_bind, run_isAgg hd, hag, sizeOf, typeInfo, hi, hl, V1.conc]
    · rename_i hag
      split at hv
      · rename_i c hc
        cases hv
        have : w.cell? ⟨b, base + off, none⟩ = some (c.conc ρ) := hcell _ _ (by simp [hc])
        simp [loadVar, Sem.run_bind, run_isAgg hd, hag, V1.conc, this]
      · cases hv
  · cases hv

theorem run_storeC {T U : TypeId} {off b : Nat} {cur : Array Value} {n : Nat} {ns : List Cell} {v : Value} {off0 : Nat} (hok : storeOk P T off0 n ns = true) (hle : off0 + ns.length ≤ n → off + ns.length ≤ cur.size) (hv : v.cells = (ns.map (Cell.conc ρ)).toArray) (hh : w.heap[b]? = some (.cells cur U (0, 0))) :
    (storeVar T ⟨b, off, none⟩ v).run P w = .ok () (w.setRow b (cur.toList.take off ++ ns.map (Cell.conc ρ) ++ cur.toList.drop (off + ns.length)).toArray) := by
  unfold storeOk at hok
  split at hok
  · rename_i i hi
    simp only [Bool.and_eq_true] at hok
    obtain ⟨⟨h1, h2⟩, h3⟩ := hok
    have h1 := Nat.eq_of_beq_eq_true h1
    have h2 := hle (Nat.le_of_ble_eq_true h2)
    have hst := run_storeCells_at P b off U (ns.map (Cell.conc ρ)) 0 cur w hh (by simp; omega) (fun u hu => by
      obtain ⟨c, hc, rfl⟩ := List.mem_map.1 hu
      have := List.all_eq_true.1 h3 c hc
      cases c with
      | val v => exact this
      | ref id => exact slim_one _
      | _ => rfl)
    have hsz : v.cells.size = i.size := by rw [hv]; simp [h1]
    have hvl : v.cells.toList = ns.map (Cell.conc ρ) := by rw [hv]
    simp only [storeVar, sizeOf, typeInfo, program, Sem.run_bind, Sem.run, hi, Result.andThen_ok, Sem.run_pure, hsz, ne_eq, not_true_eq_false, if_false, hvl]
    rw [hst]
    simp
  · cases hok

end
end Go.SX

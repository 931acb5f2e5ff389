/- A symbolic evaluator over the model's own operations, part 4p: loads, stores, addresses. -/
import Derived.Test.YtjncnnpdaeociaaTX4o
namespace Go.SX
open Go.RowKit

section
variable {P : Program} {s : St} {look : Nat → Option SS} {ent : Nat → Option Entry} {A : List (Nat × Bool)} {nid : Nat} {o : Oper} {r : Raw} {B : Base} {ρ : Nm} {a : Act} {w : World} {K : Act → World → Prop} {Q : Exit → Act → World → Prop}

theorem cell_of_block {b k : Nat} {arr : Array Value} {T : TypeId} {fz : Nat × Nat} (h : w.heap[b]? = some (.cells arr T fz)) : w.cell? ⟨b, k, none⟩ = arr[k]? := by
  simp [World.cell?, h]

/-- The cells of an element, where they lie. -/
theorem row_chunk {own : Bool} {id : Nat} {e : TypeId} {t : CTy} {xs : List (E t)} (h : (Entry.row own e t xs).holds B ρ w id) (hf : ∀ b o, ρ.mem b = some o → w.heap[b]? = some o) {i : Nat} {x : E t} (hx : xs[i]? = some x) :
    ∃ chunk, Rep ρ.mem t chunk x ∧ ∀ j u, chunk[j]? = some u → w.cell? ⟨blkN (ρ id), offN (ρ id) + i * t.size + j, none⟩ = some u := by
  cases own with
  | false =>
    rcases h with ⟨_, hn⟩ | ⟨b, off, cap, arr, T, fz, h1, h2, h3, h4, h5⟩
    · rw [hn] at hx; simp at hx
    · refine ⟨_, h5 i x hx, fun j u hj => ?_⟩
      rw [h1]
      simp only [blkN, offN]
      rw [cell_of_block (hf _ _ h4)]
      simp only [List.getElem?_take, List.getElem?_drop] at hj
      split at hj
      · simpa using hj
      · cases hj
  | true =>
    obtain ⟨cs, h1, h2, _⟩ := h
    refine ⟨_, h2.2 i x hx, fun j u hj => ?_⟩
    have hlt := chunk_le (z := t.size) (List.getElem?_eq_some_iff.1 hx).1
    rcases h1.2 with ⟨_, hn⟩ | ⟨g, cap, cur, hv, _, hg, hle, hcm, hsz, htk⟩
    · have := (List.getElem?_eq_some_iff.1 hx).1; omega
    · rw [hv]
      simp only [blkN, offN, Nat.zero_add]
      rw [cell_of_block hg]
      rw [← htk] at hj
      simp only [List.getElem?_take, List.getElem?_drop] at hj
      split at hj
      · split at hj
        · simpa using hj
        · cases hj
      · cases hj

theorem getD_of {α : Type} {xs : List α} {i : Nat} {d : α} (h : i < xs.length) : xs[i]? = some (xs[i]?.getD d) := by
  rw [List.getElem?_eq_getElem h]; rfl

theorem el_conc {id z i off : Nat} : (Cell.el id z i off).conc ρ = .pointer (some ⟨blkN (ρ id), offN (ρ id) + (i * z + off), none⟩) := rfl
theorem ptr_conc {id off : Nat} : (Cell.ptr id off).conc ρ = .pointer (some ⟨blkN (ρ id), off, none⟩) := rfl

theorem loadV_sound (c : Ctx B ρ s a w look ent A) {T : TypeId} {x : Operand} (ho : o.op = .load T x) (h : loadV P look ent A nid T x = some r) (hnew : ∀ i ∈ r.new, s.used i = false) (hnd : ∀ b ∈ r.nd, b = true) (hC : Cont B s ρ r o a K) : o.wp P a w K Q := by
  obtain ⟨dst, op, ty, pos, after, guard⟩ := o
  simp only at ho; subst ho
  unfold loadV at h
  split at h
  · rename_i id off hx
    split at h
    · rename_i U cs he
      split at h
      · rename_i v hv
        cases h
        obtain ⟨⟨b, h1, h2, _⟩, _, _⟩ := c.hp.he _ _ (c.hE _ _ he)
        have hr := run_loadC (P := P) (ρ := ρ) (base := 0) (b := b) (w := w) hv fun j u hj => by
          rw [Nat.zero_add, cell_of_block h2]; simpa using hj
        rw [Nat.zero_add] at hr
        refine wp_of_value (u := v.conc ρ) (w' := w) ?_ (Cont.same (v := .one v) rfl hC c.hp)
        have := (c.evC hx).1
        rw [ptr_conc, h1] at this
        simp only [blkN] at this
        simp [execOp, Instr.loadAt, this, Instr.sureAddr, hr]
      · cases h
    · cases h
  · rename_i id z i off hx
    split at h
    · rename_i own e t xs he
      cases hz : Nat.beq z t.size with
      | false => simp [hz] at h
      | true =>
        have := Nat.eq_of_beq_eq_true hz; subst this
        simp only [hz, cond_true] at h
        split at h
        · rename_i v hv
          cases h
          have hi : i < xs.length := by simpa using hnd (decide (i < xs.length)) (by simp)
          obtain ⟨h1, hid, _⟩ := c.hp.he _ _ (c.hE _ _ he)
          obtain ⟨chunk, hc1, hc2⟩ := row_chunk h1 c.hp.hf.dat (getD_of (d := dflt t) hi)
          obtain ⟨ρ', m', k', e', r'⟩ := open_sound t chunk _ nid ρ hc1
          have hnm : ∀ id, s.used id = true → ρ' id = ρ id := fun id hid => k' id (by
            have : ¬ (nid ≤ id ∧ id < nid + t.nsl) := fun hh => by
              have := hnew id (memN_mem.1 (mem_idsFrom.2 hh))
              rw [this] at hid; cases hid
            omega)
          obtain ⟨hX, hp⟩ := c.hp.names (es := openN t (xs[i]?.getD (dflt t)) nid) (new := idsFrom nid t.nsl) hnm m' fun id e he => by
            obtain ⟨⟨e0, t0, ys, rfl, hr⟩, h3, h4⟩ := r' id e he
            exact ⟨by simp only [Entry.holds]; rw [m']; exact hr, usedOf_keys (memN_mem.1 (mem_idsFrom.2 ⟨h3, h4⟩)), trivial, rfl⟩
          have hr := run_loadC (P := P) (ρ := ρ') (base := offN (ρ id) + i * t.size) (b := blkN (ρ id)) (w := w) hv fun j u hj => by
            rw [← e'] at hj; exact hc2 j u hj
          refine wp_of_value (u := v.conc ρ') (w' := w) ?_ (hC ρ' _ w hX rfl hp)
          have := (c.evC hx).1
          rw [el_conc, ← Nat.add_assoc] at this
          simp [execOp, Instr.loadAt, this, Instr.sureAddr, hr]
        · cases h
    · cases h
  · cases h

theorem fieldAddrV_sound (c : Ctx B ρ s a w look ent A) {T : TypeId} {x : Operand} {f : Nat} (ho : o.op = .fieldAddr T x f) (h : fieldAddrV P look A T x f = some r) (hC : Cont B s ρ r o a K) : o.wp P a w K Q := by
  obtain ⟨dst, op, ty, pos, after, guard⟩ := o
  simp only at ho; subst ho
  have key : ∀ {d b off : Nat}, fieldOff P T f = some d → a.eval x = .pointer (some ⟨b, off, none⟩) → ∀ w, (execOp a.eval ⟨dst, .fieldAddr T x f, ty, pos, after, guard⟩).run P w = .ok (.value (.pointer (some ⟨b, off + d, none⟩))) w := by
    intro d b off hd hx w
    unfold fieldOff at hd
    split at hd
    · rename_i fs hfs
      split at hd
      · rename_i fd hfd
        split at hd
        · rename_i i hi
          cases hz : Nat.beq i.size 0 with
          | true => simp [hz] at hd
          | false =>
            simp [hz] at hd; subst hd
            have hne : i.size ≠ 0 := fun h0 => by rw [h0] at hz; cases hz
            simp [execOp, Instr.fieldAt, run_underlying hfs, hfd, hx, Instr.sureAddr, fieldPlace, sizeOf, typeInfo, hi, hne, addr_add]
        · cases hd
      · cases hd
    · cases hd
  unfold fieldAddrV at h
  split at h
  · rename_i id off d hx hd
    cases h
    have := (c.evC hx).1
    refine wp_of_value (key hd this w) (Cont.same (v := one (.ptr id (off + d))) rfl hC c.hp)
  · rename_i id z i off d hx hd
    cases h
    have := (c.evC hx).1
    refine wp_of_value (key hd this w) ?_
    have := Cont.same (v := one (.el id z i (off + d))) rfl hC c.hp
    simp only [one, SV.conc, V1.conc, el_conc] at this
    rwa [show i * z + (off + d) = i * z + off + d from (Nat.add_assoc _ _ _).symm, ← Nat.add_assoc] at this
  · cases h

theorem run_part {T : TypeId} {off : Nat} {cs : List Cell} {v : V1} (hv : loadC P T off cs = some v) : (part T (cs.map (Cell.conc ρ)).toArray off).run P w = .ok (v.conc ρ) w := by
  unfold loadC at hv
  split at hv
  · rename_i d i hd hi
    split at hv
    · rename_i hag
      cases hb : Nat.ble (off + i.size) cs.length with
      | false => simp [hb] at hv
      | true =>
        simp [hb] at hv; subst hv
        simp [part, Sem.run_bind, run_isAgg hd, hag, sizeOf, typeInfo, hi, V1.conc, List.extract_eq_take_drop, List.map_take, List.map_drop]
    · rename_i hag
      split at hv
      · rename_i c hc
        cases hv
        simp [part, Sem.run_bind, run_isAgg hd, hag, V1.conc, hc]
      · cases hv
  · cases hv

theorem fieldV_sound (c : Ctx B ρ s a w look ent A) {T : TypeId} {x : Operand} {f : Nat} (ho : o.op = .field T x f) (h : fieldV P look A T x f = some r) (hC : Cont B s ρ r o a K) : o.wp P a w K Q := by
  obtain ⟨dst, op, ty, pos, after, guard⟩ := o
  simp only at ho; subst ho
  unfold fieldV at h
  split at h
  · rename_i cs fs hx hfs
    split at h
    · rename_i fd hfd
      split at h
      · rename_i v hv
        cases h
        have := (c.ev1 hx).1
        refine wp_of_value (u := v.conc ρ) (w' := w) ?_ (Cont.same (v := .one v) rfl hC c.hp)
        have hp := run_part (ρ := ρ) (w := w) hv
        simp [execOp, Instr.field, run_underlying hfs, hfd, this, V1.conc, asAgg, hp]
      · cases h
    · cases h
  · cases h

theorem nilCheckV_sound (c : Ctx B ρ s a w look ent A) {x : Operand} (ho : o.op = .nilCheck x) (h : nilCheckV look A x = some r) (hC : Cont B s ρ r o a K) : o.wp P a w K Q := by
  obtain ⟨dst, op, ty, pos, after, guard⟩ := o
  simp only at ho; subst ho
  unfold nilCheckV at h
  split at h
  · cases h
  · cases h
  · rename_i cc hn1 hn2 hx
    cases h
    have := (c.evC hx).1
    refine wp_of_value (u := cc.conc ρ) (w' := w) ?_ (Cont.same (v := one cc) rfl hC c.hp)
    cases cc with
    | val v => exact (hn1 v rfl).elim
    | ref id => exact (hn2 id rfl).elim
    | _ => simp [execOp, this, Cell.conc]
  · cases h

theorem run_asIntOf {k : IntKind} {i : Int} : (asIntOf (.int k i)).run P w = .ok (k, i) w := rfl

theorem indexAddrV_sound (c : Ctx B ρ s a w look ent A) {T : TypeId} {x ix : Operand} (ho : o.op = .indexAddr T x ix) (h : indexAddrV P look ent A T x ix = some r) (hnd : ∀ b ∈ r.nd, b = true) (hC : Cont B s ρ r o a K) : o.wp P a w K Q := by
  obtain ⟨dst, op, ty, pos, after, guard⟩ := o
  simp only at ho; subst ho
  unfold indexAddrV at h
  split at h
  · rename_i id i hx hi
    split at h
    · rename_i own e t xs he
      cases hok : elemOk P T t with
      | false => simp [hok] at h
      | true =>
        simp [hok] at h; subst h
        unfold elemOk at hok
        split at hok
        · rename_i e' hT
          split at hok
          · rename_i inf hinf
            have hsz := Nat.eq_of_beq_eq_true hok
            have h0 : 0 ≤ i := by simpa using hnd (decide (0 ≤ i)) (by simp)
            have h1 : i < xs.length := by simpa using hnd (decide (i < xs.length)) (by simp)
            have hxv := (c.evC hx).1
            obtain ⟨k, hiv⟩ := c.evI hi
            obtain ⟨hh, _, _⟩ := c.hp.he _ _ (c.hE _ _ he)
            have hlen : ∃ b off cap, ρ id = .slice (some ⟨b, off, none⟩) xs.length cap := by
              cases own with
              | false =>
                rcases hh with ⟨_, hn⟩ | ⟨b, off, cap, arr, T', fz, h4, _⟩
                · rw [hn] at h1; simp at h1; omega
                · exact ⟨b, off, cap, h4⟩
              | true =>
                obtain ⟨cs, h4, _⟩ := hh
                rcases h4.2 with ⟨_, hn⟩ | ⟨g, cap, cur, hv, _⟩
                · rw [hn] at h1; simp at h1; omega
                · exact ⟨g, 0, cap, hv⟩
            obtain ⟨b, off, cap, hv⟩ := hlen
            have hcc := Cont.same (v := one (.el id t.size i.toNat 0)) rfl hC c.hp
            simp only [one, SV.conc, V1.conc, el_conc, hv, blkN, offN, Nat.add_zero] at hcc
            refine wp_of_value (w' := w) ?_ hcc
            simp only [Cell.conc, hv] at hxv
            simp [execOp, Instr.indexAt, hxv, hiv, run_underlying hT, run_asIntOf, h0, h1, sizeOf, typeInfo, hinf, addr_add, hsz]
          · cases hok
        · cases hok
    · cases h
  · rename_i id off i hx hi
    split at h
    · rename_i n e hT
      split at h
      · rename_i inf hinf
        cases h
        have h0 : 0 ≤ i := by simpa using hnd (decide (0 ≤ i)) (by simp)
        have h1 : i < n := by simpa using hnd (decide (i < n)) (by simp)
        have hxv := (c.evC hx).1
        obtain ⟨k, hiv⟩ := c.evI hi
        refine wp_of_value (w' := w) ?_ (Cont.same (v := one (.ptr id (off + i.toNat * inf.size))) rfl hC c.hp)
        simp only [Cell.conc] at hxv
        simp [execOp, Instr.indexAt, hxv, hiv, run_underlying hT, run_asIntOf, h0, h1, sizeOf, typeInfo, hinf, addr_add, Instr.sureAddr, one, SV.conc, V1.conc, Cell.conc]
      · cases h
    · cases h
  · cases h

theorem indexV_sound (c : Ctx B ρ s a w look ent A) {T : TypeId} {x ix : Operand} (ho : o.op = .index T x ix) (h : indexV P look A T x ix = some r) (hnd : ∀ b ∈ r.nd, b = true) (hC : Cont B s ρ r o a K) : o.wp P a w K Q := by
  obtain ⟨dst, op, ty, pos, after, guard⟩ := o
  simp only at ho; subst ho
  unfold indexV at h
  split at h
  · rename_i str i hx hi hT
    cases h
    have h0 : 0 ≤ i := by simpa using hnd (decide (0 ≤ i)) (by simp)
    have h1 : i < str.size := by simpa using hnd (decide (i < str.size)) (by simp)
    have hxv := (c.evC hx).1
    obtain ⟨k, hiv⟩ := c.evI hi
    refine wp_of_value (w' := w) ?_ (Cont.same (v := one (.val (.int .u8 (str[i.toNat]?.getD 0).toNat))) rfl hC c.hp)
    simp only [Cell.conc] at hxv
    have hlt : i.toNat < str.size := by omega
    simp [execOp, Instr.index, hxv, hiv, run_underlying hT, run_asIntOf, h0, hlt, one, SV.conc, V1.conc, Cell.conc]
  · cases h

theorem lenV_sound (c : Ctx B ρ s a w look ent A) {cl : Call} {x : Operand} (ho : o.op = .call cl) (hb : cl.callee = .builtin .len) (hargs : cl.args.toList = [x]) (h : lenV P look ent A cl.argTypes x = some r) (hC : Cont B s ρ r o a K) : o.wp P a w K Q := by
  obtain ⟨dst, op, ty, pos, after, guard⟩ := o
  simp only at ho; subst ho
  unfold lenV at h
  split at h
  · rename_i id hx
    split at h
    · rename_i own e t xs he
      cases hok : isSlice P cl.argTypes[0]? with
      | false => simp [hok] at h
      | true =>
        simp only [hok, cond_true] at h
        cases h
        have hxv := (c.evC hx).1
        obtain ⟨hh, _, _⟩ := c.hp.he _ _ (c.hE _ _ he)
        have hlen : ∃ b cap, ρ id = .slice b xs.length cap := by
          cases own with
          | false =>
            rcases hh with ⟨h4, hn⟩ | ⟨b, off, cap, arr, T', fz, h4, _⟩
            · obtain ⟨b0, hb0⟩ := zeroS_len h4; rw [hn]; exact ⟨b0, 0, hb0⟩
            · exact ⟨_, _, h4⟩
          | true =>
            obtain ⟨cs, h4, _⟩ := hh
            rcases h4.2 with ⟨hv, hn⟩ | ⟨g, cap, cur, hv, _⟩
            · obtain ⟨b0, hb0⟩ := zeroS_len hv; rw [hn]; exact ⟨b0, 0, hb0⟩
            · exact ⟨_, _, hv⟩
        obtain ⟨b, cap, hv⟩ := hlen
        refine wp_of_value (w' := w) ?_ (Cont.same (v := one (.val (.int .i64 xs.length))) rfl hC c.hp)
        simp only [Cell.conc, hv] at hxv
        have hag : cl.args = #[x] := by rw [← Array.toArray_toList (xs := cl.args), hargs]
        unfold isSlice at hok
        split at hok
        · rename_i t0 ht0
          split at hok
          · rename_i e0 hT
            simp [execOp, resolve, hb, invoke, builtin, hag, Builtin.len_, hxv, one, SV.conc, V1.conc, Cell.conc, goInt, ht0, run_underlying hT]
          · cases hok
        · cases hok
    · cases h
  · cases h

theorem divV_sound (c : Ctx B ρ s a w look ent A) {bop : BinOp} {T T' : TypeId} {x y : Operand} (ho : o.op = .binOp bop T x y T') (h : divV look A bop x y = some r) (hnd : ∀ b ∈ r.nd, b = true) (hC : Cont B s ρ r o a K) : o.wp P a w K Q := by
  obtain ⟨dst, op, ty, pos, after, guard⟩ := o
  simp only at ho; subst ho
  unfold divV at h
  split at h
  · rename_i k i k' j hx hy
    split at h
    · rename_i hk
      subst hk
      cases h
      have hz : j ≠ 0 := by simpa using hnd (decide (j ≠ 0)) (by simp)
      have hxv := (c.evC hx).1
      have hyv := (c.evC hy).1
      simp only [Cell.conc] at hxv hyv
      refine wp_of_value (w' := w) ?_ (Cont.same (v := one (.val (.int k (k.wrap (i.tdiv j))))) rfl hC c.hp)
      simp [execOp, eqGuard, binOp, hxv, hyv, Op.intDiv, hz, one, SV.conc, V1.conc, Cell.conc]
    · cases h
  · rename_i k i k' j hx hy
    split at h
    · rename_i hk
      subst hk
      cases h
      have hz : j ≠ 0 := by simpa using hnd (decide (j ≠ 0)) (by simp)
      have hxv := (c.evC hx).1
      have hyv := (c.evC hy).1
      simp only [Cell.conc] at hxv hyv
      refine wp_of_value (w' := w) ?_ (Cont.same (v := one (.val (.int k (i.tmod j)))) rfl hC c.hp)
      simp [execOp, eqGuard, binOp, hxv, hyv, Op.intDiv, hz, one, SV.conc, V1.conc, Cell.conc]
    · cases h
  · cases h

end
end Go.SX

/- A symbolic evaluator over the model's own operations, part 4r: stores, function literals, builds. -/
import Derived.Test.YtjncnnpdaeociaaTX4q
namespace Go.SX
open Go.RowKit

section
variable {P : Program} {s : St} {look : Nat → Option SS} {ent : Nat → Option Entry} {A : List (Nat × Bool)} {nid : Nat} {o : Oper} {r : Raw} {B : Base} {ρ : Nm} {a : Act} {w : World} {K : Act → World → Prop} {Q : Exit → Act → World → Prop}

theorem Nm.of_nm {ρ ρ' : Nm} (h : ρ'.nm = ρ.nm) (i : Nat) : ρ' i = ρ i := by simp [Nm.of, h]

theorem conc_nm {ρ ρ' : Nm} (h : ρ'.nm = ρ.nm) (c : Cell) : c.conc ρ' = c.conc ρ :=
  Cell.conc_congr (U := fun _ => true) (fun id _ => Nm.of_nm h id) (by cases c <;> simp [Cell.inU])

theorem map_conc_nm {ρ ρ' : Nm} (h : ρ'.nm = ρ.nm) (cs : List Cell) : cs.map (Cell.conc ρ') = cs.map (Cell.conc ρ) :=
  List.map_congr_left fun c _ => conc_nm h c

theorem look?_frz_not {ent : Nat → Option Entry} : ∀ {l : List Nat} {i : Nat}, i ∉ l → look? (frz ent l) i = none
  | [], i, _ => rfl
  | id :: r, i, h => by
    simp only [List.mem_cons, not_or] at h
    simp only [frz]
    split
    · simp only [look?]
      cases hb : Nat.beq id i with
      | true => exact (h.1 (Nat.eq_of_beq_eq_true hb).symm).elim
      | false => exact look?_frz_not h.2
    · exact look?_frz_not h.2

theorem openC_flat : ∀ (t : CTy) (x : E t) (n : Nat), t.flat = true → (openC t x n).map (Cell.conc ρ) = cellsE t x
  | .int _, _, _, _ => rfl
  | .bool, _, _, _ => rfl
  | .str, _, _, _ => rfl
  | .sl _ _, _, _, h => by cases h
  | .pair a b, p, n, h => by
    simp only [CTy.flat, Bool.and_eq_true] at h
    simp only [openC, List.map_append, cellsE, openC_flat a p.1 n h.1, openC_flat b p.2 _ h.2]

theorem splice_eq {α : Type} (cur N : List α) (k off z m : Nat) (h1 : off + N.length ≤ z) (h2 : k + z ≤ m) (h3 : m ≤ cur.length) :
    (cur.take (k + off) ++ N ++ cur.drop (k + off + N.length)).take m =
      (cur.take m).take k ++ ((((cur.take m).drop k).take z).take off ++ N ++ (((cur.take m).drop k).take z).drop (off + N.length)) ++ (cur.take m).drop (k + z) := by
  apply List.ext_getElem?
  intro j
  simp only [List.getElem?_take, List.getElem?_append, List.getElem?_drop, List.length_append, List.length_take, List.length_drop]
  have e1 : min (k + off) cur.length = k + off := by omega
  have e2 : min m cur.length = m := by omega
  have e3 : min k m = k := by omega
  have e4 : min z (m - k) = z := by omega
  have e5 : min off z = off := by omega
  simp only [e1, e2, e3, e4, e5]
  by_cases c1 : j < k
  · have : j < k + off := by omega
    simp [c1, this, show j < m by omega, show j < k + off + N.length by omega, show j < k + (off + N.length + (z - (off + N.length))) by omega]
  · by_cases c2 : j < k + off
    · simp [c1, c2, show j < m by omega, show j < k + off + N.length by omega, show j < k + (off + N.length + (z - (off + N.length))) by omega, show j - k < off + N.length by omega, show j - k < off by omega, show j - k < z by omega, show k + (j - k) = j by omega]
    · by_cases c3 : j < k + off + N.length
      · simp [c1, c2, c3, show j < m by omega, show j < k + (off + N.length + (z - (off + N.length))) by omega, show j - k < off + N.length by omega, show ¬ j - k < off by omega, show j - (k + off) = j - k - off by omega]
      · by_cases c4 : j < k + z
        · simp [c1, c3, show j < m by omega, show j < k + (off + N.length + (z - (off + N.length))) by omega, show ¬ j - k < off + N.length by omega, show off + N.length + (j - k - (off + N.length)) < z by omega,
            show k + (off + N.length + (j - k - (off + N.length))) < m by omega]
          congr 1; omega
        · by_cases c5 : j < m
          · simp [c3, c5, show ¬ j < k + (off + N.length + (z - (off + N.length))) by omega, show k + z + (j - (k + (off + N.length + (z - (off + N.length))))) < m by omega]
            congr 1; omega
          · simp [c5, show ¬ j < k + (off + N.length + (z - (off + N.length))) by omega, show ¬ k + z + (j - (k + (off + N.length + (z - (off + N.length))))) < m by omega]

theorem storeV_sound (c : Ctx B ρ s a w look ent A) {T : TypeId} {x y : Operand} (ho : o.op = .store T x y) (h : storeV P look ent A nid T x y = some r) (hnd : ∀ b ∈ r.nd, b = true) (hC : Cont B s ρ r o a K) : o.wp P a w K Q := by
  obtain ⟨dst, op, ty, pos, after, guard⟩ := o
  simp only at ho; subst ho
  unfold storeV at h
  split at h
  · rename_i id off v hx hy
    split at h
    · rename_i U cs ns he hns
      cases hok : storeOk P T off cs.length ns with
      | false => simp [hok] at h
      | true =>
        simp [hok] at h; subst h
        have hent := c.hE _ _ he
        obtain ⟨⟨b, h1, h2, _⟩, _, hin⟩ := c.hp.he _ _ hent
        have hxv := (c.evC hx).1
        obtain ⟨hyv, hyin⟩ := c.ev1 hy
        have hnin := V1.cells?_inU hyin hns
        have hr := run_storeC (ρ := ρ) (w := w) (b := b) (off := off) hok (fun h => by simpa using h) (V1.cells?_conc ρ hns) h2
        obtain ⟨hX, hp⟩ := c.hp.setBox hent (ns := cs.take off ++ ns ++ cs.drop (off + ns.length)) (fun c hc => by
          simp only [List.append_assoc, List.mem_append] at hc
          rcases hc with hc | hc | hc
          · exact hin c (List.mem_of_mem_take hc)
          · exact hnin c hc
          · exact hin c (List.mem_of_mem_drop hc))
        have hbk : blkN (ρ id) = b := by rw [h1]; rfl
        rw [hbk] at hp
        rw [ptr_conc, hbk] at hxv
        obtain ⟨W, hW⟩ : ∃ W, W = w.setRow b ((cs.take off ++ ns ++ cs.drop (off + ns.length)).map (Cell.conc ρ)).toArray := ⟨_, rfl⟩
        rw [← hW] at hp
        have hr' : (storeVar T ⟨b, off, none⟩ (v.conc ρ)).run P w = .ok () W := by
          rw [hr, hW]; simp [List.map_take, List.map_drop]
        refine wp_of_skip (w' := W) ?_ (hC ρ _ W hX (SV.conc_ofValue ρ undef).symm (by simpa [usedOf_nil, List.append_assoc] using hp))
        simp [execOp, Instr.storeAt, hxv, hyv, Instr.sureAddr, hr']
    · cases h
  · rename_i id z i off v hx hy
    split at h
    · rename_i e t xs ns he hns
      cases hok : (Nat.beq z t.size && storeOk P T off t.size ns && (t.flat || Nat.beq off 0 && Nat.beq ns.length t.size)) with
      | false => simp [hok] at h
      | true =>
        simp only [hok, cond_true] at h
        simp only [Bool.and_eq_true] at hok
        obtain ⟨⟨k1, k2⟩, k3⟩ := hok
        have := Nat.eq_of_beq_eq_true k1; subst this
        split at h
        · rename_i y' l hcl
          cases hm : memN l id with
          | true => simp [hm] at h
          | false =>
            simp only [hm, cond_false] at h
            cases h
            have hi : i < xs.length := by simpa using hnd (decide (i < xs.length)) (by simp)
            have hent := c.hE _ _ he
            have hxv := (c.evC hx).1
            obtain ⟨hyv, hyin⟩ := c.ev1 hy
            obtain ⟨ρ1, n1, x1, h1⟩ := c.hp.freezes c.hE l
            have hnl : id ∉ l := fun hh => by rw [memN_mem.2 hh] at hm; cases hm
            have hent1 : entOf s.ent (frz ent l) id = some (.row true e t xs) := by simp only [entOf, look?_frz_not hnl]; exact hent
            obtain ⟨⟨cs, g1, g2, g3⟩, _, _⟩ := h1.he _ _ hent1
            have hrep := close_sound c.hE h1 t _ _ _ hcl fun i hi => hi
            have hlt := chunk_le (z := t.size) hi
            rcases g1.2 with ⟨_, hn⟩ | ⟨g, cap, cur, hv, hc0, hg, hle, hcm, hsz, htk⟩
            · omega
            · have hid := Nm.of_nm n1 id
              have hle2 : xs.length * t.size ≤ cur.size := by rw [hsz]; exact Nat.mul_le_mul_right _ hle
              have hns' : off + ns.length ≤ t.size := by
                unfold storeOk at k2
                split at k2
                · simp only [Bool.and_eq_true] at k2; exact Nat.le_of_ble_eq_true k2.1.2
                · cases k2
              have hr := run_storeC (ρ := ρ) (w := w) (b := g) (off := i * t.size + off) (cur := cur) k2 (fun h => by omega) (V1.cells?_conc ρ hns) hg
              obtain ⟨W, hW⟩ : ∃ W, W = w.setRow g (cur.toList.take (i * t.size + off) ++ ns.map (Cell.conc ρ) ++ cur.toList.drop (i * t.size + off + ns.length)).toArray := ⟨_, rfl⟩
              rw [← hW] at hr
              have hgr : w.grownBy W (ρ1 id).ownBlock := by
                rw [hv, hW]
                exact ⟨rfl, rfl, rfl, by simp [World.setRow], fun k _ hk => setRow_other w g k _ fun e => hk (by simp [Value.ownBlock, e])⟩
              have hspl := splice_eq cur.toList (ns.map (Cell.conc ρ)) (i * t.size) off t.size (xs.length * t.size) (by simpa using hns') hlt (by simpa using hle2)
              have hown : W.ownsRow 0 e t.size (ρ1 id) (xs.set i y').length ((cur.toList.take (i * t.size + off) ++ ns.map (Cell.conc ρ) ++ cur.toList.drop (i * t.size + off + ns.length)).take (xs.length * t.size)) := by
                refine ⟨?_, .inr ⟨g, cap, (cur.toList.take (i * t.size + off) ++ ns.map (Cell.conc ρ) ++ cur.toList.drop (i * t.size + off + ns.length)).toArray, ?_, Nat.zero_le _, ?_, ?_, hcm, ?_, ?_⟩⟩
                · simp only [List.length_set, List.length_take, List.length_append, List.length_map, List.length_drop, Array.length_toList]; omega
                · rw [List.length_set]; exact hv
                · rw [hW]; exact setRow_heap w g _ _ e _ hg
                · rw [List.length_set]; exact hle
                · simp only [List.size_toArray, List.length_take, List.length_append, List.length_map, List.length_drop, Array.length_toList]; omega
                · rw [List.length_set]
              have hds : RepL ρ1.mem t ((cur.toList.take (i * t.size + off) ++ ns.map (Cell.conc ρ) ++ cur.toList.drop (i * t.size + off + ns.length)).take (xs.length * t.size)) (xs.set i y') := by
                rw [List.length_map] at hspl
                rw [hspl, htk]
                refine RepL.set g2 hi ?_
                have hch := g2.2 i _ (getD_of (d := dflt t) hi)
                rw [map_conc_nm n1] at hrep
                simp only [List.map_append, List.map_take, List.map_drop] at hrep
                rcases Bool.or_eq_true_iff.1 k3 with hf | hf
                · rw [openC_flat t _ nid hf] at hrep
                  rw [Rep.flat t _ _ hf hch]; exact hrep
                · simp only [Bool.and_eq_true] at hf
                  have f1 := Nat.eq_of_beq_eq_true hf.1
                  have f2 := Nat.eq_of_beq_eq_true hf.2
                  subst f1
                  rw [f2] at hrep ⊢
                  rw [List.take_zero, List.drop_eq_nil_of_le (by rw [List.length_map, openC_length]; omega)] at hrep
                  rw [List.take_zero, List.drop_eq_nil_of_le (by rw [List.length_take]; omega)]
                  exact hrep
              obtain ⟨hX, hp⟩ := h1.rowSet hent1 (Chg.own hgr fun k hk => by rw [hv] at hk ⊢; simp only [Value.ownBlock, Option.some.injEq] at hk; rw [blks_slice hc0, ← hk]; simp) (ownR_of hown) hds
              rw [entOf_append] at hp
              refine wp_of_skip (w' := W) ?_ (hC ρ1 _ W (x1.trans hX fun _ h => h) (SV.conc_ofValue ρ1 undef).symm hp)
              rw [el_conc] at hxv
              rw [hid] at hv
              simp only [hv, blkN, offN, Nat.zero_add] at hxv
              simp [execOp, Instr.storeAt, hxv, hyv, Instr.sureAddr, hr]
        · cases h
    · cases h
  · cases h

theorem evs_conc (c : Ctx B ρ s a w look ent A) : ∀ {xs : List Operand} {vs : List SV}, evs look A xs = some vs → xs.map a.eval = vs.map (SV.conc ρ) ∧ ∀ v ∈ vs, v.inU s.used
  | [], vs, h => by simp [evs] at h; subst h; simp
  | x :: xs, vs, h => by
    simp only [evs] at h
    split at h
    · rename_i v vs' h1 h2
      cases h
      obtain ⟨e1, i1⟩ := c.ev h1
      obtain ⟨e2, i2⟩ := evs_conc c h2
      refine ⟨by simp [e1, e2], fun u hu => ?_⟩
      rcases List.mem_cons.1 hu with rfl | hu
      · exact i1
      · exact i2 u hu
    · cases h

theorem ptrs_conc : ∀ {vs : List SV} {ids : List Nat}, ptrs vs = some ids → vs.map (SV.conc ρ) = ids.map fun id => Value.pointer (some ⟨blkN (ρ id), 0, none⟩)
  | [], ids, h => by simp [ptrs] at h; subst h; rfl
  | v :: vs, ids, h => by
    unfold ptrs at h
    split at h
    · cases ‹v :: vs = []›
    · rename_i id r heq
      cases heq
      cases hq : ptrs vs with
      | none => simp [hq] at h
      | some l => simp [hq] at h; subst h; simp [ptrs_conc hq, SV.conc, V1.conc, Cell.conc]
    · cases h

theorem makeFuncV_sound (c : Ctx B ρ s a w look ent A) {fn : Fn} {first captured : Array Operand} (ho : o.op = .makeFunc fn first captured) (h : makeFuncV look A fn first captured = some r) (hC : Cont B s ρ r o a K) : o.wp P a w K Q := by
  obtain ⟨dst, op, ty, pos, after, guard⟩ := o
  simp only at ho; subst ho
  unfold makeFuncV at h
  split at h
  · rename_i f vs hf hvs
    have hfa : first = #[] := by rw [← Array.toArray_toList (xs := first), hf]
    have hcv := (evs_conc c hvs).1
    have hca : captured.map a.eval = (vs.map (SV.conc ρ)).toArray := by
      rw [← hcv, ← Array.toArray_toList (xs := captured.map a.eval), Array.toList_map]
    have hr : ∀ w, (execOp a.eval ⟨dst, .makeFunc (.func f) first captured, ty, pos, after, guard⟩).run P w = .ok (.value (.func (.func f) #[] (vs.map (SV.conc ρ)).toArray)) w := fun w => by
      simp [execOp, Instr.makeFunc, hfa, hca]
    split at h
    · cases h
      exact wp_of_value (hr w) (Cont.same (v := one (.val (.func (.func f) #[] #[]))) rfl hC c.hp)
    · split at h
      · rename_i ids hids
        cases h
        refine wp_of_value (hr w) ?_
        rw [ptrs_conc hids]
        exact Cont.same (v := one (.clo f ids)) rfl hC c.hp
      · cases h
  · cases h

theorem vof_conc (c : Ctx B ρ s a w look ent A) {x : Operand} (h : vok look A x = true) : vof look A x = a.eval x := by
  unfold vok at h
  unfold vof
  cases he : SX.ev look A x with
  | none => simp [he] at h
  | some v =>
    simp only [he] at h
    cases ht : v.toValue? with
    | none => simp [ht] at h
    | some u => rw [(c.ev he).1, SV.toValue?_conc ρ ht]; simp only [ht]

theorem generic_sound (c : Ctx B ρ s a w look ent A) (hsel : ∀ cs b, o.op ≠ .select cs b) (h : generic P look A o = some r) (hC : Cont B s ρ r o a K) : o.wp P a w K Q := by
  unfold generic at h
  cases hall : (opsOf o.op).all (vok look A) with
  | false => simp [hall] at h
  | true =>
    simp only [hall, cond_true] at h
    have hcg : execOp a.eval o = execOp (vof look A) o := execOp_congr o hsel fun x hx => by
      have hm := mem_opsOf hx
      exact (vof_conc c (List.all_eq_true.1 hall x hm)).symm
    split at h
    · rename_i v hv
      cases h
      have hrun := pureRun_run P _ _ hv w
      rw [← hcg] at hrun
      refine wp_of_value hrun ?_
      have := Cont.same (v := .ofValue v) rfl hC c.hp
      rwa [SV.conc_ofValue] at this
    · cases h

end
end Go.SX

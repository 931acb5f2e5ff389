/- A symbolic evaluator over the model's own operations, part 4u: slices that are made. -/
import Derived.Test.YtjncnnpdaeociaaTX4t
namespace Go.SX
open Go.RowKit

section
variable {P : Program} {s : St} {look : Nat → Option SS} {ent : Nat → Option Entry} {A : List (Nat × Bool)} {nid : Nat} {o : Oper} {r : Raw} {B : Base} {ρ : Nm} {a : Act} {w : World} {K : Act → World → Prop} {Q : Exit → Act → World → Prop}

theorem joinL_append {α : Type} : ∀ (l r : List (List α)), joinL (l ++ r) = joinL l ++ joinL r
  | [], r => rfl
  | a :: l, r => by simp only [List.cons_append, joinL, joinL_append l r, List.append_assoc]

theorem joinL_replicate_length {α : Type} (z : List α) : ∀ n, (joinL (List.replicate n z)).length = n * z.length
  | 0 => by simp [joinL]
  | n + 1 => by simp only [List.replicate_succ, joinL, List.length_append, joinL_replicate_length z n, Nat.add_mul, Nat.one_mul]; omega

theorem joinL_replicate_take {α : Type} (z : List α) {n m : Nat} (h : n ≤ m) : (joinL (List.replicate m z)).take (n * z.length) = joinL (List.replicate n z) := by
  obtain ⟨k, rfl⟩ : ∃ k, m = n + k := ⟨m - n, by omega⟩
  rw [← List.replicate_append_replicate, joinL_append, List.take_append_of_le_length (by rw [joinL_replicate_length]; exact Nat.le_refl _), List.take_of_length_le (by rw [joinL_replicate_length]; exact Nat.le_refl _)]

theorem joinL_map {α β : Type} (f : α → β) : ∀ (l : List (List α)), (joinL l).map f = joinL (l.map (List.map f))
  | [] => rfl
  | a :: l => by simp only [joinL, List.map_append, List.map_cons, joinL_map f l]

theorem makeSliceV_sound (c : Ctx B ρ s a w look ent A) {T : TypeId} {l m : Operand} (ho : o.op = .makeSlice T l m) (h : makeSliceV P look A nid T l m = some r) (hnew : ∀ i ∈ r.new, s.used i = false) (hnd : ∀ b ∈ r.nd, b = true) (hC : Cont B s ρ r o a K) : o.wp P a w K Q := by
  obtain ⟨dst, op, ty, pos, after, guard⟩ := o
  simp only at ho; subst ho
  unfold makeSliceV at h
  split at h
  · rename_i n k e hl hm hT
    split at h
    · rename_i inf t hinf ht
      split at h
      · rename_i z hz
        split at h
        · rename_i x0 ids hcl
          cases hok : (Nat.beq inf.size t.size && Nat.beq z.cells.size t.size) with
          | false => simp [hok] at h
          | true =>
            simp only [hok, cond_true] at h
            cases h
            simp only [Bool.and_eq_true] at hok
            have k1 := Nat.eq_of_beq_eq_true hok.1
            have k2 := Nat.eq_of_beq_eq_true hok.2
            have n0 : 0 ≤ n := by simpa using hnd (decide (0 ≤ n)) (by simp)
            have n1 : n ≤ k := by simpa using hnd (decide (n ≤ k)) (by simp)
            have n2 : (inf.bytes : Int) * k ≤ 281474976710656 := by simpa using hnd (decide ((inf.bytes : Int) * k ≤ 281474976710656)) (by simp)
            have n3 : k ≤ 9223372036854775807 := by simpa using hnd (decide (k ≤ 9223372036854775807)) (by simp)
            obtain ⟨kl, hlv⟩ := c.evI hl
            obtain ⟨kc, hmv⟩ := c.evI hm
            have hr := run_make (P := P) w T e inf z hT hinf hz kl kc n k n0 n1 n2 n3
            have hrep := close_none (ρ := ρ) (H := ρ.mem) t _ _ _ hcl
            rw [conc_vals] at hrep
            have hlen : (List.replicate n.toNat x0).length = n.toNat := by simp
            have hcells : (madeCells z.cells (k.toNat * inf.size)).toList.take (n.toNat * t.size) = joinL (List.replicate n.toNat z.cells.toList) := by
              rw [k1, ← k2, madeCells_toList]
              have := joinL_replicate_take z.cells.toList (n := n.toNat) (m := k.toNat) (by omega)
              rwa [Array.length_toList] at this
            have hown : (w.alloc (.cells (madeCells z.cells (k.toNat * inf.size)) e)).ownsRow 0 e t.size (.slice (some ⟨w.heap.size, 0, none⟩) n.toNat k.toNat) (List.replicate n.toNat x0).length (joinL (List.replicate n.toNat z.cells.toList)) := by
              rw [hlen]
              refine ⟨by rw [joinL_replicate_length, Array.length_toList, k2], .inr ⟨w.heap.size, k.toNat, _, rfl, Nat.zero_le _, heap_alloc_new w _, by omega, maxLen_of (by omega), by rw [size_madeCells, k1], hcells⟩⟩
            obtain ⟨hX, hp⟩ := c.hp.rowNew (nid := nid) (hnew nid (by simp)) (World.grownBy_alloc w _ none) (ownR_of hown) (RepL.replicate hrep _) (fun b hb => Nat.le_of_eq (blks_new hb).symm)
            refine wp_of_value ?_ (hC _ (.slice (some ⟨w.heap.size, 0, none⟩) n.toNat k.toNat) _ hX ?_ hp)
            · simp [execOp, hlv, hmv, hr]
            · simp only [one, SV.conc, V1.conc, Cell.conc]
              rw [upd_same _ _ rfl]
        · cases h
      · cases h
    · cases h
  · cases h

theorem closes_sound {ent e0 : Nat → Option Entry} {used : Nat → Bool} (hs : ∀ id e, e0 id = some e → ent id = some e) {l : List Nat} (h : Hp B ρ (entOf ent (frz e0 l)) used w) {t : CTy} : ∀ {n : Nat} {cs : List Cell} {xs : List (E t)} {ids : List Nat}, closes e0 t cs n = some (xs, ids) → (∀ id ∈ ids, id ∈ l) →
    RepL ρ.mem t (cs.map (Cell.conc ρ)) xs ∧ xs.length = n
  | 0, [], xs, ids, hc, _ => by simp [closes] at hc; obtain ⟨rfl, _⟩ := hc; exact ⟨RepL.nil _ _, rfl⟩
  | 0, _ :: _, xs, ids, hc, _ => by simp [closes] at hc
  | n + 1, cs, xs, ids, hc, hl => by
    simp only [closes] at hc
    split at hc
    · rename_i x1 l1 ys m1 h1 h2
      cases hc
      have a1 := close_sound hs h t _ _ _ h1 fun i hi => hl i (by simp [hi])
      obtain ⟨a2, a3⟩ := closes_sound hs h h2 fun i hi => hl i (by simp [hi])
      refine ⟨?_, by simp [a3]⟩
      have := (RepL.one a1).append a2
      rw [← List.map_append, List.take_append_drop] at this
      exact this
    · cases hc

theorem buildSliceV_sound (c : Ctx B ρ s a w look ent A) {T : TypeId} {len : Nat} {parts : Array (Nat × Operand)} (ho : o.op = .buildSlice T len parts) (h : buildSliceV P look ent A nid T len parts = some r) (hnew : ∀ i ∈ r.new, s.used i = false) (hC : Cont B s ρ r o a K) : o.wp P a w K Q := by
  obtain ⟨dst, op, ty, pos, after, guard⟩ := o
  simp only at ho; subst ho
  unfold buildSliceV at h
  split at h
  · rename_i e vs hT hvs
    split at h
    · rename_i inf t hinf ht
      split at h
      · rename_i z hz
        split at h
        · rename_i cs hcs
          split at h
          · rename_i xs l hcl
            cases hok : (Nat.beq inf.size t.size && Nat.beq z.cells.size t.size && Nat.ble (len * t.size) 16777216) with
            | false => simp [hok] at h
            | true =>
              simp only [hok, cond_true] at h
              cases h
              simp only [Bool.and_eq_true] at hok
              obtain ⟨⟨k1, k2⟩, k3⟩ := hok
              have k1 := Nat.eq_of_beq_eq_true k1
              have k2 := Nat.eq_of_beq_eq_true k2
              have k3 := Nat.le_of_ble_eq_true k3
              obtain ⟨e1, i1⟩ := ev1s_sound c hvs
              have hfl := fillC_sound (ρ := ρ) hcs
              rw [joinL_map, List.map_replicate, conc_vals, ← madeCells_toList, Array.toArray_toList, k2] at hfl
              obtain ⟨ρ1, n1, x1, hp1⟩ := c.hp.freezes c.hE l
              obtain ⟨hrep, hlen⟩ := closes_sound c.hE hp1 hcl fun i hi => hi
              rw [map_conc_nm n1] at hrep
              have hsz : ((cs.map (Cell.conc ρ)).toArray).size = len * t.size := by rw [List.size_toArray, hrep.1, hlen]
              have hm : len ≤ maxLen := by
                refine maxLen_of ?_
                have := Nat.le_mul_of_pos_right len (size_pos t)
                omega
              have hown := World.ownsRow_lit (base := 0) (size := t.size) (e := e) w (cs.map (Cell.conc ρ)).toArray len (Nat.zero_le _) hm hsz
              rw [← hlen, List.toList_toArray] at hown
              have hun : s.used nid = false := hnew nid (by simp)
              obtain ⟨hX, hp⟩ := hp1.rowNew (nid := nid) hun (World.grownBy_alloc w _ none) (ownR_of hown) hrep (fun b hb => Nat.le_of_eq (blks_new hb).symm)
              rw [entOf_append] at hp
              have hr : (Instr.buildSlice T len (parts.map fun (i, x) => (i, a.eval x))).run P w = .ok (.slice (some ⟨w.heap.size, 0, none⟩) len len) (w.alloc (.cells (cs.map (Cell.conc ρ)).toArray e)) := by
                rw [← e1] at hfl
                have hz0 : ∀ zz : Array Value, (zz = z.cells ∨ len * t.size = 0) → (Array.range (len * t.size)).map (zz[· % zz.size]!) = madeCells z.cells (len * t.size) := by
                  intro zz hzz
                  rcases hzz with rfl | h0
                  · rfl
                  · rw [h0]; simp [madeCells]
                by_cases h0 : len * t.size = 0
                · have hq := hz0 #[] (.inr h0)
                  simp [Instr.buildSlice, run_underlying hT, sizeOf, typeInfo, hinf, k1, h0]
                  rw [h0] at hq hfl
                  simp at hq
                  rw [hq]
                  simp [hfl, newRow]
                · simp [Instr.buildSlice, run_underlying hT, sizeOf, typeInfo, zeroValue, hinf, hz, k1, show ¬ 16777216 < len * t.size by omega, h0]
                  have hq := hz0 z.cells (.inl rfl)
                  rw [hq]
                  simp [hfl, newRow]
              rw [hlen] at hX hp
              refine wp_of_value ?_ (hC _ (.slice (some ⟨w.heap.size, 0, none⟩) len len) _ (x1.trans hX fun _ h => h) ?_ hp)
              · simp only [execOp]
                simp [hr]
              · simp only [one, SV.conc, V1.conc, Cell.conc]
                rw [upd_same _ _ rfl]
          · cases h
        · cases h
      · cases h
    · cases h
  · cases h

end
end Go.SX

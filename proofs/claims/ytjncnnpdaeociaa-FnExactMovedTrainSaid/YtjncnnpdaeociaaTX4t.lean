/- A symbolic evaluator over the model's own operations, part 4t: builds. -/
import Derived.Test.YtjncnnpdaeociaaTX4s
namespace Go.SX
open Go.RowKit

section
variable {P : Program} {s : St} {look : Nat → Option SS} {ent : Nat → Option Entry} {A : List (Nat × Bool)} {nid : Nat} {o : Oper} {r : Raw} {B : Base} {ρ : Nm} {a : Act} {w : World} {K : Act → World → Prop} {Q : Exit → Act → World → Prop}

theorem fold_fill (off : Nat) : ∀ (ns : List Value) (k : Nat) (cells : List Value), off + k + ns.length ≤ cells.length →
    (ns.zipIdx k).foldl (fun (cs : Array Value) p => cs.setIfInBounds (off + p.2) p.1) cells.toArray = (cells.take (off + k) ++ ns ++ cells.drop (off + k + ns.length)).toArray
  | [], k, cells, h => by simp
  | x :: ns, k, cells, h => by
    simp only [List.length_cons] at h
    simp only [List.zipIdx_cons, List.foldl_cons, List.setIfInBounds_toArray]
    rw [fold_fill off ns (k + 1) (cells.set (off + k) x) (by rw [List.length_set]; omega)]
    congr 1
    have hk : off + k < cells.length := by omega
    apply List.ext_getElem?
    intro j
    simp only [List.getElem?_append, List.getElem?_take, List.getElem?_drop, List.getElem?_set, List.length_append, List.length_take, List.length_set, List.length_cons]
    rw [Nat.min_eq_left (show off + (k + 1) ≤ cells.length by omega), Nat.min_eq_left (show off + k ≤ cells.length by omega)]
    by_cases h1 : j < off + k
    · simp [h1, show j < off + (k + 1) by omega, show ¬ off + k = j by omega, show j < off + (k + 1) + ns.length by omega, show j < off + k + (ns.length + 1) by omega]
    · by_cases h2 : j = off + k
      · subst h2
        simp [show off + k < off + (k + 1) by omega, hk, show off + k < off + (k + 1) + ns.length by omega]
      · by_cases h3 : j < off + (k + 1) + ns.length
        · simp [h1, h3, show ¬ j < off + (k + 1) by omega, show j < off + k + (ns.length + 1) by omega]
          rw [show j - (off + k) = j - (off + (k + 1)) + 1 by omega, List.getElem?_cons_succ]
        · simp [h3, show ¬ j < off + k + (ns.length + 1) by omega, show ¬ off + k = off + (k + 1) + ns.length + (j - (off + (k + 1) + ns.length)) by omega]
          congr 1; omega

theorem fillC_sound {pl : Nat → Option (Nat × Nat)} : ∀ {vs : List (Nat × V1)} {cells cs : List Cell}, fillC pl cells vs = some cs →
    Instr.fill pl (cells.map (Cell.conc ρ)).toArray (vs.map fun p => (p.1, p.2.conc ρ)) = some (cs.map (Cell.conc ρ)).toArray
  | [], cells, cs, h => by simp only [fillC, Option.some.injEq] at h; subst h; rfl
  | (i, v) :: vs, cells, cs, h => by
    simp only [fillC] at h
    split at h
    · rename_i off size ns hp hns
      cases hb : (Nat.beq ns.length size && Nat.ble (off + ns.length) cells.length) with
      | false => simp [hb] at h
      | true =>
        simp only [hb, cond_true] at h
        simp only [Bool.and_eq_true] at hb
        have h1 := Nat.eq_of_beq_eq_true hb.1
        have h2 := Nat.le_of_ble_eq_true hb.2
        have hc := V1.cells?_conc ρ hns
        have ih := fillC_sound h
        simp only [List.map_cons, Instr.fill, hp, hc]
        have hsz : (ns.map (Cell.conc ρ)).toArray.size = size := by simp [h1]
        have hle : ¬ (off + (ns.map (Cell.conc ρ)).toArray.size > (cells.map (Cell.conc ρ)).toArray.size) := by simp; omega
        rw [hsz] at hle
        simp only [hsz, ne_eq, not_true_eq_false]
        rw [if_neg (by simpa using hle)]
        have hf := fold_fill off (ns.map (Cell.conc ρ)) 0 (cells.map (Cell.conc ρ)) (by simp; omega)
        rw [← Array.foldl_toList, Array.toList_zipIdx]
        simp only [Nat.add_zero] at hf
        rw [hf]
        simpa [List.map_take, List.map_drop] using ih
    · cases h

theorem fillC_inU {U : Nat → Bool} {pl : Nat → Option (Nat × Nat)} : ∀ {vs : List (Nat × V1)} {cells cs : List Cell}, fillC pl cells vs = some cs → (∀ c ∈ cells, c.inU U) → (∀ p ∈ vs, p.2.inU U) → ∀ c ∈ cs, c.inU U
  | [], cells, cs, h, hc, _ => by simp only [fillC, Option.some.injEq] at h; subst h; exact hc
  | (i, v) :: vs, cells, cs, h, hc, hv => by
    simp only [fillC] at h
    split at h
    · rename_i off size ns hp hns
      cases hb : (Nat.beq ns.length size && Nat.ble (off + ns.length) cells.length) with
      | false => simp [hb] at h
      | true =>
        simp only [hb, cond_true] at h
        refine fillC_inU h (fun c hm => ?_) fun p hp => hv p (by simp [hp])
        simp only [List.append_assoc, List.mem_append] at hm
        rcases hm with hm | hm | hm
        · exact hc c (List.mem_of_mem_take hm)
        · exact V1.cells?_inU (hv (i, v) (by simp)) hns c hm
        · exact hc c (List.mem_of_mem_drop hm)
    · cases h

theorem ev1s_sound (c : Ctx B ρ s a w look ent A) : ∀ {xs : List (Nat × Operand)} {vs : List (Nat × V1)}, ev1s look A xs = some vs → (xs.map fun p => (p.1, a.eval p.2)) = (vs.map fun p => (p.1, p.2.conc ρ)) ∧ ∀ p ∈ vs, p.2.inU s.used
  | [], vs, h => by simp [ev1s] at h; subst h; simp
  | (i, x) :: xs, vs, h => by
    simp only [ev1s] at h
    split at h
    · rename_i v vs' h1 h2
      cases h
      obtain ⟨e1, i1⟩ := c.ev1 h1
      obtain ⟨e2, i2⟩ := ev1s_sound c h2
      refine ⟨by simp [e1, e2], fun u hu => ?_⟩
      rcases List.mem_cons.1 hu with rfl | hu
      · exact i1
      · exact i2 u hu
    · cases h

theorem places_of : ∀ (fs : List Field), (fs.all fun fd => (P.info? fd.type).isSome) = true → ∃ places, fs.mapM (fun f => (P.info? f.type).map fun i => (f.offset, i.size)) = some places ∧
    ∀ i, places[i]? = place P fs.toArray i
  | [], _ => ⟨[], rfl, fun i => by simp [place]⟩
  | f :: fs, h => by
    simp only [List.all_cons, Bool.and_eq_true] at h
    obtain ⟨pl, h1, h2⟩ := places_of fs h.2
    cases hi : P.info? f.type with
    | none => rw [hi] at h; simp at h
    | some j =>
      refine ⟨(f.offset, j.size) :: pl, by simp [List.mapM_cons, hi, h1], fun i => ?_⟩
      cases i with
      | zero => simp [hi, place]
      | succ i => simpa [place] using h2 i

theorem buildV_sound (c : Ctx B ρ s a w look ent A) {T : TypeId} {parts : Array (Nat × Operand)} (ho : o.op = .build T parts) (h : buildV P look A nid T parts = some r) (hnew : ∀ i ∈ r.new, s.used i = false) (hC : Cont B s ρ r o a K) : o.wp P a w K Q := by
  obtain ⟨dst, op, ty, pos, after, guard⟩ := o
  simp only at ho; subst ho
  unfold buildV at h
  split at h
  · rename_i fs inf vs hT hinf hvs
    split at h
    · rename_i z hz
      split at h
      · rename_i cs hcs
        cases hall : fs.all (fun fd => (P.info? fd.type).isSome) with
        | false => simp [hall] at h
        | true =>
          simp only [hall, cond_true] at h
          cases h
          obtain ⟨e1, i1⟩ := ev1s_sound c hvs
          have hfl := fillC_sound (ρ := ρ) hcs
          rw [conc_vals] at hfl
          have hin := fillC_inU hcs (fun c hc => by obtain ⟨v, _, rfl⟩ := List.mem_map.1 hc; trivial) i1
          obtain ⟨places, hp1, hp2⟩ := places_of (P := P) fs.toList (by rw [← Array.all_toList] at hall; exact hall)
          have hpl : (fun i => places.toArray[i]?) = place P fs := by
            funext i
            simp only [List.getElem?_toArray, hp2]
          have hb : P.built T (parts.map fun (i, x) => (i, a.eval x)).toList = some (cs.map (Cell.conc ρ)).toArray := by
            simp only [Program.built, hinf, hT, hz, hp1, hpl, Array.toList_map]
            rw [show (List.map (fun p : Nat × Operand => (p.1, a.eval p.2)) parts.toList) = _ from e1]
            exact hfl
          have hr := run_build (P := P) w T _ _ hb
          obtain ⟨ρ', hX, _, hp, hcc, _⟩ := fixV_sound (P := P) (T := T) (n := nid) (v := ⟨true, cs⟩) c.hp hin hnew
          refine wp_of_value (w' := w) (u := .agg (cs.map (Cell.conc ρ)).toArray) ?_ (hC ρ' _ w hX hcc.symm hp)
          simp [execOp, hr]
      · cases h
    · cases h
  · cases h

theorem madeCells_toList (z : Array Value) (n : Nat) : (madeCells z (n * z.size)).toList = joinL (List.replicate n z.toList) := by
  have hl : ∀ n, (joinL (List.replicate n z.toList)).length = n * z.size := by
    intro n
    induction n with
    | zero => simp [joinL]
    | succ n ih => simp only [List.replicate_succ, joinL, List.length_append, ih, Array.length_toList, Nat.add_mul, Nat.one_mul]; omega
  have hg : ∀ n j, j < n * z.size → (joinL (List.replicate n z.toList))[j]? = z.toList[j % z.size]? := by
    intro n
    induction n with
    | zero => intro j hj; omega
    | succ n ih =>
      intro j hj
      simp only [List.replicate_succ, joinL]
      by_cases hlt : j < z.size
      · rw [List.getElem?_append_left (by simpa using hlt), Nat.mod_eq_of_lt hlt]
      · rw [List.getElem?_append_right (by simpa using Nat.le_of_not_lt hlt), Array.length_toList, ih _ (by rw [Nat.add_mul, Nat.one_mul] at hj; omega), ← Nat.mod_eq_sub_mod (Nat.le_of_not_lt hlt)]
  apply List.ext_getElem?
  intro j
  by_cases hj : j < n * z.size
  · rw [hg n j hj]
    have hp : 0 < z.size := by
      rcases Nat.eq_zero_or_pos z.size with h0 | h0
      · rw [h0] at hj; omega
      · exact h0
    have hm := Nat.mod_lt j hp
    simp [madeCells, hj, hm, getElem!_pos]
  · rw [List.getElem?_eq_none (by rw [Array.length_toList, size_madeCells]; omega), List.getElem?_eq_none (by rw [hl]; omega)]

theorem RepL.replicate {H : Nat → Option Obj} {t : CTy} {cs : List Value} {x : E t} (h : Rep H t cs x) : ∀ n, RepL H t (joinL (List.replicate n cs)) (List.replicate n x)
  | 0 => RepL.nil _ _
  | n + 1 => by
    simp only [List.replicate_succ, joinL]
    exact (RepL.one h).append (RepL.replicate h n)

theorem Rep.any {H H' : Nat → Option Obj} (h : ∀ b o, H b = some o → H' b = some o) {t : CTy} {cs : List Value} {x : E t} (hr : Rep H t cs x) : Rep H' t cs x := Rep.mono h t cs x hr

theorem rowC_none {H : Nat → Option Obj} {t : CTy} {c : Cell} {xs : List (E t)} {ids : List Nat} (h : rowC (fun _ => none) t c = some (xs, ids)) : RepS H t (c.conc ρ) xs := by
  unfold rowC at h
  split at h
  · cases h
  · cases h; exact .inl ⟨.inl rfl, rfl⟩
  · cases h

/-- Cells that name nothing. -/
theorem close_none {H : Nat → Option Obj} : ∀ (t : CTy) (cs : List Cell) (x : E t) (ids : List Nat), closeC (fun _ => none) t cs = some (x, ids) → Rep H t (cs.map (Cell.conc ρ)) x
  | .int k, cs, x, ids, hc => by
    simp only [closeC] at hc
    unfold intC at hc
    split at hc
    · split at hc
      · rename_i hk; subst hk
        cases hc
        exact rfl
      · cases hc
    · cases hc
  | .bool, cs, x, ids, hc => by
    simp only [closeC] at hc
    unfold boolC at hc
    split at hc
    · cases hc; exact rfl
    · cases hc
  | .str, cs, x, ids, hc => by
    simp only [closeC] at hc
    unfold strC at hc
    split at hc
    · cases hc; exact rfl
    · cases hc
  | .sl e t, cs, x, ids, hc => by
    simp only [closeC] at hc
    unfold slC at hc
    split at hc
    · simp only [Rep]
      exact ⟨_, rfl, rowC_none hc⟩
    · cases hc
  | .pair a b, cs, x, ids, hc => by
    simp only [closeC] at hc
    split at hc
    · rename_i x1 l1 y1 m1 h1 h2
      cases hc
      simp only [Rep]
      refine ⟨(cs.take a.size).map (Cell.conc ρ), (cs.drop a.size).map (Cell.conc ρ), ?_, close_none a _ _ _ h1, close_none b _ _ _ h2⟩
      rw [← List.map_append, List.take_append_drop]
    · cases hc

end
end Go.SX

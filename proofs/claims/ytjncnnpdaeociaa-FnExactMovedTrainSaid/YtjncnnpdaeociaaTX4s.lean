/- A symbolic evaluator over the model's own operations, part 4s: parts of slices, slices that are made. -/
import Derived.Test.YtjncnnpdaeociaaTX4r
import Derived.Laws.Slices
import Derived.Laws.Tables
namespace Go.SX
open Go.RowKit

section
variable {P : Program} {s : St} {look : Nat → Option SS} {ent : Nat → Option Entry} {A : List (Nat × Bool)} {nid : Nat} {o : Oper} {r : Raw} {B : Base} {ρ : Nm} {a : Act} {w : World} {K : Act → World → Prop} {Q : Exit → Act → World → Prop}

theorem run_bounds {isS : Bool} {len cap : Nat} {lo hi : Option Value} {l h : Int} (hlo : (lo = none ∧ l = 0) ∨ ∃ k, lo = some (.int k l)) (hhi : (hi = none ∧ h = len) ∨ ∃ k, hi = some (.int k h)) (h0 : 0 ≤ l) (h1 : l ≤ h) (h2 : h ≤ len) (h3 : len ≤ cap) :
    (Instr.sliceBounds isS len cap lo hi none).run P w = .ok (l.toNat, h.toNat, cap) w := by
  have e0 : 0 ≤ h := by omega
  have e1 : h ≤ (cap : Int) := by omega
  have eh : (h.toNat : Int) = h := Int.toNat_of_nonneg e0
  rcases hlo with ⟨rfl, rfl⟩ | ⟨k, rfl⟩ <;> rcases hhi with ⟨rfl, rfl⟩ | ⟨k', rfl⟩ <;>
    simp [Instr.sliceBounds, run_sliceBound, h0, h1, e0, e1, eh]

theorem bnd_sound (c : Ctx B ρ s a w look ent A) {x : Option Operand} {d l : Int} (h : bnd look A x d = some l) : (x.map a.eval = none ∧ l = d) ∨ ∃ k, x.map a.eval = some (.int k l) := by
  cases x with
  | none => simp only [bnd, Option.some.injEq] at h; exact .inl ⟨rfl, h.symm⟩
  | some y =>
    simp only [bnd] at h
    obtain ⟨k, hk⟩ := c.evI h
    exact .inr ⟨k, by simp [hk]⟩

theorem run_sliceAt {T e : TypeId} {inf : TypeInfo} {lo hi : Option Value} {l h : Int} {b : Option Addr} {len cap : Nat} (hT : P.underlying T = some (.slice e)) (hinf : P.info? e = some inf)
    (hlo : (lo = none ∧ l = 0) ∨ ∃ k, lo = some (.int k l)) (hhi : (hi = none ∧ h = len) ∨ ∃ k, hi = some (.int k h)) (h0 : 0 ≤ l) (h1 : l ≤ h) (h2 : h ≤ len) (h3 : len ≤ cap) :
    (Instr.sliceAt T (.slice b len cap) lo hi none).run P w = .ok (.slice (if cap = l.toNat then b else b.map (·.add (l.toNat * inf.size))) (h.toNat - l.toNat) (cap - l.toNat)) w := by
  have := run_bounds (P := P) (w := w) (isS := true) hlo hhi h0 h1 h2 h3
  simp [Instr.sliceAt, Instr.slice, run_underlying hT, this, sizeOf, typeInfo, hinf]

theorem RepS.part {H : Nat → Option Obj} {t : CTy} {v : Value} {xs : List (E t)} (h : RepS H t v xs) {l m z : Nat} (hl : l ≤ m) (hm : m ≤ xs.length) (hz : z = t.size) {b : Option Addr} {len cap : Nat} (hv : v = .slice b len cap) :
    RepS H t (.slice (if cap = l then b else b.map (·.add (l * z))) (m - l) (cap - l)) ((xs.take m).drop l) := by
  subst hz
  have hlen : ((xs.take m).drop l).length = m - l := by rw [List.length_drop, List.length_take]; omega
  rcases h with ⟨h, hn⟩ | ⟨b', off, cap', arr, T, fz, h1, h2, h3, h4, h5⟩
  · subst hn
    simp only [List.length_nil, Nat.le_zero_eq] at hm
    subst hm
    simp only [Nat.le_zero_eq] at hl; subst hl
    rcases h with h | ⟨b', h⟩
    · rw [hv] at h; cases h
      exact .inl ⟨.inl (by simp), by simp⟩
    · rw [hv] at h; cases h
      exact .inl ⟨.inr ⟨b', by simp⟩, by simp⟩
  · rw [hv] at h1; cases h1
    by_cases hc : cap = l
    · subst hc
      have : m = cap := by omega
      subst this
      refine .inr ⟨b', off, 0, arr, T, fz, by rw [hlen]; simp, by rw [hlen]; omega, by omega, h4, fun i x hx => ?_⟩
      have := (List.getElem?_eq_some_iff.1 hx).1
      rw [hlen] at this; omega
    · refine .inr ⟨b', off + l * t.size, cap - l, arr, T, fz, by rw [hlen]; simp [hc, addr_add], by rw [hlen]; omega, by omega, h4, fun i x hx => ?_⟩
      have hlt := (List.getElem?_eq_some_iff.1 hx).1
      rw [List.getElem?_drop, List.getElem?_take, if_pos (by omega)] at hx
      have := h5 _ _ hx
      rwa [Nat.add_mul, ← Nat.add_assoc] at this

theorem ownsRow_prefix {e : TypeId} {t : CTy} {v : Value} {n m z : Nat} {cs : List Value} (h : ownR w e t.size v n cs) (hm : m ≤ n) {b : Option Addr} {len cap : Nat} (hv : v = .slice b len cap) :
    ownR w e t.size (.slice (if cap = 0 then b else b.map (·.add (0 * z))) (m - 0) (cap - 0)) m (cs.take (m * t.size)) ∧
      blks (.slice (if cap = 0 then b else b.map (·.add (0 * z))) (m - 0) (cap - 0)) = blks v := by
  have hle : m * t.size ≤ n * t.size := Nat.mul_le_mul_right _ hm
  have hl : (cs.take (m * t.size)).length = m * t.size := by rw [List.length_take, h.1]; omega
  rcases h.2 with ⟨hz, hn⟩ | ⟨g, cap', cur, h1, h2, h3, h4, h5, h6, h7⟩
  · subst hn
    have : m = 0 := by omega
    subst this
    rcases hz with hz | ⟨b', hz⟩
    · rw [hv] at hz; cases hz
      exact ⟨⟨hl, .inl ⟨.inl (by simp), rfl⟩⟩, by rw [hv]; simp⟩
    · rw [hv] at hz; cases hz
      exact ⟨⟨hl, .inl ⟨.inr ⟨b', by simp⟩, rfl⟩⟩, by rw [hv]; simp⟩
  · rw [hv] at h1; cases h1
    have he : (if cap = 0 then some (⟨g, 0, none⟩ : Addr) else (some (⟨g, 0, none⟩ : Addr)).map (·.add (0 * z))) = some ⟨g, 0, none⟩ := by
      split
      · rfl
      · simp [addr_add]
    rw [he]
    refine ⟨⟨hl, .inr ⟨g, cap, cur, rfl, h2, h3, by omega, h5, h6, ?_⟩⟩, by rw [hv]; rfl⟩
    rw [← h7, List.take_take, Nat.min_eq_left hle]

theorem RepL.take {H : Nat → Option Obj} {t : CTy} {cs : List Value} {xs : List (E t)} (h : RepL H t cs xs) {m : Nat} (hm : m ≤ xs.length) : RepL H t (cs.take (m * t.size)) (xs.take m) := by
  have hle : m * t.size ≤ xs.length * t.size := Nat.mul_le_mul_right _ hm
  refine ⟨by rw [List.length_take, List.length_take, h.1]; rw [Nat.min_eq_left hle, Nat.min_eq_left hm], fun i x hx => ?_⟩
  have hlt := (List.getElem?_eq_some_iff.1 hx).1
  rw [List.length_take] at hlt
  rw [List.getElem?_take, if_pos (by omega)] at hx
  have := h.2 i x hx
  have hc := chunk_le (z := t.size) (show i < m by omega)
  rw [List.drop_take, List.take_take, Nat.min_eq_left (by omega)]
  exact this

theorem sliceV_sound (c : Ctx B ρ s a w look ent A) {T : TypeId} {x : Operand} {lo hi mx : Option Operand} {fr : Bool} (ho : o.op = .slice T x lo hi mx) (h : sliceV P look ent A nid fr T x lo hi mx = some r) (hnew : ∀ i ∈ r.new, s.used i = false) (hnd : ∀ b ∈ r.nd, b = true) (hC : Cont B s ρ r o a K) : o.wp P a w K Q := by
  obtain ⟨dst, op, ty, pos, after, guard⟩ := o
  simp only at ho; subst ho
  unfold sliceV at h
  split at h
  · rename_i str hx
    split at h
    · rename_i l m hl hm hT
      cases h
      have h0 : 0 ≤ l := by simpa using hnd (decide (0 ≤ l)) (by simp)
      have h1 : l ≤ m := by simpa using hnd (decide (l ≤ m)) (by simp)
      have h2 : m ≤ str.size := by simpa using hnd (decide (m ≤ str.size)) (by simp)
      have hxv := (c.evC hx).1
      simp only [Cell.conc] at hxv
      have hr := run_bounds (P := P) (w := w) (isS := false) (cap := str.size) (bnd_sound c hl) (bnd_sound c hm) h0 h1 h2 (Nat.le_refl _)
      refine wp_of_value (w' := w) ?_ (Cont.same (v := one (.val (.string (str.extract l.toNat m.toNat)))) rfl hC c.hp)
      simp [execOp, Instr.sliceAt, Instr.slice, run_underlying hT, hxv, hr, one, SV.conc, V1.conc, Cell.conc]
    · cases h
  · rename_i id hx
    split at h
    · rename_i own e t xs he
      split at h
      · rename_i l m hl hm
        cases hok : elemOk P T t with
        | false => simp [hok] at h
        | true =>
          simp only [hok, cond_true] at h
          unfold elemOk at hok
          split at hok
          · rename_i e' hT
            split at hok
            · rename_i inf hinf
              have hsz := Nat.eq_of_beq_eq_true hok
              have hent := c.hE _ _ he
              obtain ⟨hh, hid, _⟩ := c.hp.he _ _ hent
              have hxv := (c.evC hx).1
              simp only [Cell.conc] at hxv
              have hsl : ∃ b cap, ρ id = .slice b xs.length cap ∧ xs.length ≤ cap := by
                rcases row_cells hh c.hp.hf.dat with ⟨hv, hn⟩ | ⟨b, off, cap, news, hv, _, hle, _⟩
                · subst hn; obtain ⟨b0, hb0⟩ := zeroS_len hv; exact ⟨b0, 0, hb0, Nat.le_refl _⟩
                · exact ⟨_, cap, hv, hle⟩
              obtain ⟨b, cap, hv, hle⟩ := hsl
              have hun : s.used nid = false := by
                split at h <;> cases h <;> exact hnew nid (by simp)
              split at h
              · cases h
                have h1 : 0 ≤ m := by simpa using hnd (decide (0 ≤ m)) (by simp)
                have h2 : m ≤ xs.length := by simpa using hnd (decide (m ≤ xs.length)) (by simp)
                have hl0 : l = 0 := by simpa [bnd] using hl.symm
                subst hl0
                obtain ⟨cs, g1, g2, g3⟩ := hh
                have hr := run_sliceAt (P := P) (w := w) (b := b) (len := xs.length) (cap := cap) (lo := none) (l := 0) hT hinf (.inl ⟨rfl, rfl⟩) (bnd_sound c hm) (Int.le_refl _) h1 h2 hle
                obtain ⟨k1, k2⟩ := ownsRow_prefix (w := w) (z := inf.size) (m := m.toNat) g1 (by omega) hv
                have hlen : (xs.take m.toNat).length = m.toNat := by rw [List.length_take]; omega
                obtain ⟨hX, hp⟩ := c.hp.rowTo (xs' := xs.take m.toNat) hent hun (Chg.refl _ _) (by rw [hlen]; exact k1) (g2.take (by omega)) fun b hb => .inr (by rw [k2] at hb; exact hb)
                refine wp_of_value (w' := w) (u := .slice (if cap = 0 then b else b.map (·.add (0 * inf.size))) (m.toNat - 0) (cap - 0)) ?_ (hC _ _ w hX ?_ hp)
                · simp only [execOp, hxv, hv, Option.map_none]
                  simp only [Int.toNat_zero] at hr
                  simp [hr]
                · simp only [one, SV.conc, V1.conc, Cell.conc]
                  rw [upd_same _ _ rfl]
              · rename_i hne
                cases h
                have h0 : 0 ≤ l := by simpa using hnd (decide (0 ≤ l)) (by simp)
                have h1 : l ≤ m := by simpa using hnd (decide (l ≤ m)) (by simp)
                have h2 : m ≤ xs.length := by simpa using hnd (decide (m ≤ xs.length)) (by simp)
                have hr := run_sliceAt (P := P) (w := w) (b := b) (len := xs.length) (cap := cap) hT hinf (bnd_sound c hl) (bnd_sound c hm) h0 h1 h2 hle
                obtain ⟨ρ1, n1, x1, hp1⟩ := c.hp.freezes c.hE [id]
                have hrow : RepS ρ1.mem t (ρ1 id) xs := by
                  have : entOf s.ent (frz ent [id]) id = some (.row false e t xs) := by
                    cases own with
                    | true => simp only [entOf, look?_frz_mem (List.mem_singleton.2 rfl) he]
                    | false =>
                      have : look? (frz ent [id]) id = none := by simp [frz, he, look?]
                      simp only [entOf, this]; exact hent
                  exact (hp1.he _ _ this).1
                rw [Nm.of_nm n1, hv] at hrow
                have hpart := hrow.part (l := l.toNat) (m := m.toNat) (z := inf.size) (by omega) (by omega) hsz rfl
                obtain ⟨hX, hp⟩ := hp1.names (ρ' := upd ρ1 nid (.slice (if cap = l.toNat then b else b.map (·.add (l.toNat * inf.size))) (m.toNat - l.toNat) (cap - l.toNat)))
                  (es := [(nid, .row false e t ((xs.take m.toNat).drop l.toNat))]) (new := [nid]) (upd_old hun _ _) rfl fun i x hl => by
                    obtain ⟨rfl, rfl⟩ := look?_one hl
                    refine ⟨?_, by simp [usedOf, memN], trivial, rfl⟩
                    simp only [Entry.holds]
                    rw [upd_same _ _ rfl]
                    exact hpart
                rw [entOf_append] at hp
                refine wp_of_value (u := .slice (if cap = l.toNat then b else b.map (·.add (l.toNat * inf.size))) (m.toNat - l.toNat) (cap - l.toNat)) (w' := w) ?_ (hC _ _ w (x1.trans hX fun _ h => h) ?_ hp)
                · simp only [execOp, hxv, hv]
                  simp only [Sem.run_bind, Option.map_none, hr, Result.andThen_ok, Sem.run_pure]
                · simp only [one, SV.conc, V1.conc, Cell.conc]
                  rw [upd_same _ _ rfl]
            · cases hok
          · cases hok
      · cases h
    · cases h
  · cases h

end
end Go.SX

/- A symbolic evaluator over the model's own operations, part 4q: slices that grow. -/
import Derived.Test.YtjncnnpdaeociaaTX4p
import Derived.ArgAppend
namespace Go.SX
open Go.RowKit

section
variable {P : Program} {s : St} {look : Nat → Option SS} {ent : Nat → Option Entry} {A : List (Nat × Bool)} {nid : Nat} {o : Oper} {r : Raw} {B : Base} {ρ : Nm} {a : Act} {w : World} {K : Act → World → Prop} {Q : Exit → Act → World → Prop}

/-- append, with where its result lies. -/
theorem run_append_blk (t ty e : TypeId) (i : TypeInfo) (z : Value) (size bytes : Nat) (ht : P.underlying t = some (.slice e)) (hi : P.info? e = some i) (hz : i.zero = some z)
    (hsize : i.size = size) (hby : i.bytes = bytes) (hzs : z.cells.size = size) (hsz : 0 < size)
    (v : Value) (n : Nat) (xs : List Value) (hown : ownR w e size v n xs)
    (a : Addr) (m c : Nat) (news : List Value) (hl : news.length = m * size) (hnews : ∀ j u, news[j]? = some u → w.cell? (a.add j) = some u) (h1 : ∀ u ∈ news, u.oneCell' = true)
    (h63 : n + m ≤ maxLen) (hbytes : (n + m) * bytes ≤ 140737488355328) :
    ∃ v' w', (Builtin.append_ #[t, t] ty #[v, .slice (some a) m c]).run P w = .ok v' w' ∧ ownR w' e size v' (n + m) (xs ++ news) ∧ Chg w w' (fun k => k ∈ blks v) ∧
      (∀ b ∈ blks v', w.heap.size ≤ b ∨ b ∈ blks v) := by
  rcases ownR_to hown with ⟨hz0, rfl, rfl⟩ | ⟨hown, g0, cap0, hv0, hc0⟩
  · by_cases hm : m = 0
    · subst hm
      have hn : news = [] := List.length_eq_zero_iff.1 (by rw [hl, Nat.zero_mul])
      subst hn
      rcases hz0 with rfl | ⟨b, rfl⟩
      · obtain ⟨v', w', hr, h2, h3, h4⟩ := run_append_own (P := P) w 0 t ty e i z size bytes ht hi hz hsize hby hzs hsz (.slice none 0 0) 0 [] (World.ownsRow_nil _ _ _ _) a 0 c [] hl hnews h1 h63 hbytes (Nat.zero_le _)
        refine ⟨v', w', hr, ownR_of h2, ⟨h3.os, h3.tape, h3.output, h3.size, fun k hk _ => h3.block k hk (by simp [Value.ownBlock])⟩, fun b hb => ?_⟩
        rw [h4.2 ⟨rfl, rfl⟩] at hb; cases hb
      · refine ⟨_, w, ?_, by simpa using hown, Chg.refl _ _, fun b hb => .inr hb⟩
        have hfc := run_firstCells_some (P := P) w i.size 0 a 0 c [] (by simp) hnews
        simp [Builtin.append_, run_underlying ht, sizeOf, typeInfo, hi, Builtin.lenOf, hfc, storeCells]
    · rcases hz0 with rfl | ⟨b, rfl⟩
      · obtain ⟨v', w', hr, h2, h3, _⟩ := run_append_own (P := P) w w.heap.size t ty e i z size bytes ht hi hz hsize hby hzs hsz (.slice none 0 0) 0 [] (World.ownsRow_nil _ _ _ _) a m c news hl hnews h1 h63 hbytes (Nat.le_refl _)
        refine ⟨v', w', hr, ownR_of h2, ⟨h3.os, h3.tape, h3.output, h3.size, fun k hk _ => h3.block k hk (by simp [Value.ownBlock])⟩, fun b' hb' => ?_⟩
        rcases h2.2 with ⟨rfl, _⟩ | ⟨g, cap, cur, rfl, hg, _⟩
        · cases hb'
        · have := blks_new hb'
          subst this; exact .inl hg
      · obtain ⟨v', w', hr, h2, h3⟩ := run_append_arg_grows (P := P) w t ty e i z size bytes ht hi hz hsize hby hzs hsz b 0 0 [] (by simp) (fun j u hj => by simp at hj) a m c news hl hnews (by omega) h63 hbytes
        refine ⟨v', w', hr, ownR_of h2, ⟨h3.os, h3.tape, h3.output, h3.size, fun k hk _ => h3.block k hk (by simp)⟩, fun b' hb' => ?_⟩
        rcases h2.2 with ⟨rfl, _⟩ | ⟨g, cap, cur, rfl, hg, _⟩
        · cases hb'
        · have := blks_new hb'
          subst this; exact .inl hg
  obtain ⟨v', w', hr, h2, h3, h4⟩ := run_append_own (P := P) w 0 t ty e i z size bytes ht hi hz hsize hby hzs hsz v n xs hown a m c news hl hnews h1 h63 hbytes (Nat.zero_le _)
  refine ⟨v', w', hr, ownR_of h2, Chg.own h3 (fun g hg => by rw [hv0] at hg ⊢; simp only [Value.ownBlock, Option.some.injEq] at hg; rw [blks_slice hc0, ← hg]; simp), ?_⟩
  subst hsize; subst hby
  have hsmall : n + m ≤ 9223372036854775807 := by simp only [maxLen] at h63; omega
  rcases hown.2 with ⟨rfl, rfl⟩ | ⟨g, cap, cur, rfl, hbg, hg, hnc, hcm, hcs, htake⟩
  · cases hv0
  · by_cases hroom : n + m ≤ cap
    · obtain ⟨_, hr', _⟩ := run_append_fits (P := P) w 0 t ty e i i.size ht hi rfl g n cap xs hown a m c news hl hnews h1 hroom
      rw [hr'] at hr
      cases hr
      intro b hb; exact .inr hb
    · have holds : ∀ j u, xs[j]? = some u → w.cell? ((⟨g, 0, none⟩ : Addr).add j) = some u := hown.cells (g := g) rfl
      have hr' := run_append_grow (P := P) w t ty e i z ht hi hz ⟨g, 0, none⟩ n cap xs hown.1 holds a m c news hl hnews (by omega) (by omega) (growslice_fits (by omega) hbytes)
      rw [hr'] at hr
      cases hr
      intro b hb
      left
      simp only [blks] at hb
      revert hb
      generalize Nat.beq _ 0 = q
      cases q with
      | true => intro hb; cases hb
      | false => intro hb; simp only [cond_false, List.mem_singleton] at hb; subst hb; exact Nat.le_refl _

theorem run_append_none (t ty e : TypeId) (i : TypeInfo) (size : Nat) (ht : P.underlying t = some (.slice e)) (hi : P.info? e = some i) (v : Value) (n : Nat) (xs : List Value) (hown : ownR w e size v n xs) :
    (Builtin.append_ #[t, t] ty #[v, .slice none 0 0]).run P w = .ok v w := by
  rcases ownR_to hown with ⟨hz, rfl, rfl⟩ | ⟨hown, _⟩
  · rcases hz with rfl | ⟨b, rfl⟩
    · exact run_append_owned_none (P := P) w 0 t ty e i size ht hi _ 0 [] (World.ownsRow_nil _ _ _ _)
    · simp [Builtin.append_, run_underlying ht, sizeOf, typeInfo, hi, Builtin.lenOf, Builtin.firstCells, storeCells]
  · exact run_append_owned_none (P := P) w 0 t ty e i size ht hi v n xs hown

theorem RepL.cell_one {H : Nat → Option Obj} {t : CTy} {cs : List Value} {xs : List (E t)} (h : RepL H t cs xs) : ∀ u ∈ cs, u.oneCell' = true := by
  intro u hu
  obtain ⟨j, hj⟩ := List.mem_iff_getElem?.1 hu
  have hlt := (List.getElem?_eq_some_iff.1 hj).1
  have hp := size_pos t
  rw [h.1] at hlt
  have hi : j / t.size < xs.length := Nat.div_lt_of_lt_mul (by rw [Nat.mul_comm]; exact hlt)
  refine Rep.one t _ _ (h.2 _ _ (List.getElem?_eq_getElem hi)) u ?_
  refine List.mem_iff_getElem?.2 ⟨j % t.size, ?_⟩
  rw [List.getElem?_take, if_pos (Nat.mod_lt _ hp), List.getElem?_drop, Nat.mul_comm, Nat.div_add_mod]
  exact hj

/-- A slice's cells, where they lie. -/
theorem row_cells {own : Bool} {id : Nat} {e : TypeId} {t : CTy} {xs : List (E t)} (h : (Entry.row own e t xs).holds B ρ w id) (hf : ∀ b o, ρ.mem b = some o → w.heap[b]? = some o) :
    (zeroS (ρ id) ∧ xs = []) ∨ ∃ b off cap news, ρ id = .slice (some ⟨b, off, none⟩) xs.length cap ∧ RepL ρ.mem t news xs ∧ xs.length ≤ cap ∧ cap ≤ maxLen ∧
      (∀ j u, news[j]? = some u → w.cell? ((⟨b, off, none⟩ : Addr).add j) = some u) := by
  cases own with
  | false =>
    rcases RepS.cells hf h with h | ⟨b, off, cap, arr, T, fz, h1, h2, h3, h4, _, h5⟩
    · exact .inl h
    · right
      rcases h5 with rfl | h5
      · exact ⟨b, off, cap, [], h1, RepL.nil _ _, h2, h3, fun j u hj => by simp at hj⟩
      · refine ⟨b, off, cap, _, h1, h5, h2, h3, fun j u hj => ?_⟩
        rw [addr_add, cell_of_block h4]
        rw [List.getElem?_take] at hj
        split at hj
        · simpa using hj
        · cases hj
  | true =>
    obtain ⟨cs, h1, h2, _⟩ := h
    rcases h1.2 with ⟨hv, hn⟩ | ⟨g, cap, cur, hv, _, hg, hle, hcm, hsz, htk⟩
    · exact .inl ⟨hv, List.length_eq_zero_iff.1 hn⟩
    · refine .inr ⟨g, 0, cap, cs, hv, h2, hle, hcm, fun j u hj => ?_⟩
      rw [addr_add, cell_of_block hg]
      rw [← htk, List.getElem?_take] at hj
      split at hj
      · simpa using hj
      · cases hj

theorem maxLen_of {n : Nat} (h : n ≤ 9223372036854775807) : n ≤ maxLen := by simp only [maxLen]; omega

theorem appendV_sound (c : Ctx B ρ s a w look ent A) {cl : Call} {x y : Operand} (ho : o.op = .call cl) (hb : cl.callee = .builtin .append) (hargs : cl.args.toList = [x, y]) (h : appendV P look ent A nid cl.argTypes x y = some r) (hnew : ∀ i ∈ r.new, s.used i = false) (hnd : ∀ b ∈ r.nd, b = true) (hC : Cont B s ρ r o a K) : o.wp P a w K Q := by
  obtain ⟨dst, op, ty, pos, after, guard⟩ := o
  simp only at ho; subst ho
  have hag : cl.args = #[x, y] := by rw [← Array.toArray_toList (xs := cl.args), hargs]
  unfold appendV at h
  split at h
  · rename_i id jd t1 t2 hx hy hts
    split at h
    · rename_i e t xs own e2 t' ys he1 he2
      split at h
      · rename_i e' inf hT hinf
        split at h
        · rename_i z hz
          split at h
          · rename_i ht
            subst ht
            cases hok : (Nat.beq t1 t2 && Nat.beq e' e && Nat.beq inf.size t'.size && Nat.beq z.cells.size t'.size && !Nat.beq id jd) with
            | false => simp [hok] at h
            | true =>
              simp only [hok, cond_true] at h
              cases h
              simp only [Bool.and_eq_true, Bool.not_eq_true'] at hok
              obtain ⟨⟨⟨⟨k1, k2⟩, k3⟩, k4⟩, k5⟩ := hok
              have k1 := Nat.eq_of_beq_eq_true k1
              have k2 := Nat.eq_of_beq_eq_true k2
              have k3 := Nat.eq_of_beq_eq_true k3
              have k4 := Nat.eq_of_beq_eq_true k4
              subst k1; subst k2
              have n1 : xs.length + ys.length ≤ 9223372036854775807 := by simpa using hnd (decide (xs.length + ys.length ≤ 9223372036854775807)) (by simp)
              have n2 : (xs.length + ys.length) * inf.bytes ≤ 140737488355328 := by simpa using hnd (decide ((xs.length + ys.length) * inf.bytes ≤ 140737488355328)) (by simp)
              have hat : cl.argTypes = #[t1, t1] := by rw [← Array.toArray_toList (xs := cl.argTypes), hts]
              have hxv := (c.evC hx).1
              have hyv := (c.evC hy).1
              simp only [Cell.conc] at hxv hyv
              have hent := c.hE _ _ he1
              obtain ⟨⟨cs, h1, h2, h3⟩, hid, _⟩ := c.hp.he _ _ hent
              obtain ⟨hh2, _, _⟩ := c.hp.he _ _ (c.hE _ _ he2)
              have hun : s.used nid = false := hnew nid (by simp)
              have fin : ∀ v' w' cs', (Builtin.append_ #[t1, t1] ty #[ρ id, ρ jd]).run P w = .ok v' w' → ownR w' e' t'.size v' (xs ++ ys).length cs' → RepL ρ.mem t' cs' (xs ++ ys) → Chg w w' (fun k => k ∈ blks (ρ id)) → (∀ b ∈ blks v', w.heap.size ≤ b ∨ b ∈ blks (ρ id)) →
                  Oper.wp P ⟨dst, .call cl, ty, pos, after, guard⟩ a w K Q := by
                intro v' w' cs' hr hown hrep hg hbl
                obtain ⟨hX, hp⟩ := c.hp.rowTo hent hun hg hown hrep hbl
                refine wp_of_value (u := v') (w' := w') ?_ (hC _ v' w' hX ?_ hp)
                · simp [execOp, resolve, hb, invoke, builtin, hag, hxv, hyv, hat, hr]
                · simp only [one, SV.conc, V1.conc, Cell.conc]
                  rw [upd_same _ _ (ownsRow_slim hown)]
              rcases row_cells hh2 c.hp.hf.dat with ⟨hv, hn⟩ | ⟨b, off, cap, news, hv, hrep, hle, hcm, hcells⟩
              · subst hn
                rcases hv with hv | ⟨b, hv⟩
                · have hr := run_append_none (P := P) (w := w) t1 ty e' inf t'.size hT hinf (ρ id) xs.length cs h1
                  rw [← hv] at hr
                  exact fin _ _ cs hr (by simpa using h1) (by simpa using h2) (Chg.refl _ _) fun b hb => .inr hb
                · obtain ⟨v', w', hr, g1, g2, g3⟩ := run_append_blk (P := P) t1 ty e' inf z t'.size inf.bytes hT hinf hz k3 rfl k4 (size_pos t') (ρ id) xs.length cs h1 b 0 0 [] (by simp) (fun j u hj => by simp at hj) (fun u hu => by simp at hu) (maxLen_of (by simpa using n1)) (by simpa using n2)
                  rw [← hv] at hr
                  exact fin _ _ _ hr (by simpa using g1) (by simpa using h2) g2 g3
              · obtain ⟨v', w', hr, g1, g2, g3⟩ := run_append_blk (P := P) t1 ty e' inf z t'.size inf.bytes hT hinf hz k3 rfl k4 (size_pos t') (ρ id) xs.length cs h1 ⟨b, off, none⟩ ys.length cap news hrep.1 hcells hrep.cell_one (maxLen_of n1) n2
                rw [← hv] at hr
                refine fin _ _ _ hr (by rw [List.length_append]; exact g1) (h2.append hrep) g2 g3
          · cases h
        · cases h
      · cases h
    · cases h
  · cases h

end
end Go.SX

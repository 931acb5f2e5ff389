/- A symbolic evaluator over the model's own operations, part 4v: structs compared. -/
import Derived.Test.YtjncnnpdaeociaaTX4d
import Derived.Laws.StructEq
namespace Go.SX
open Go.RowKit

def eqFs (P : Program) (f : TypeId → V1 → V1 → Option Bool) : List Field → List Cell → List Cell → Option Bool
  | [], _, _ => some true
  | fd :: r, cx, cy => match decide (fd.name = "_") with
    | true => eqFs P f r cx cy
    | false => match loadC P fd.type fd.offset cx, loadC P fd.type fd.offset cy with
      | some a, some b => match f fd.type a b, eqFs P f r cx cy with
        | some u, some v => some (bif u then v else false)
        | _, _ => none
      | _, _ => none

/-- Two values of a type that holds numbers, truths, strings. -/
def eqC (P : Program) : Nat → TypeId → V1 → V1 → Option Bool
  | 0, _, _, _ => none
  | d + 1, t, x, y => match P.underlying t with
    | some .bool => match x, y with
      | ⟨false, [.val (.bool a)]⟩, ⟨false, [.val (.bool b)]⟩ => some (a == b)
      | _, _ => none
    | some (.int _) => match x, y with
      | ⟨false, [.val (.int k a)]⟩, ⟨false, [.val (.int k' b)]⟩ => if k = k' then some (a == b) else none
      | _, _ => none
    | some .string => match x, y with
      | ⟨false, [.val (.string a)]⟩, ⟨false, [.val (.string b)]⟩ => some (a == b)
      | _, _ => none
    | some (.struct fs) => match x, y with
      | ⟨true, cx⟩, ⟨true, cy⟩ => bif P.stoodInHeld t then none else eqFs P (eqC P d) fs.toList cx cy
      | _, _ => none
    | _ => none

/-- A comparison of structs. -/
def eqV (P : Program) (look : Nat → Option SS) (A : List (Nat × Bool)) (op : BinOp) (T : TypeId) (x y : Operand) : Option Raw :=
  match op, ev1 look A x, ev1 look A y with
  | .eql, some ⟨true, cx⟩, some ⟨true, cy⟩ => bif P.eqGuardType P.depth T then none else match eqC P 12 T ⟨true, cx⟩ ⟨true, cy⟩ with
    | some b => some (.ofV (one (.val (.bool b))))
    | none => none
  | .neq, some ⟨true, cx⟩, some ⟨true, cy⟩ => bif P.eqGuardType P.depth T then none else match eqC P 12 T ⟨true, cx⟩ ⟨true, cy⟩ with
    | some b => some (.ofV (one (.val (.bool (!b)))))
    | none => none
  | _, _, _ => none

/-- A slice that has elements is not nil. -/
def eqNilV (P : Program) (look : Nat → Option SS) (ent : Nat → Option Entry) (A : List (Nat × Bool)) (op : BinOp) (T : TypeId) (x y : Operand) : Option Raw :=
  match op, P.underlying T, evC look A x, evC look A y with
  | .eql, some (.slice _), some (.ref id), some (.val (.slice none 0 0)) => match ent id with
    | some (.row _ _ _ xs) => some ⟨one (.val (.bool false)), [], [], [decide (0 < xs.length)]⟩
    | _ => none
  | .neq, some (.slice _), some (.ref id), some (.val (.slice none 0 0)) => match ent id with
    | some (.row _ _ _ xs) => some ⟨one (.val (.bool true)), [], [], [decide (0 < xs.length)]⟩
    | _ => none
  | _, _, _, _ => none

section
variable {P : Program} {s : St} {look : Nat → Option SS} {ent : Nat → Option Entry} {A : List (Nat × Bool)} {nid : Nat} {o : Oper} {r : Raw} {B : Base} {ρ : Nm} {a : Act} {w : World} {K : Act → World → Prop} {Q : Exit → Act → World → Prop}

theorem eqFs_sound {f : TypeId → V1 → V1 → Option Bool} {d : Nat} (hf : ∀ t x y b, f t x y = some b → (Op.equalIn d t (x.conc ρ) (y.conc ρ)).run P w = .ok b w) :
    ∀ (fs : List Field) (cx cy : List Cell) (b : Bool), eqFs P f fs cx cy = some b → (Op.eqFields d (cx.map (Cell.conc ρ)).toArray (cy.map (Cell.conc ρ)).toArray fs).run P w = .ok b w
  | [], _, _, b, h => by simp only [eqFs, Option.some.injEq] at h; subst h; simp [Op.eqFields]
  | fd :: r, cx, cy, b, h => by
    simp only [eqFs] at h
    split at h
    · rename_i hn
      have hn := of_decide_eq_true hn
      simp only [Op.eqFields, hn, ne_eq, not_true_eq_false, if_false]
      exact eqFs_sound hf r cx cy b h
    · rename_i hn
      have hn := of_decide_eq_false hn
      split at h
      · rename_i u v hu hv
        split at h
        · rename_i e1 e2 h1 h2
          cases h
          have p1 := run_part (ρ := ρ) (w := w) hu
          have p2 := run_part (ρ := ρ) (w := w) hv
          have p3 := hf _ _ _ _ h1
          have ih := eqFs_sound hf r cx cy e2 h2
          simp only [Op.eqFields, ne_eq, hn, not_false_eq_true, if_true, Sem.run_bind, p1, p2, p3, Result.andThen_ok]
          cases e1 with
          | true => simpa using ih
          | false => simp
        · cases h
      · cases h

theorem eqC_sound : ∀ (d D : Nat) (t : TypeId) (x y : V1) (b : Bool), eqC P d t x y = some b → (Op.equalIn (D + d) t (x.conc ρ) (y.conc ρ)).run P w = .ok b w
  | 0, _, _, _, _, _, h => by cases h
  | d + 1, D, t, x, y, b, h => by
    simp only [eqC] at h
    split at h
    · rename_i hu
      split at h
      · cases h
        exact run_equalIn_bool w (D + d) t _ _ hu
      · cases h
    · rename_i k0 hu
      split at h
      · rename_i k a k' b'
        split at h
        · rename_i hk
          subst hk
          cases h
          exact run_equalIn_int w (D + d) t k k0 a b' hu
        · cases h
      · cases h
    · rename_i hu
      split at h
      · rename_i a' b'
        cases h
        have := run_equalIn_string w (D + d) t a' b' hu
        rw [← beq_toListBytes] at this
        exact this
      · cases h
    · rename_i fs hu
      split at h
      · rename_i cx cy
        cases hs : P.stoodInHeld t with
        | true => rw [hs] at h; cases h
        | false =>
          rw [hs, cond_false] at h
          have hfs : P.fieldsOf t = fs := by simp [Program.fieldsOf, hu]
          have hr := run_equalIn_struct w (D + d) t (cx.map (Cell.conc ρ)).toArray (cy.map (Cell.conc ρ)).toArray (by rw [hfs]; exact hu) hs
          rw [hfs] at hr
          exact hr.trans (eqFs_sound (fun t x y b hb => eqC_sound d D t x y b hb) fs.toList cx cy b h)
      · cases h
    · cases h

theorem eqV_sound (c : Ctx B ρ s a w look ent A) {bop : BinOp} {T T' : TypeId} {x y : Operand} (ho : o.op = .binOp bop T x y T') (h : eqV P look A bop T x y = some r) (hC : Cont B s ρ r o a K) : o.wp P a w K Q := by
  obtain ⟨dst, op, ty, pos, after, guard⟩ := o
  simp only at ho; subst ho
  unfold eqV at h
  split at h
  · rename_i cx cy hx hy
    cases hg : P.eqGuardType P.depth T with
    | true => rw [hg] at h; cases h
    | false =>
      rw [hg, cond_false] at h
      split at h
      · rename_i b hb
        cases h
        have hxv := (c.ev1 hx).1
        have hyv := (c.ev1 hy).1
        have he := eqC_sound (ρ := ρ) (w := w) 12 9988 T _ _ b hb
        simp only [V1.conc] at hxv hyv he
        refine wp_of_value (w' := w) ?_ (Cont.same (v := one (.val (.bool b))) rfl hC c.hp)
        simp only [execOp, hxv, hyv, Sem.run_bind, run_eqGuard_agg w .eql T x y _ _ hg, Result.andThen_ok, run_eql_struct, he, one, SV.conc, V1.conc, Cell.conc]
        rfl
      · cases h
  · rename_i cx cy hx hy
    cases hg : P.eqGuardType P.depth T with
    | true => rw [hg] at h; cases h
    | false =>
      rw [hg, cond_false] at h
      split at h
      · rename_i b hb
        cases h
        have hxv := (c.ev1 hx).1
        have hyv := (c.ev1 hy).1
        have he := eqC_sound (ρ := ρ) (w := w) 12 9988 T _ _ b hb
        simp only [V1.conc] at hxv hyv he
        refine wp_of_value (w' := w) ?_ (Cont.same (v := one (.val (.bool (!b)))) rfl hC c.hp)
        simp only [execOp, hxv, hyv, Sem.run_bind, run_eqGuard_agg w .neq T x y _ _ hg, Result.andThen_ok, run_neq_struct, he, one, SV.conc, V1.conc, Cell.conc]
        rfl
      · cases h
  · cases h

theorem row_some {own : Bool} {id : Nat} {e : TypeId} {t : CTy} {xs : List (E t)} (h : (Entry.row own e t xs).holds B ρ w id) (hf : ∀ b o, ρ.mem b = some o → w.heap[b]? = some o) (hx : 0 < xs.length) :
    ∃ b n cap, ρ id = .slice (some b) n cap := by
  rcases row_cells h hf with ⟨_, hn⟩ | ⟨b, off, cap, news, hv, _⟩
  · subst hn; cases hx
  · exact ⟨_, _, _, hv⟩

theorem run_eq_nil {T e : TypeId} (hT : P.underlying T = some (.slice e)) (b : Addr) (n cap d : Nat) : (Op.equalIn (d + 1) T (.slice (some b) n cap) (.slice none 0 0)).run P w = .ok false w := by
  simp [Op.equalIn, run_underlying hT]

theorem run_eql_nil {T e : TypeId} (hT : P.underlying T = some (.slice e)) (b : Addr) (n cap : Nat) (x y : Operand) : (do eqGuard .eql T x y (.slice (some b) n cap) (.slice none 0 0); binOp .eql T (.slice (some b) n cap) (.slice none 0 0) : Sem Value).run P w = .ok (.bool false) w := by
  have h := run_eq_nil (w := w) hT b n cap 9999
  have h0 : (eqGuard .eql T x y (.slice (some b) n cap) (.slice none 0 0)).run P w = .ok () w := rfl
  have h1 : (binOp .eql T (.slice (some b) n cap) (.slice none 0 0)).run P w = .ok (.bool false) w := by
    show (do pure (.bool (← Op.equalIn (9999 + 1) T (.slice (some b) n cap) (.slice none 0 0))) : Sem Value).run P w = _
    rw [Sem.run_bind, h]; rfl
  rw [Sem.run_bind, h0]; exact h1

theorem run_neq_nil {T e : TypeId} (hT : P.underlying T = some (.slice e)) (b : Addr) (n cap : Nat) (x y : Operand) : (do eqGuard .neq T x y (.slice (some b) n cap) (.slice none 0 0); binOp .neq T (.slice (some b) n cap) (.slice none 0 0) : Sem Value).run P w = .ok (.bool true) w := by
  have h := run_eq_nil (w := w) hT b n cap 9999
  have h0 : (eqGuard .neq T x y (.slice (some b) n cap) (.slice none 0 0)).run P w = .ok () w := rfl
  have h1 : (binOp .neq T (.slice (some b) n cap) (.slice none 0 0)).run P w = .ok (.bool true) w := by
    show (do pure (.bool (!(← Op.equalIn (9999 + 1) T (.slice (some b) n cap) (.slice none 0 0)))) : Sem Value).run P w = _
    rw [Sem.run_bind, h]; rfl
  rw [Sem.run_bind, h0]; exact h1

theorem eqNilV_sound (c : Ctx B ρ s a w look ent A) {bop : BinOp} {T T' : TypeId} {x y : Operand} (ho : o.op = .binOp bop T x y T') (h : eqNilV P look ent A bop T x y = some r) (hnd : ∀ b ∈ r.nd, b = true) (hC : Cont B s ρ r o a K) : o.wp P a w K Q := by
  obtain ⟨dst, op, ty, pos, after, guard⟩ := o
  simp only at ho; subst ho
  unfold eqNilV at h
  split at h
  · rename_i e id hT hx hy
    split at h
    · rename_i own e' t xs he
      cases h
      have hl : 0 < xs.length := by simpa using hnd (decide (0 < xs.length)) (by simp)
      have hxv := (c.evC hx).1
      have hyv := (c.evC hy).1
      simp only [Cell.conc] at hxv hyv
      obtain ⟨b, n, cap, hv⟩ := row_some (c.hp.he _ _ (c.hE _ _ he)).1 c.hp.hf.dat hl
      rw [hv] at hxv
      refine wp_of_value (w' := w) ?_ (Cont.same (v := one (.val (.bool false))) rfl hC c.hp)
      have hr := run_eql_nil (w := w) hT b n cap x y
      simp only [Sem.run_bind] at hr
      simp only [execOp, hxv, hyv, Sem.run_bind, hr, one, SV.conc, V1.conc, Cell.conc]
      rfl
    · cases h
  · rename_i e id hT hx hy
    split at h
    · rename_i own e' t xs he
      cases h
      have hl : 0 < xs.length := by simpa using hnd (decide (0 < xs.length)) (by simp)
      have hxv := (c.evC hx).1
      have hyv := (c.evC hy).1
      simp only [Cell.conc] at hxv hyv
      obtain ⟨b, n, cap, hv⟩ := row_some (c.hp.he _ _ (c.hE _ _ he)).1 c.hp.hf.dat hl
      rw [hv] at hxv
      refine wp_of_value (w' := w) ?_ (Cont.same (v := one (.val (.bool true))) rfl hC c.hp)
      have hr := run_neq_nil (w := w) hT b n cap x y
      simp only [Sem.run_bind] at hr
      simp only [execOp, hxv, hyv, Sem.run_bind, hr, one, SV.conc, V1.conc, Cell.conc]
      rfl
    · cases h
  · cases h

end
end Go.SX

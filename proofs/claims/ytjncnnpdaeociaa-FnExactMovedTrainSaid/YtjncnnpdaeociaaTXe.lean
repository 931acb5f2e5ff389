/- A symbolic evaluator over the model's own operations, part 13: slices of one's own, lent as data. -/
import Derived.Test.YtjncnnpdaeociaaTXd
namespace Go.SX
open Go.RowKit

/-- As data. -/
def Entry.fz : Entry → Entry
  | .row _ e t xs => .row false e t xs
  | e => e

def Entry.isRow : Entry → Bool
  | .row _ _ _ _ => true
  | _ => false

def Entry.isOwn : Entry → Bool
  | .row true _ _ _ => true
  | _ => false

def Entry.flatOwn : Entry → Bool
  | .row true _ t _ => t.flat
  | _ => false

theorem HpL.fz {w0 w : World} {mem : Nat → Option Obj} {es : List Entry} {ρ : Nm} (h : HpL w0 mem es ρ w) :
    ∃ ρ' : Nm, ρ'.nm = ρ.nm ∧ Ext (memB w0 mem) (fun i => Nat.blt i es.length) ρ ρ' ∧ HpL w0 mem (es.map Entry.fz) ρ' w := by
  obtain ⟨ρ1, n1, x1, h1⟩ := Hp.freezes (e0 := fun i => es[i]?) (fun _ _ h => h) h (idsFrom 0 es.length)
  refine ⟨ρ1, n1, x1, ?_⟩
  unfold HpL
  rw [show (fun i => (es.map Entry.fz)[i]?) = entOf (fun i => es[i]?) (SX.frz (fun i => es[i]?) (idsFrom 0 es.length)) from funext fun i => by
    simp only [entOf, List.getElem?_map]
    cases he : es[i]? with
    | none =>
      cases hl : look? (SX.frz (fun i => es[i]?) (idsFrom 0 es.length)) i with
      | none => rfl
      | some e1 => obtain ⟨_, _, _, h3, _⟩ := look?_frz hl; rw [he] at h3; cases h3
    | some e =>
      have hlt := (List.getElem?_eq_some_iff.1 he).1
      cases e with
      | row own e t xs =>
        cases own with
        | true =>
          have := look?_frz_mem (ent := fun i => es[i]?) (l := idsFrom 0 es.length) (i := i) (SX.memN_mem.1 (mem_idsFrom.2 ⟨Nat.zero_le _, by omega⟩)) he
          simp only [this, Option.map_some, Entry.fz]
        | false =>
          cases hl : look? (SX.frz (fun i => es[i]?) (idsFrom 0 es.length)) i with
          | none => rfl
          | some e1 => obtain ⟨_, _, _, h3, _⟩ := look?_frz hl; rw [he] at h3; cases h3
      | box T cs =>
        cases hl : look? (SX.frz (fun i => es[i]?) (idsFrom 0 es.length)) i with
        | none => rfl
        | some e1 => obtain ⟨_, _, _, h3, _⟩ := look?_frz hl; rw [he] at h3; cases h3
      | gone =>
        cases hl : look? (SX.frz (fun i => es[i]?) (idsFrom 0 es.length)) i with
        | none => rfl
        | some e1 => obtain ⟨_, _, _, h3, _⟩ := look?_frz hl; rw [he] at h3; cases h3]
  rw [show (fun i => Nat.blt i (es.map Entry.fz).length) = fun i => Nat.blt i es.length from by rw [List.length_map]]
  exact h1

/-- The same function, handed slices of the caller's own: they become data. -/
def PF.fz {P : Program} (p : PF P) : PF P where
  k := p.k
  F := fun args es => bif es.any Entry.isOwn then p.F args (es.map Entry.fz) else none
  ok := by
    intro args es o h hnd mem ρ w hp
    cases ha : es.any Entry.isOwn with
    | false => rw [ha] at h; cases h
    | true =>
      rw [ha] at h
      obtain ⟨ρ1, n1, x1, h1⟩ := hp.fz
      have hc : args.map (SV.conc ρ) = args.map (SV.conc ρ1) := by
        refine List.map_congr_left fun v _ => ?_
        have : ∀ i, ρ1 i = ρ i := fun i => by simp only [Nm.of, n1]
        exact (SV.conc_congr (U := fun _ => true) (fun i _ => this i) (by
          have hc : ∀ c : Cell, c.inU fun _ => true := fun c => by cases c <;> simp [Cell.inU]
          cases v with
          | one v => exact fun c _ => hc c
          | tup vs => exact fun v _ c _ => hc c)).symm
      rw [hc]
      refine (p.ok args (es.map Entry.fz) o h hnd mem ρ1 w h1).mono fun e w' ⟨ρ', hx, he, hl, hr, hh⟩ => ?_
      rw [List.length_map] at hx hl
      exact ⟨ρ', x1.trans hx fun _ h => h, he, hl, hr, hh⟩

theorem RepS.dat {H : Nat → Option Obj} {t : CTy} {v : Value} {xs : List (E t)} (h : RepS H t v xs) {b : Nat} (hb : b ∈ blks v) : ∃ o, H b = some o := by
  rcases h with ⟨hz, _⟩ | ⟨b', off, cap, arr, T, fz, rfl, _, _, h5, _⟩
  · rw [blks_zero hz] at hb; cases hb
  · have := blks_new hb
    subst this; exact ⟨_, h5⟩

theorem RepL.flat {H H' : Nat → Option Obj} {t : CTy} (hf : t.flat = true) {cs : List Value} {xs : List (E t)} (h : RepL H t cs xs) : RepL H' t cs xs := by
  refine ⟨h.1, fun i x hx => ?_⟩
  rw [Rep.flat t _ _ hf (h.2 i x hx)]
  exact Rep.of_flat t x hf

/-- The same function, lent slices of the caller's own: they are the caller's own behind the call too. -/
def PF.lend {P : Program} (p : PF P) : PF P where
  k := p.k
  F := fun args es => bif es.any Entry.isOwn && es.all Entry.isRow then
      match p.F args (es.map Entry.fz) with
      | some o => bif o.new.all Entry.flatOwn then some ⟨o.res, es, o.new, o.nd⟩ else none
      | none => none
    else none
  ok := by
    intro args es o h hnd mem ρ w hp
    cases ha : (es.any Entry.isOwn && es.all Entry.isRow) with
    | false => rw [ha] at h; cases h
    | true =>
      rw [ha, cond_true] at h
      simp only [Bool.and_eq_true] at ha
      have hrow := List.all_eq_true.1 ha.2
      split at h
      · rename_i o1 ho1
        cases hf : o1.new.all Entry.flatOwn with
        | false => rw [hf] at h; cases h
        | true =>
          rw [hf, cond_true] at h
          cases h
          have hflat := List.all_eq_true.1 hf
          obtain ⟨ρ1, n1, x1, h1⟩ := hp.fz
          have hc : args.map (SV.conc ρ) = args.map (SV.conc ρ1) := by
            refine List.map_congr_left fun v _ => ?_
            have : ∀ i, ρ1 i = ρ i := fun i => by simp only [Nm.of, n1]
            exact (SV.conc_congr (U := fun _ => true) (fun i _ => this i) (by
              have hc : ∀ c : Cell, c.inU fun _ => true := fun c => by cases c <;> simp [Cell.inU]
              cases v with
              | one v => exact fun c _ => hc c
              | tup vs => exact fun v _ c _ => hc c)).symm
          rw [hc]
          refine (p.ok args (es.map Entry.fz) o1 ho1 hnd mem ρ1 w h1).mono fun e w' ⟨ρ2, hx, he, hl, hr, hh⟩ => ?_
          rw [List.length_map] at hx hl
          have hlen : (o1.es ++ o1.new).length = (es ++ o1.new).length := by simp only [List.length_append, hl]
          have hnm : ∀ i, i < es.length → ρ2 i = ρ i := fun i hi => by
            rw [hx.nm i (by simp only [Nat.blt]; exact Nat.ble_eq_true_of_le hi)]
            simp only [Nm.of, n1]
          have hdat1 : ∀ (i : Nat) (e : Entry) (b : Nat), es[i]? = some e → b ∈ e.ob (ρ i) → ∃ ob, ρ1.mem b = some ob := by
            intro i e b hi hb
            have hm : (es.map Entry.fz)[i]? = some e.fz := by simp [hi]
            have hq := (h1.he i _ hm).1
            have hri : ρ1 i = ρ i := by simp only [Nm.of, n1]
            cases e with
            | box T cs => have := hrow _ (List.mem_of_getElem? hi); cases this
            | gone => cases hb
            | row own e t xs =>
              simp only [Entry.fz, Entry.holds] at hq
              rw [hri] at hq
              cases own with
              | false => cases hb
              | true => exact RepS.dat hq hb
          let ρ' : Nm := ⟨ρ2.nm, ρ.mem⟩
          have hρ' : ∀ i, ρ' i = ρ2 i := fun i => rfl
          have hold : ∀ b o, ρ.mem b = some o → ρ2.mem b = some o := fun b o hb => hx.old b o (x1.old b o hb)
          have hget : ∀ (i : Nat) (e : Entry), (es ++ o1.new)[i]? = some e → (i < es.length ∧ es[i]? = some e) ∨ (es.length ≤ i ∧ (o1.es ++ o1.new)[i]? = some e ∧ e.flatOwn = true) := by
            intro i e hi
            by_cases hlt : i < es.length
            · exact .inl ⟨hlt, by rwa [List.getElem?_append_left hlt] at hi⟩
            · right
              have hge : es.length ≤ i := Nat.le_of_not_lt hlt
              rw [List.getElem?_append_right hge] at hi
              exact ⟨hge, by rw [List.getElem?_append_right (by omega), hl]; exact hi, hflat _ (List.mem_of_getElem? hi)⟩
          have hnew : ∀ (i : Nat) (e : Entry) (b : Nat), (o1.es ++ o1.new)[i]? = some e → e.flatOwn = true → b ∈ e.ob (ρ2 i) → ρ2.mem b = none := by
            intro i e b hi hf hb
            have hq := (hh.he i e hi).1
            cases e with
            | box T cs => cases hf
            | gone => cases hf
            | row own e t xs =>
              cases own with
              | false => cases hf
              | true => obtain ⟨cs, _, _, k3⟩ := hq; exact (k3 b hb).2
          refine ⟨ρ', ⟨fun i hi => ?_, fun _ _ h => h, fun _ _ h => .inl h⟩, he, rfl, by rw [← hlen]; exact hr, ⟨fun i e hi => ?_, fun i j e e' b hi hj hb hb' => ?_, ⟨hh.hf.os, hh.hf.tape, hh.hf.output, hh.hf.size, hh.hf.mem, fun b o hb => hh.hf.dat b o (hold b o hb)⟩⟩⟩
          · rw [hρ']; exact hnm i (Nat.le_of_ble_eq_true hi)
          · rcases hget i e hi with ⟨hlt, hi'⟩ | ⟨hge, hi', hf'⟩
            · have hq := (hp.he i e hi').1
              refine ⟨?_, by simp only [Nat.blt, Nat.ble_eq, List.length_append]; omega, ?_⟩
              · cases e with
                | box T cs => have := hrow _ (List.mem_of_getElem? hi'); cases this
                | gone => trivial
                | row own e t xs =>
                  cases own with
                  | false => simp only [Entry.holds] at hq ⊢; rw [hρ', hnm i hlt]; exact hq
                  | true =>
                    obtain ⟨cs, k1, k2, k3⟩ := hq
                    simp only [Entry.holds]
                    rw [hρ', hnm i hlt]
                    refine ⟨cs, ownsRow_keep k1 fun b hb => ?_, k2, k3⟩
                    obtain ⟨ob, hob⟩ := hdat1 i _ b hi' hb
                    rw [h1.hf.dat b ob hob, hh.hf.dat b ob (hx.old b ob hob)]
              · cases e with
                | box T cs => have := hrow _ (List.mem_of_getElem? hi'); cases this
                | gone => trivial
                | row own e t xs => trivial
            · have hq := hh.he i e hi'
              refine ⟨?_, by rw [← hlen]; exact hq.2.1, ?_⟩
              · cases e with
                | box T cs => cases hf'
                | gone => cases hf'
                | row own e t xs =>
                  cases own with
                  | false => cases hf'
                  | true =>
                    obtain ⟨cs, k1, k2, k3⟩ := hq.1
                    refine ⟨cs, k1, RepL.flat hf' k2, fun b hb => ⟨(k3 b hb).1, ?_⟩⟩
                    show ρ.mem b = none
                    cases hm : ρ.mem b with
                    | none => rfl
                    | some ob => have := (k3 b hb).2; rw [hold b ob hm] at this; cases this
              · cases e with
                | box T cs => cases hf'
                | gone => trivial
                | row own e t xs => trivial
          · rcases hget i e hi with ⟨hlt, hi'⟩ | ⟨hge, hi', hf'⟩
            · rcases hget j e' hj with ⟨hlt', hj'⟩ | ⟨hge', hj', hf''⟩
              · rw [hρ', hnm i hlt] at hb
                rw [hρ', hnm j hlt'] at hb'
                exact hp.hi i j e e' b hi' hj' hb hb'
              · rw [hρ', hnm i hlt] at hb
                obtain ⟨ob, hob⟩ := hdat1 i e b hi' hb
                have := hnew j e' b hj' hf'' hb'
                rw [hx.old b ob hob] at this; cases this
            · rcases hget j e' hj with ⟨hlt', hj'⟩ | ⟨hge', hj', hf''⟩
              · rw [hρ', hnm j hlt'] at hb'
                obtain ⟨ob, hob⟩ := hdat1 j e' b hj' hb'
                have := hnew i e b hi' hf' hb
                rw [hx.old b ob hob] at this; cases this
              · exact hh.hi i j e e' b hi' hj' hb hb'
      · cases h

/-- What was handed on as data is what it was. -/
def keepD : List Entry → List Entry → List Entry
  | e0 :: r0, e :: r => (match e0 with | .row false T t xs => .row false T t xs | _ => e) :: keepD r0 r
  | _, l => l

theorem keepD_length : ∀ (es l : List Entry), (keepD es l).length = l.length
  | [], l => by cases l <;> rfl
  | _ :: _, [] => rfl
  | e0 :: r0, e :: r => by simp only [keepD, List.length_cons, keepD_length r0 r]

theorem keepD_get : ∀ {es l : List Entry} {i : Nat} {e2 : Entry}, (keepD es l)[i]? = some e2 → ∃ e1, l[i]? = some e1 ∧ (e2 = e1 ∨ ∃ T t xs, e2 = .row false T t xs ∧ es[i]? = some e2)
  | [], l, i, e2, h => by
    have : keepD [] l = l := by cases l <;> rfl
    rw [this] at h; exact ⟨e2, h, .inl rfl⟩
  | _ :: _, [], i, e2, h => by simp [keepD] at h
  | e0 :: r0, e :: r, 0, e2, h => by
    simp only [keepD, List.getElem?_cons_zero, Option.some.injEq] at h
    subst h
    refine ⟨e, rfl, ?_⟩
    split
    · rename_i T t xs; exact .inr ⟨T, t, xs, rfl, rfl⟩
    · exact .inl rfl
  | e0 :: r0, e :: r, i + 1, e2, h => by
    simp only [keepD, List.getElem?_cons_succ] at h ⊢
    exact keepD_get h

theorem Hp.less {B : Base} {ρ : Nm} {w : World} {ent1 ent2 : Nat → Option Entry} {used : Nat → Bool} (h : Hp B ρ ent1 used w)
    (hs : ∀ id e2, ent2 id = some e2 → ∃ e1, ent1 id = some e1 ∧ e2.holds B ρ w id ∧ (∀ b ∈ e2.ob (ρ id), b ∈ e1.ob (ρ id)) ∧ e2.inU used) : Hp B ρ ent2 used w := by
  refine ⟨fun id e he => ?_, fun id id' e e' b he he' hb hb' => ?_, h.hf⟩
  · obtain ⟨e1, h1, h2, _, h4⟩ := hs id e he
    exact ⟨h2, (h.he id e1 h1).2.1, h4⟩
  · obtain ⟨e1, h1, _, h3, _⟩ := hs id e he
    obtain ⟨e1', h1', _, h3', _⟩ := hs id' e' he'
    exact h.hi id id' e1 e1' b h1 h1' (h3 b hb) (h3' b hb')

/-- All needs in one. -/
def nd1 : List Bool → List Bool
  | [] => []
  | b :: r => [allT (b :: r)]

theorem nd1_all {l : List Bool} (h : ∀ b ∈ nd1 l, b = true) : ∀ b ∈ l, b = true := by
  cases l with
  | nil => intro b hb; cases hb
  | cons b r => exact allT_all (h _ (List.mem_singleton.2 rfl))

/-- What a call comes to. -/
def callG (P : Program) (tbl : List (PF P)) (lf : List (St → R)) (fn : Func) (args : List SV) (es : List Entry) : Option Out :=
  match callF P tbl lf fn args es with
  | some o => some ⟨o.res, keepD es o.es, o.new, nd1 o.nd⟩
  | none => none

/-- A table's row. -/
def PF.ofG (P : Program) (tbl : List (PF P)) (lf : List (St → R)) (hmix : P.follows .mixedOrders = true) (k : FuncId) (fn : Func) (hf : P.funcs[k]? = some fn) (hl : ∀ c, fn.body = some c → LOk P (fun k => Nat.blt k fn.ntmps) lf c)
    (F : List SV → List Entry → Option Out) (h : ∀ vs es r, F vs es = some r → callG P tbl lf fn vs es = some r) : PF P where
  k := k
  F := F
  ok := by
    intro vs es o hv hnd mem ρ w hp
    have hc := h vs es o hv
    unfold callG at hc
    split at hc
    · rename_i o1 ho1
      cases hc
      refine (calls_of_callF hmix hf hl ho1 (nd1_all hnd) mem ρ w hp).mono fun e w' ⟨ρ', hx, he, hlen, hr, hh⟩ => ?_
      have hl2 : (keepD es o1.es ++ o1.new).length = (o1.es ++ o1.new).length := by simp only [List.length_append, keepD_length]
      refine ⟨ρ', hx, he, by rw [keepD_length]; exact hlen, by rw [hl2]; exact hr, ?_⟩
      unfold HpL
      rw [hl2]
      refine Hp.less hh fun id e2 h2 => ?_
      by_cases hlt : id < o1.es.length
      · rw [List.getElem?_append_left (by rw [keepD_length]; exact hlt)] at h2
        obtain ⟨e1, h1, heq⟩ := keepD_get h2
        have h1' : (o1.es ++ o1.new)[id]? = some e1 := by rw [List.getElem?_append_left hlt]; exact h1
        rcases heq with rfl | ⟨T, t, xs, rfl, he0⟩
        · obtain ⟨q1, _, q3⟩ := hh.he id e2 h1'
          exact ⟨e2, h1', q1, fun _ h => h, q3⟩
        · refine ⟨e1, h1', ?_, fun b hb => (by cases hb), trivial⟩
          have := (hp.he id _ he0).1
          simp only [Entry.holds] at this ⊢
          rw [hx.nm id (by simp only [Nat.blt]; exact Nat.ble_eq_true_of_le (by omega))]
          exact RepS.mono hx.old this
      · rw [List.getElem?_append_right (by rw [keepD_length]; omega), keepD_length] at h2
        have h1' : (o1.es ++ o1.new)[id]? = some e2 := by rw [List.getElem?_append_right (by omega)]; exact h2
        obtain ⟨q1, _, q3⟩ := hh.he id e2 h1'
        exact ⟨e2, h1', q1, fun _ h => h, q3⟩
    · cases hc

end Go.SX

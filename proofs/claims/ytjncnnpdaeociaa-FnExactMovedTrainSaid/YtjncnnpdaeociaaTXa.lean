/- A symbolic evaluator over the model's own operations, part 10: functions. -/
import Derived.Test.YtjncnnpdaeociaaTX9
namespace Go.SX
open Go.RowKit

/-- The state at a function's start: its arguments in the first slots, what they name. -/
def init (args : List SV) (es : List Entry) : St :=
  { look := fun k => match args[k]? with | some v => some ⟨none, v⟩ | none => none
    ent := fun i => es[i]?, used := fun i => Nat.blt i es.length, wr := fun _ => false, next := es.length + 1, log := [], logE := [] }

def resL (P : Program) (s : St) : List ResultVar → Option (List V1)
  | [] => some []
  | .tmp t :: r => match s.look t with
    | some ⟨none, .one v⟩ => match resL P s r with
      | some l => some (v :: l)
      | none => none
    | _ => none
  | .cell a T :: r => match s.look a with
    | some ⟨none, .one ⟨false, [.ptr id off]⟩⟩ => match s.ent id with
      | some (.box _ cs) => match loadC P T off cs, resL P s r with
        | some v, some l => some (v :: l)
        | _, _ => none
      | _ => none
    | _ => none

def packV : List V1 → SV
  | [v] => .one v
  | l => .tup l

def resOf (P : Program) (fn : Func) (s : St) : Option SV :=
  match resL P s fn.results.toList with
  | some l => some (packV l)
  | none => none

def eqN : List Nat → List Nat → Bool
  | [], [] => true
  | a :: l, b :: r => Nat.beq a b && eqN l r
  | _, _ => false

/-- What is handed back where the code ends; m: how many were handed to it. -/
def leafL (s : St) (m : Nat) (v : SV) (L : List Nat) : Option Out :=
  match v.ren (posN L), mapO (renE s.ent L) L with
  | some u, some es => bif noDup L && eqN (L.take m) (idsFrom 0 m) then some ⟨u, es.take m, es.drop m, []⟩ else none
  | _, _ => none

def leafOut (P : Program) (fn : Func) (m : Nat) (s : St) : Option Out :=
  match resOf P fn s with
  | some v => leafL s m v (reach s.ent 4 (addN (idsFrom 0 m) v.ids))
  | none => none

def mergeEs (b : Bool) : List Entry → List Entry → Option (List Entry)
  | [], [] => some []
  | e :: r, e' :: r' => match guardE b e (some e'), mergeEs b r r' with
    | some x, some xs => some (x :: xs)
    | _, _ => none
  | _, _ => none

def mergeOut (b : Bool) (x y : Out) : Option Out :=
  match mergeSV b x.res y.res, mergeEs b x.es y.es, mergeEs b x.new y.new with
  | some v, some es, some nw => some ⟨v, es, nw, x.nd.map (fun n => !b || n) ++ y.nd.map (fun n => b || n)⟩
  | _, _, _ => none

def addNd (nd : List Bool) : Option Out → Option Out
  | some o => some ⟨o.res, o.es, o.new, nd ++ o.nd⟩
  | none => none

def R.out (P : Program) (fn : Func) (m : Nat) : R → Option Out
  | .none => Option.none
  | .done .normal s => leafOut P fn m s
  | .done .ret s => leafOut P fn m s
  | .done (.exit _) _ => Option.none
  | .need nd r => addNd nd (r.out P fn m)
  | .ite b t e => match t.out P fn m, e.out P fn m with
    | some x, some y => mergeOut b x y
    | _, _ => Option.none

/-- What a call comes to. -/
def callF (P : Program) (tbl : List (PF P)) (lf : List (St → R)) (fn : Func) (args : List SV) (es : List Entry) : Option Out :=
  match fn.body with
  | some c => bif args.all (SV.inUb fun i => Nat.blt i es.length) && Nat.ble args.length fn.ntmps then (exec P tbl (fun k => Nat.blt k fn.ntmps) lf c (init args es)).out P fn es.length else none
  | none => none

section
variable {P : Program} {tbl : List (PF P)} {s : St} {B : Base} {ρ : Nm} {a : Act} {w : World} {fn : Func}

theorem packV_conc (ρ : Nm) (l : List V1) : (packV l).conc ρ = (if h : (l.map (V1.conc ρ)).toArray.size = 1 then (l.map (V1.conc ρ)).toArray[0] else .tuple (l.map (V1.conc ρ)).toArray) := by
  match l with
  | [] => rfl
  | [v] => rfl
  | _ :: _ :: _ => rfl

/-- One result read, as the model does it. -/
def readRes (tmps : Array Value) : ResultVar → Sem Value
  | .tmp t => pure (tmps.getD t undef)
  | .cell p T => do loadVar T (← asAddr (tmps.getD p undef))

theorem results_eq (fn : Func) (tmps : Array Value) : results fn tmps = (do
    let vs ← fn.results.mapM (readRes tmps)
    pure (if h : vs.size = 1 then vs[0] else .tuple vs)) := by
  unfold results readRes
  rfl

theorem resL_run (hM : Mdl B ρ s a w) : ∀ {l : List ResultVar} {vs : List V1}, resL P s l = some vs →
    (l.mapM (readRes a.tmps)).run P w = .ok (vs.map (V1.conc ρ)) w
  | [], vs, h => by simp [resL] at h; subst h; simp
  | .tmp t :: r, vs, h => by
    simp only [resL] at h
    split at h
    · rename_i v hv
      split at h
      · rename_i l hl
        cases h
        have hs := hM.hs _ _ hv
        simp only [SS.at, SV.conc] at hs
        have := resL_run hM hl
        simp [List.mapM_cons, readRes, hs, this]
      · cases h
    · cases h
  | .cell p T :: r, vs, h => by
    simp only [resL] at h
    split at h
    · rename_i id off hp
      split at h
      · rename_i U cs he
        split at h
        · rename_i v l hv hl
          cases h
          have hs := hM.hs _ _ hp
          simp only [SS.at, SV.conc, V1.conc, ptr_conc] at hs
          have := resL_run hM hl
          obtain ⟨b, h1, h2, _⟩ := (hM.he _ _ he).1
          have hr := run_loadC (P := P) (ρ := ρ) (base := 0) (b := b) (w := w) hv fun j u hj => by
            rw [Nat.zero_add, cell_of_block h2]; simpa using hj
          rw [Nat.zero_add] at hr
          rw [h1] at hs
          simp only [blkN] at hs
          simp [List.mapM_cons, readRes, hs, asAddr, hr, this]
        · cases h
      · cases h
    · cases h

theorem results_run (hM : Mdl B ρ s a w) {v : SV} (h : resOf P fn s = some v) : (results fn a.tmps).run P w = .ok (v.conc ρ) w := by
  unfold resOf at h
  split at h
  · rename_i l hl
    cases h
    have := resL_run hM hl
    rw [packV_conc, results_eq, Array.mapM_eq_mapM_toList]
    simp only [Sem.run_bind, Sem.run_map, this, Result.andThen_ok, Sem.run_pure]
  · cases h

/-- What of a state is handed on holds under numbers. -/
theorem relabel (hp : Hp B ρ s.ent s.used w) {L : List Nat} (hn : L.Nodup) {es : List Entry} (hes : mapO (renE s.ent L) L = some es) : HpL B.w0 B.mem es (subNm ρ L) w := by
  have hlen := (mapO_get hes).1
  have hpos : ∀ i j, (fun _ : Nat => true) i = true → posN L i = some j → subNm ρ L j = ρ i := fun i j _ h => subNm_at (posN_get h)
  have hE : ∀ id e, s.ent id = some e → s.ent id = some e := fun _ _ h => h
  have hob : ∀ j e' i e, L[j]? = some i → s.ent i = some e → e.ren (posN L) = some e' → ∀ b, b ∈ e'.ob (subNm ρ L j) → b ∈ e.ob (ρ i) := by
    intro j e' i e h1 h2 h3 b hb
    rw [subNm_at h1] at hb
    cases e with
    | box T cs => simp only [Entry.ren, Option.map_eq_some_iff] at h3; obtain ⟨cs', _, rfl⟩ := h3; exact hb
    | row own e t xs => simp only [Entry.ren, Option.some.injEq] at h3; subst h3; exact hb
    | gone => simp only [Entry.ren, Option.some.injEq] at h3; subst h3; exact hb
  refine ⟨fun j e' he' => ?_, fun j j' e e' b he he' hb hb' => ?_, hp.hf.os, hp.hf.tape, hp.hf.output, hp.hf.size, hp.hf.mem, hp.hf.dat⟩
  · obtain ⟨i, e, h1, h2, h3⟩ := renE_get hE hes he'
    have hlt : j < es.length := (List.getElem?_eq_some_iff.1 he').1
    obtain ⟨g1, g2, g3⟩ := hp.he i e h2
    have hU : ∀ i j, posN L i = some j → Nat.blt j es.length = true := fun i j h => by
      have := (List.getElem?_eq_some_iff.1 (posN_get h)).1
      simp only [Nat.blt, Nat.ble_eq]; omega
    refine ⟨?_, by simp only [Nat.blt, Nat.ble_eq]; omega, ?_⟩
    · cases e with
      | box T cs =>
        simp only [Entry.ren, Option.map_eq_some_iff] at h3
        obtain ⟨cs', hcs, rfl⟩ := h3
        obtain ⟨b, k1, k2, k3, k4⟩ := g1
        refine ⟨b, by rw [subNm_at h1]; exact k1, ?_, k3, k4⟩
        rw [mapO_map hcs fun x hx y hy => Cell.ren_conc (U := fun _ => true) hpos (by cases x <;> simp [Cell.inU]) hy]
        exact k2
      | row own e0 t xs =>
        simp only [Entry.ren, Option.some.injEq] at h3; subst h3
        cases own with
        | false => simp only [Entry.holds]; rw [subNm_at h1]; exact g1
        | true =>
          obtain ⟨cs, k1, k2, k3⟩ := g1
          simp only [Entry.holds]; rw [subNm_at h1]
          exact ⟨cs, k1, k2, k3⟩
      | gone => simp only [Entry.ren, Option.some.injEq] at h3; subst h3; trivial
    · cases e with
      | box T cs =>
        simp only [Entry.ren, Option.map_eq_some_iff] at h3
        obtain ⟨cs', hcs, rfl⟩ := h3
        exact mapO_all hcs fun x _ y hy => Cell.ren_inU hU hy
      | row own e0 t xs => simp only [Entry.ren, Option.some.injEq] at h3; subst h3; trivial
      | gone => simp only [Entry.ren, Option.some.injEq] at h3; subst h3; trivial
  · obtain ⟨i, e1, h1, h2, h3⟩ := renE_get hE hes he
    obtain ⟨i', e1', h1', h2', h3'⟩ := renE_get hE hes he'
    have := hp.hi i i' e1 e1' b h2 h2' (hob j e i e1 h1 h2 h3 b hb) (hob j' e' i' e1' h1' h2' h3' b hb')
    subst this
    exact nodup_get hn h1 h1'

/-- What holds of the one holds of the other. -/
structure OutLe (o o' : Out) : Prop where
  len : o.es.length = o'.es.length
  hp : ∀ w0 mem ρ w, HpL w0 mem (o'.es ++ o'.new) ρ w → HpL w0 mem (o.es ++ o.new) ρ w
  res : ∀ ρ, o.res.conc ρ = o'.res.conc ρ
  inU : o'.res.inU (fun i => Nat.blt i (o'.es ++ o'.new).length) → o.res.inU (fun i => Nat.blt i (o.es ++ o.new).length)

theorem mergeEs_get {b : Bool} : ∀ {x y z : List Entry}, mergeEs b x y = some z → z.length = x.length ∧ z.length = y.length ∧ ∀ (i : Nat) e, z[i]? = some e → ∃ e1 e2, x[i]? = some e1 ∧ y[i]? = some e2 ∧ guardE b e1 (some e2) = some e
  | [], [], z, h => by simp [mergeEs] at h; subst h; exact ⟨rfl, rfl, fun i e he => by simp at he⟩
  | [], _ :: _, z, h => by simp [mergeEs] at h
  | _ :: _, [], z, h => by simp [mergeEs] at h
  | p :: x, q :: y, z, h => by
    simp only [mergeEs] at h
    split at h
    · rename_i e es h1 h2
      cases h
      obtain ⟨l1, l2, g⟩ := mergeEs_get h2
      refine ⟨by simp [l1], by simp [l2], fun i e' he => ?_⟩
      cases i with
      | zero => simp at he; subst he; exact ⟨p, q, rfl, rfl, h1⟩
      | succ i => simp at he; simpa using g i e' he
    · cases h

theorem mergeEs_append {b : Bool} : ∀ {x y z x' y' z' : List Entry}, mergeEs b x y = some z → mergeEs b x' y' = some z' → mergeEs b (x ++ x') (y ++ y') = some (z ++ z')
  | [], [], z, _, _, _, h, h' => by simp [mergeEs] at h; subst h; exact h'
  | [], _ :: _, z, _, _, _, h, _ => by simp [mergeEs] at h
  | _ :: _, [], z, _, _, _, h, _ => by simp [mergeEs] at h
  | p :: x, q :: y, z, x', y', z', h, h' => by
    simp only [mergeEs] at h
    split at h
    · rename_i e es h1 h2
      cases h
      simp only [List.cons_append, mergeEs, h1, mergeEs_append h2 h']
    · cases h

theorem mergeOut_true {x y z : Out} (h : mergeOut true x y = some z) : OutLe z x := by
  unfold mergeOut at h
  split at h
  · rename_i v es nw h1 h2 h3
    cases h
    have h4 := mergeEs_append h2 h3
    obtain ⟨l1, _, g⟩ := mergeEs_get h4
    refine ⟨(mergeEs_get h2).1, fun w0 mem ρ w hp => ?_, fun ρ => by rw [mergeSV_sound ρ h1]; rfl, fun hin => by rw [l1]; exact mergeSV_inU hin h1⟩
    unfold HpL
    rw [l1]
    refine hp.swap fun id e he => ?_
    obtain ⟨e1, e2, k1, k2, k3⟩ := g id e he
    obtain ⟨q1, q2, q3⟩ := hp.he id e1 k1
    obtain ⟨r1, r2, r3⟩ := guardE_true (used := fun i => Nat.blt i (x.es ++ x.new).length) k3 q1 q3
    exact ⟨e1, k1, r1, r2, r3⟩
  · cases h

theorem mergeOut_false {x y z : Out} (h : mergeOut false x y = some z) : OutLe z y := by
  unfold mergeOut at h
  split at h
  · rename_i v es nw h1 h2 h3
    cases h
    have h4 := mergeEs_append h2 h3
    obtain ⟨_, l2, g⟩ := mergeEs_get h4
    refine ⟨(mergeEs_get h2).2.1, fun w0 mem ρ w hp => ?_, fun ρ => by rw [mergeSV_sound ρ h1]; rfl, fun hin => by rw [l2]; exact mergeSV_inU' hin h1⟩
    unfold HpL
    rw [l2]
    refine hp.swap fun id e he => ?_
    obtain ⟨e1, e2, k1, k2, k3⟩ := g id e he
    obtain ⟨q1, q2, q3⟩ := hp.he id e2 k2
    obtain ⟨r1, r2, r3⟩ := guardE_false' (used := fun i => Nat.blt i (y.es ++ y.new).length) k3 q1 q3
    exact ⟨e2, k2, r1, r2, r3⟩
  · cases h

theorem OutLe.refl (o : Out) : OutLe o o := ⟨rfl, fun _ _ _ _ h => h, fun _ => rfl, fun h => h⟩
theorem OutLe.trans {o o' o'' : Out} (h : OutLe o o') (h' : OutLe o' o'') : OutLe o o'' :=
  ⟨h.len.trans h'.len, fun w0 mem ρ w hp => h.hp w0 mem ρ w (h'.hp w0 mem ρ w hp), fun ρ => (h.res ρ).trans (h'.res ρ), fun hin => h.inU (h'.inU hin)⟩

theorem out_sat {m : Nat} : ∀ {r : R} {o : Out}, r.out P fn m = some o → (∀ b ∈ o.nd, b = true) → r.sat fun x s => (x = .normal ∨ x = .ret) ∧ ∃ o', leafOut P fn m s = some o' ∧ OutLe o o'
  | .none, _, h, _ => by cases h
  | .done .normal s, o, h, _ => ⟨.inl rfl, o, h, OutLe.refl o⟩
  | .done .ret s, o, h, _ => ⟨.inr rfl, o, h, OutLe.refl o⟩
  | .done (.exit _) _, _, h, _ => by cases h
  | .need l r, o, h, hn => by
    simp only [R.out] at h
    cases ho : r.out P fn m with
    | none => simp [ho, addNd] at h
    | some o1 =>
      simp only [ho, addNd, Option.some.injEq] at h
      subst h
      refine ⟨fun b hb => hn b (by simp [hb]), ?_⟩
      exact R.sat_mono (fun q s ⟨h1, o', h2, h3⟩ => ⟨h1, o', h2, ⟨h3.len, h3.hp, h3.res, h3.inU⟩⟩) (out_sat ho fun b hb => hn b (by simp [hb]))
  | .ite b t e, o, h, hn => by
    simp only [R.out] at h
    split at h
    · rename_i x y hx hy
      have hnd : o.nd = x.nd.map (fun n => !b || n) ++ y.nd.map (fun n => b || n) := by
        unfold mergeOut at h
        split at h
        · cases h; rfl
        · cases h
      rw [hnd] at hn
      refine ⟨fun hb => ?_, fun hb => ?_⟩
      · subst hb
        have hl : ∀ n ∈ x.nd, n = true := fun n hn' => by
          have := hn (!true || n) (by simp only [List.mem_append]; exact .inl (List.mem_map_of_mem hn'))
          simpa using this
        exact R.sat_mono (fun q s ⟨h1, o', h2, h3⟩ => ⟨h1, o', h2, (mergeOut_true h).trans h3⟩) (out_sat hx hl)
      · subst hb
        have hl : ∀ n ∈ y.nd, n = true := fun n hn' => by
          have := hn (false || n) (by simp only [List.mem_append]; exact .inr (List.mem_map_of_mem hn'))
          simpa using this
        exact R.sat_mono (fun q s ⟨h1, o', h2, h3⟩ => ⟨h1, o', h2, (mergeOut_false h).trans h3⟩) (out_sat hy hl)
    · cases h

theorem V1.ren_inU {f : Nat → Option Nat} {U : Nat → Bool} (hf : ∀ i j, f i = some j → U j = true) {v u : V1} (h : v.ren f = some u) : u.inU U := by
  simp only [V1.ren, Option.map_eq_some_iff] at h
  obtain ⟨cs, hcs, rfl⟩ := h
  exact mapO_all hcs fun x _ y hy => Cell.ren_inU hf hy

theorem SV.ren_inU {f : Nat → Option Nat} {U : Nat → Bool} (hf : ∀ i j, f i = some j → U j = true) {v u : SV} (h : v.ren f = some u) : u.inU U := by
  cases v with
  | one v =>
    simp only [SV.ren, Option.map_eq_some_iff] at h
    obtain ⟨u', hu, rfl⟩ := h
    exact V1.ren_inU hf hu
  | tup vs =>
    simp only [SV.ren, Option.map_eq_some_iff] at h
    obtain ⟨us, hu, rfl⟩ := h
    exact mapO_all hu fun x _ y hy => V1.ren_inU hf hy

theorem eqN_eq : ∀ {l r : List Nat}, eqN l r = true → l = r
  | [], [], _ => rfl
  | [], _ :: _, h => by simp [eqN] at h
  | _ :: _, [], h => by simp [eqN] at h
  | a :: l, b :: r, h => by
    simp only [eqN, Bool.and_eq_true] at h
    rw [Nat.eq_of_beq_eq_true h.1, eqN_eq h.2]

theorem idsFrom_get : ∀ {k n j : Nat}, j < k → (idsFrom n k)[j]? = some (n + j)
  | 0, _, _, h => by omega
  | k + 1, n, 0, _ => by simp [idsFrom]
  | k + 1, n, j + 1, h => by
    simp only [idsFrom, List.getElem?_cons_succ]; rw [idsFrom_get (by omega)]; congr 1; omega

theorem idsFrom_length : ∀ (k n : Nat), (idsFrom n k).length = k
  | 0, _ => rfl
  | k + 1, n => by simp [idsFrom, idsFrom_length k]

def baseB (n : Nat) (w : World) (mem : Nat → Option Obj) : Base := ⟨n, w, mem, fun _ => none, fun k => Nat.blt k n, fun _ hk => ⟨Nat.le_of_ble_eq_true hk, rfl⟩⟩

theorem Hp.rebase {B B' : Base} {ent : Nat → Option Entry} {used : Nat → Bool} (h : Hp B ρ ent used w) (h0 : B'.w0 = B.w0) (hm : B'.mem = B.mem) : Hp B' ρ ent used w := by
  refine ⟨fun id e he => ?_, h.hi, by rw [h0]; exact h.hf.os, by rw [h0]; exact h.hf.tape, by rw [h0]; exact h.hf.output, by rw [h0]; exact h.hf.size, by rw [hm]; exact h.hf.mem, h.hf.dat⟩
  obtain ⟨h1, h2, h3⟩ := h.he id e he
  refine ⟨?_, h2, h3⟩
  cases e with
  | box T cs => obtain ⟨b, k1, k2, k3, k4⟩ := h1; exact ⟨b, k1, k2, by rw [hm]; exact k3, k4⟩
  | row own e0 t xs =>
    cases own with
    | false => exact h1
    | true => obtain ⟨cs, k1, k2, k3⟩ := h1; exact ⟨cs, k1, k2, fun b hb => ⟨by rw [hm]; exact (k3 b hb).1, (k3 b hb).2⟩⟩
  | gone => trivial

theorem Mdl.init {args : List SV} {es : List Entry} {n : Nat} {mem : Nat → Option Obj} (hn : args.length ≤ n) (hin : ∀ v ∈ args, v.inU fun i => Nat.blt i es.length) (hp : HpL w mem es ρ w) :
    Mdl (baseB n w mem) ρ (SX.init args es) { tmps := (args.map (SV.conc ρ)).toArray ++ Array.replicate (n - (args.map (SV.conc ρ)).toArray.size) undef, defers := [] } w := by
  have key : ∀ k x, (SX.init args es).look k = some x → ∃ v, args[k]? = some v ∧ x = ⟨none, v⟩ := by
    intro k x hx
    simp only [SX.init] at hx
    split at hx
    · rename_i v hv; cases hx; exact ⟨v, hv, rfl⟩
    · cases hx
  refine ⟨rfl, by simp [baseB]; omega, fun k x hx => ?_, fun k x j b hx hj => ?_, fun k x hx => ?_, Hp.rebase (B := memB w mem) hp rfl rfl, fun k v hv => (by cases hv)⟩
  · obtain ⟨v, hv, rfl⟩ := key k x hx
    have hlt : k < args.length := (List.getElem?_eq_some_iff.1 hv).1
    simp only [SS.at]
    rw [Array.getElem?_append_left (by simpa using hlt)]
    simp [hv]
  · obtain ⟨v, hv, rfl⟩ := key k x hx; cases hj
  · obtain ⟨v, hv, rfl⟩ := key k x hx; exact hin v (List.mem_of_getElem? hv)

/-- **A function, by one look at what the evaluator comes to.** -/
theorem calls_of_callF {k : FuncId} (hmix : P.follows .mixedOrders = true) (hf : P.funcs[k]? = some fn) {lf : List (St → R)} (hl : ∀ c, fn.body = some c → LOk P (fun k => Nat.blt k fn.ntmps) lf c) {args : List SV} {es : List Entry} {o : Out}
    (h : callF P tbl lf fn args es = some o) (hnd : ∀ b ∈ o.nd, b = true) (mem : Nat → Option Obj) (ρ : Nm) (w : World) (hp : HpL w mem es ρ w) :
    Calls P k (args.map (SV.conc ρ)).toArray w fun e w' => ∃ ρ' : Nm, Ext (memB w mem) (fun i => Nat.blt i es.length) ρ ρ' ∧ e = .returned (o.res.conc ρ') ∧ o.es.length = es.length ∧
      o.res.inU (fun i => Nat.blt i (o.es ++ o.new).length) ∧ HpL w mem (o.es ++ o.new) ρ' w' := by
  unfold callF at h
  split at h
  · rename_i c hc
    cases hck : (args.all (SV.inUb fun i => Nat.blt i es.length) && Nat.ble args.length fn.ntmps) with
    | false => simp [hck] at h
    | true =>
      simp only [hck, cond_true] at h
      simp only [Bool.and_eq_true, List.all_eq_true] at hck
      have hM := Mdl.init (Nat.le_of_ble_eq_true hck.2) (fun v hv => SV.inUb_sound (hck.1 v hv)) hp
      refine calls_of_wp hf hc ?_
      refine wp_mono (exec_sound (B := baseB fn.ntmps w mem) hmix lf c _ _ (hl c hc) (out_sat h hnd) _ _ w hM) fun e a' w' ⟨x, s', ρ1, he, hx1, hM', hx, o', ho', hle⟩ => ?_
      unfold leafOut at ho'
      split at ho'
      · rename_i v hv
        unfold leafL at ho'
        split at ho'
        · rename_i u es' hu hes'
          generalize hLL : reach s'.ent 4 (addN (idsFrom 0 es.length) v.ids) = L at *
          cases hck2 : (noDup L && eqN (L.take es.length) (idsFrom 0 es.length)) with
          | false => simp [hck2] at ho'
          | true =>
            simp only [hck2, cond_true] at ho'
            cases ho'
            simp only [Bool.and_eq_true] at hck2
            have hpre := eqN_eq hck2.2
            have hget : ∀ i, i < es.length → L[i]? = some i := fun i hi => by
              have := idsFrom_get (n := 0) hi
              rw [← hpre, List.getElem?_take, if_pos hi, Nat.zero_add] at this
              exact this
            have hrel := relabel hM'.hp (noDup_nodup hck2.1) hes'
            have hlen : es'.length = L.length := (mapO_get hes').1
            have hLl : es.length ≤ L.length := by
              have := congrArg List.length hpre
              rw [idsFrom_length, List.length_take] at this
              omega
            have hall : HpL w mem (es'.take es.length ++ es'.drop es.length) (subNm ρ1 L) w' := by
              rw [List.take_append_drop]; exact hrel
            have hr := results_run hM' hv
            have hcv : u.conc (subNm ρ1 L) = v.conc ρ1 := SV.ren_conc (U := fun _ => true) (fun i j _ hj => subNm_at (posN_get hj)) (by
              have hc : ∀ c : Cell, c.inU fun _ => true := fun c => by cases c <;> simp [Cell.inU]
              cases v with
              | one v => exact fun c _ => hc c
              | tup vs => exact fun v _ c _ => hc c) hu
            have hinu : u.inU (fun i => Nat.blt i (es'.take es.length ++ es'.drop es.length).length) := by
              rw [List.take_append_drop]
              refine SV.ren_inU (fun i j hj => ?_) hu
              have := (List.getElem?_eq_some_iff.1 (posN_get hj)).1
              simp only [Nat.blt, Nat.ble_eq]; omega
            rw [← hcv, ← hle.res] at hr
            have hext : Ext (memB w mem) (fun i => Nat.blt i es.length) ρ (subNm ρ1 L) := by
              refine ⟨fun i hi => ?_, fun b o hb => hx1.old b o hb, fun b o hb => hx1.new b o hb⟩
              have hi' : i < es.length := Nat.le_of_ble_eq_true hi
              rw [subNm_at (hget i hi')]
              exact hx1.nm i hi
            have hfin : ∃ ρ' : Nm, Ext (memB w mem) (fun i => Nat.blt i es.length) ρ ρ' ∧ Ending.returned (o.res.conc (subNm ρ1 L)) = Ending.returned (o.res.conc ρ') ∧ o.es.length = es.length ∧
                o.res.inU (fun i => Nat.blt i (o.es ++ o.new).length) ∧ HpL w mem (o.es ++ o.new) ρ' w' :=
              ⟨subNm ρ1 L, hext, rfl, by rw [hle.len]; simp only [List.length_take]; omega, hle.inU hinu, hle.hp _ _ _ _ hall⟩
            subst he
            rcases hx with rfl | rfl <;> exact ⟨hM'.hd, _, hr, hfin⟩
        · cases ho'
      · cases ho'
  · cases h

/-- A table's row. -/
def PF.of (P : Program) (tbl : List (PF P)) (lf : List (St → R)) (hmix : P.follows .mixedOrders = true) (k : FuncId) (fn : Func) (hf : P.funcs[k]? = some fn) (hl : ∀ c, fn.body = some c → LOk P (fun k => Nat.blt k fn.ntmps) lf c)
    (F : List SV → List Entry → Option Out) (h : ∀ vs es r, F vs es = some r → callF P tbl lf fn vs es = some r) : PF P :=
  ⟨k, F, fun vs es _ hv hnd mem ρ w hp => calls_of_callF hmix hf hl (h vs es _ hv) hnd mem ρ w hp⟩

end
end Go.SX

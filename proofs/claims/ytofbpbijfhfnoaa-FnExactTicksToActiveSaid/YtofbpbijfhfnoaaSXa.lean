/- A symbolic evaluator over the model's own operations, part 10: functions. -/
import Derived.Test.YtofbpbijfhfnoaaSX9
namespace Go.SX
open Go.RowKit

/-- The state at a function's start: its arguments in the first slots. -/
def init (args : List SV) : St :=
  { look := fun k => match args[k]? with | some v => some ⟨none, v⟩ | none => none
    ent := fun _ => none, used := fun _ => false, wr := fun _ => false, next := 0, log := [], logE := [] }

def resL (P : Program) (s : St) : List ResultVar → Option (List V1)
  | [] => some []
  | .tmp t :: r => match s.look t with
    | some ⟨none, .one v⟩ => match resL P s r with
      | some l => some (v :: l)
      | none => none
    | _ => none
  | .cell a T :: r => match s.look a with
    | some ⟨none, .one ⟨false, [.ptr id off]⟩⟩ => match s.ent id with
      | some (.box _ cs) => match loadC P T off cs, resL P s r with
        | some v, some l => some (v :: l)
        | _, _ => none
      | none => none
    | _ => none

def packV : List V1 → SV
  | [v] => .one v
  | l => .tup l

def resOf (P : Program) (fn : Func) (s : St) : Option SV :=
  match resL P s fn.results.toList with
  | some l => some (packV l)
  | none => none

def withNd (nd : List Bool) : Option SV → Option (SV × List Bool)
  | some v => some (v, nd)
  | none => none

def R.out (P : Program) (fn : Func) : R → Option (SV × List Bool)
  | .none => Option.none
  | .done .normal s => withNd [] (resOf P fn s)
  | .done .ret s => withNd [] (resOf P fn s)
  | .done (.exit _) _ => Option.none
  | .need nd r => match r.out P fn with
    | some (v, l) => some (v, nd ++ l)
    | Option.none => Option.none
  | .ite b t e => match t.out P fn, e.out P fn with
    | some (x, l), some (y, l') => withNd (l.map (fun n => !b || n) ++ l'.map (fun n => b || n)) (mergeSV b x y)
    | _, _ => Option.none

def allV1 : List V1 → Option (List Value)
  | [] => some []
  | v :: r => match v.toValue?, allV1 r with
    | some x, some l => some (x :: l)
    | _, _ => none

def SV.toVal? : SV → Option Value
  | .one v => v.toValue?
  | .tup vs => match allV1 vs with
    | some l => some (.tuple l.toArray)
    | none => none

/-- What a call comes to, where no loop is met. -/
def callV (P : Program) (tbl : List (PF P)) (lf : List (St → R)) (fn : Func) (args : List Value) : Option (Value × List Bool) :=
  match fn.body with
  | some c => match (exec P tbl (fun k => Nat.blt k fn.ntmps) lf c (init (args.map SV.ofValue))).out P fn with
    | some (v, nd) => match v.toVal? with
      | some x => some (x, nd)
      | none => none
    | none => none
  | none => none

section
variable {P : Program} {tbl : List (PF P)} {s : St} {B : Base} {ρ : Nm} {a : Act} {w : World} {fn : Func}

theorem allV1_conc (ρ : Nm) : ∀ {vs : List V1} {l : List Value}, allV1 vs = some l → vs.map (V1.conc ρ) = l
  | [], l, h => by simp [allV1] at h; simp [h]
  | v :: r, l, h => by
    simp only [allV1] at h
    split at h
    · rename_i x l' hx hl
      cases h
      rw [List.map_cons, V1.toValue?_conc ρ hx, allV1_conc ρ hl]
    · cases h

theorem SV.toVal?_conc (ρ : Nm) {v : SV} {x : Value} (h : v.toVal? = some x) : v.conc ρ = x := by
  cases v with
  | one v => exact V1.toValue?_conc ρ h
  | tup vs =>
    simp only [SV.toVal?] at h
    split at h
    · rename_i l hl; cases h; simp only [SV.conc, allV1_conc ρ hl]
    · cases h

theorem packV_conc (ρ : Nm) (l : List V1) : (packV l).conc ρ = (if h : (l.map (V1.conc ρ)).toArray.size = 1 then (l.map (V1.conc ρ)).toArray[0] else .tuple (l.map (V1.conc ρ)).toArray) := by
  match l with
  | [] => rfl
  | [v] => rfl
  | _ :: _ :: _ => rfl

/-- One result read, as the model does it. -/
def readRes (tmps : Array Value) : ResultVar → Sem Value
  | .tmp t => pure (tmps.getD t undef)
  | .cell p T => do loadVar T (← asAddr (tmps.getD p undef))

theorem results_eq (fn : Func) (tmps : Array Value) : results fn tmps = (do
    let vs ← fn.results.mapM (readRes tmps)
    pure (if h : vs.size = 1 then vs[0] else .tuple vs)) := by
  unfold results readRes
  rfl

theorem resL_run (hM : Mdl B ρ s a w) : ∀ {l : List ResultVar} {vs : List V1}, resL P s l = some vs →
    (l.mapM (readRes a.tmps)).run P w = .ok (vs.map (V1.conc ρ)) w
  | [], vs, h => by simp [resL] at h; subst h; simp
  | .tmp t :: r, vs, h => by
    simp only [resL] at h
    split at h
    · rename_i v hv
      split at h
      · rename_i l hl
        cases h
        have hs := hM.hs _ _ hv
        simp only [SS.at, SV.conc] at hs
        have := resL_run hM hl
        simp [List.mapM_cons, readRes, hs, this]
      · cases h
    · cases h
  | .cell p T :: r, vs, h => by
    simp only [resL] at h
    split at h
    · rename_i id off hp
      split at h
      · rename_i U cs he
        split at h
        · rename_i v l hv hl
          cases h
          have hs := hM.hs _ _ hp
          simp only [SS.at, ptr_conc] at hs
          have := resL_run hM hl
          have hr := run_loadC (ρ := ρ) hv (hM.he _ _ he).1.1
          simp [List.mapM_cons, readRes, hs, asAddr, hr, this]
        · cases h
      · cases h
    · cases h

theorem results_run (hM : Mdl B ρ s a w) {v : SV} (h : resOf P fn s = some v) : (results fn a.tmps).run P w = .ok (v.conc ρ) w := by
  unfold resOf at h
  split at h
  · rename_i l hl
    cases h
    have := resL_run hM hl
    rw [packV_conc, results_eq, Array.mapM_eq_mapM_toList]
    simp only [Sem.run_bind, Sem.run_map, this, Result.andThen_ok, Sem.run_pure]
  · cases h

theorem withNd_some {nd l : List Bool} {x : Option SV} {v : SV} (h : withNd nd x = some (v, l)) : x = some v ∧ l = nd := by
  cases x with
  | none => cases h
  | some u => simp [withNd] at h; obtain ⟨rfl, rfl⟩ := h; exact ⟨rfl, rfl⟩

theorem out_sat {v : SV} {nd : List Bool} : ∀ {r : R}, r.out P fn = some (v, nd) → (∀ b ∈ nd, b = true) → r.sat fun x s => (x = .normal ∨ x = .ret) ∧ ∃ u, resOf P fn s = some u ∧ ∀ ρ, v.conc ρ = u.conc ρ
  | .none, h, _ => by cases h
  | .done .normal s, h, _ => ⟨.inl rfl, v, (withNd_some h).1, fun _ => rfl⟩
  | .done .ret s, h, _ => ⟨.inr rfl, v, (withNd_some h).1, fun _ => rfl⟩
  | .done (.exit _) _, h, _ => by cases h
  | .need l r, h, hn => by
    simp only [R.out] at h
    split at h
    · rename_i u l' hu
      cases h
      exact ⟨fun b hb => hn b (by simp [hb]), out_sat hu fun b hb => hn b (by simp [hb])⟩
    · cases h
  | .ite b t e, h, hn => by
    simp only [R.out] at h
    split at h
    · rename_i x l y l' hx hy
      obtain ⟨hm, rfl⟩ := withNd_some h
      refine ⟨fun hb => ?_, fun hb => ?_⟩
      · have hl : ∀ n ∈ l, n = true := fun n hn' => by
          have := hn (!b || n) (by simp only [List.mem_append]; exact .inl (List.mem_map_of_mem hn'))
          simpa [hb] using this
        refine R.sat_mono (fun q s ⟨h1, u, h2, h3⟩ => ⟨h1, u, h2, fun ρ => ?_⟩) (out_sat hx hl)
        rw [mergeSV_sound ρ hm, hb]; exact h3 ρ
      · have hl : ∀ n ∈ l', n = true := fun n hn' => by
          have := hn (b || n) (by simp only [List.mem_append]; exact .inr (List.mem_map_of_mem hn'))
          simpa [hb] using this
        refine R.sat_mono (fun q s ⟨h1, u, h2, h3⟩ => ⟨h1, u, h2, fun ρ => ?_⟩) (out_sat hy hl)
        rw [mergeSV_sound ρ hm, hb]; exact h3 ρ
    · cases h

/-- Plain values in the first slots, nothing of one's own yet: old memory must stay. -/
def base (n : Nat) (w : World) : Base := ⟨n, w, fun b => w.heap[b]?, fun _ => none, fun k => Nat.blt k n, fun _ hk => ⟨Nat.le_of_ble_eq_true hk, rfl⟩⟩

theorem Mdl.init {args : List Value} {n : Nat} (hn : args.length ≤ n) (w : World) :
    Mdl (base n w) (fun _ => 0) (init (args.map SV.ofValue)) { tmps := args.toArray ++ Array.replicate (n - args.toArray.size) undef, defers := [] } w := by
  refine ⟨rfl, by simp [base]; omega, fun k x hx => ?_, fun k x j b hx hj => ?_, fun k x hx => ?_, fun id e he => (by cases he), fun id id' e e' he => (by cases he), ⟨rfl, rfl, rfl, Nat.le_refl _, fun b o h => h⟩, fun k v hv => (by cases hv)⟩
  all_goals
    simp only [SX.init] at hx
    split at hx
    · rename_i v hv
      cases hx
      rw [List.getElem?_map] at hv
      cases hk : args[k]? with
      | none => simp [hk] at hv
      | some u =>
        simp [hk] at hv; subst hv
        first
          | (have hlt : k < args.length := (List.getElem?_eq_some_iff.1 hk).1
             simp only [SS.at, SV.conc_ofValue]
             rw [Array.getElem?_append_left (by simpa using hlt)]
             simpa using hk)
          | cases hj
          | exact SV.ofValue_inU _ _
    · cases hx

/-- **A function that holds no loop, by one look at what the evaluator comes to.** -/
theorem calls_of_callV {k : FuncId} (hmix : P.follows .mixedOrders = true) (hf : P.funcs[k]? = some fn) {lf : List (St → R)} (hl : ∀ c, fn.body = some c → LOk P (fun k => Nat.blt k fn.ntmps) lf c) {args : List Value} {v : Value} {nd : List Bool} (hn : args.length ≤ fn.ntmps) (h : callV P tbl lf fn args = some (v, nd)) (hnd : ∀ b ∈ nd, b = true) (w : World) :
    Calls P k args.toArray w fun e w' => e = .returned v ∧ Below w.heap.size w w' := by
  unfold callV at h
  split at h
  · rename_i c hc
    split at h
    · rename_i u l hu
      split at h
      case h_2 => cases h
      rename_i x hx
      cases h
      replace h := hx
      refine calls_of_wp hf hc ?_
      refine wp_mono (exec_sound (B := base fn.ntmps w) hmix lf c _ _ (hl c hc) (out_sat hu hnd) _ _ w (Mdl.init hn w)) fun e a' w' ⟨x, s', ρ', he, _, hM', hx, u', hu', hcc⟩ => ?_
      have hr := results_run hM' hu'
      rw [← hcc, SV.toVal?_conc ρ' h] at hr
      have hb : Below w.heap.size w w' := ⟨hM'.hf.os, hM'.hf.tape, hM'.hf.output, hM'.hf.size, fun b hb => by
        have := hM'.hf.mem b w.heap[b] (by simp [base, hb])
        rw [this]; simp [hb]⟩
      subst he
      rcases hx with rfl | rfl <;> exact ⟨hM'.hd, v, hr, rfl, hb⟩
    · cases h
  · cases h

/-- A table's row out of it. -/
def PF.ofV (P : Program) (tbl : List (PF P)) (hmix : P.follows .mixedOrders = true) (k : FuncId) (fn : Func) (hf : P.funcs[k]? = some fn) (F : List Value → Option (Value × List Bool))
    (h : ∀ vs r, F vs = some r → vs.length ≤ fn.ntmps ∧ callV P tbl [] fn vs = some r) : PF P :=
  ⟨k, F, fun vs _ _ hv hnd w => calls_of_callV hmix hf (fun c _ => LOk.nil c) (h vs _ hv).1 (h vs _ hv).2 hnd w⟩

/-- The same for a function with loops. -/
def PF.ofL (P : Program) (tbl : List (PF P)) (lf : List (St → R)) (hmix : P.follows .mixedOrders = true) (k : FuncId) (fn : Func) (hf : P.funcs[k]? = some fn) (hl : ∀ c, fn.body = some c → LOk P (fun k => Nat.blt k fn.ntmps) lf c) (F : List Value → Option (Value × List Bool))
    (h : ∀ vs r, F vs = some r → vs.length ≤ fn.ntmps ∧ callV P tbl lf fn vs = some r) : PF P :=
  ⟨k, F, fun vs _ _ hv hnd w => calls_of_callV hmix hf hl (h vs _ hv).1 (h vs _ hv).2 hnd w⟩

end
end Go.SX

/- slices.Replace at a slice of one's own, walked: two elements give way to none or one. -/
import Derived.Test.YtcgchjiidpbeoaaGreatDoorProg
import Derived.Shelf.RegionOpenPlain
import Derived.WalkKit
import Derived.Lib.Walk
import Derived.Lib.SliceRun
import Derived.Laws.Externs
import Derived.Laws.IdiomCopy
set_option linter.unusedSimpArgs false
set_option linter.unusedVariables false
namespace Go.SX
open Go.Proofs Go.RowKit
set_option linter.unusedVariables false
set_option linter.unusedSimpArgs false
set_option maxHeartbeats 4000000
set_option maxRecDepth 1000000

/-- Values laid over an array from a place on. -/
def layA (cur : Array Value) (o : Nat) (vs : List Value) : Array Value := (cur.toList.take o ++ vs ++ cur.toList.drop (o + vs.length)).toArray

theorem layA_size {cur : Array Value} {o : Nat} {vs : List Value} (h : o + vs.length ≤ cur.size) : (layA cur o vs).size = cur.size := by
  simp only [layA, List.size_toArray, List.length_append, List.length_take, List.length_drop, Array.length_toList]; omega

theorem layA_nil (cur : Array Value) (o : Nat) : layA cur o [] = cur := by
  apply Array.toList_inj.1; simp [layA]

theorem layA_get {cur : Array Value} {o : Nat} {vs : List Value} (h : o + vs.length ≤ cur.size) {j : Nat} (hj : o + vs.length ≤ j) : (layA cur o vs)[j]? = cur[j]? := by
  have h1 : (cur.toList.take o ++ vs).length ≤ j := by simp only [List.length_append, List.length_take, Array.length_toList]; omega
  simp only [layA, List.getElem?_toArray]
  rw [List.getElem?_append_right h1, List.getElem?_drop, ← Array.getElem?_toList]
  congr 1
  simp only [List.length_append, List.length_take, Array.length_toList]; omega

theorem layA_full {cur : Array Value} {o : Nat} {vs : List Value} (h : o + vs.length ≤ cur.size) : (layA cur o vs).toList.take (o + vs.length) = cur.toList.take o ++ vs := by
  simp only [layA]
  rw [List.take_append_of_le_length (by simp only [List.length_append, List.length_take, Array.length_toList]; omega)]
  exact List.take_of_length_le (by simp only [List.length_append, List.length_take, Array.length_toList]; omega)

theorem layA_take {cur : Array Value} {o k : Nat} {vs : List Value} (h : k ≤ o) (ho : o ≤ cur.size) : (layA cur o vs).toList.take k = cur.toList.take k := by
  simp only [layA, List.append_assoc]
  rw [List.take_append_of_le_length (by simp only [List.length_take, Array.length_toList]; omega), List.take_take, Nat.min_eq_left h]

theorem cell_of {w : World} {g : Nat} {cur : Array Value} {t : TypeId} (hg : w.heap[g]? = some (.cells cur t (0, 0))) (k : Nat) : w.cell? ⟨g, k, none⟩ = cur[k]? := by
  simp [World.cell?, hg]

/-- The cells of n values that are zero. -/
def zz (z : Value) (n : Nat) : List Value := (Builtin.zeroCells z.cells n).toList

theorem zz_length (z : Value) (n : Nat) : (zz z n).length = n * z.cells.size := by simp [zz, Builtin.zeroCells]

theorem zz_mem {z : Value} {n : Nat} (h1 : ∀ u ∈ z.cells.toList, u.oneCell' = true) : ∀ v ∈ zz z n, v.oneCell' = true := by
  intro v hv
  simp only [zz, Builtin.zeroCells, Array.toList_map, List.mem_map] at hv
  obtain ⟨i, hi, rfl⟩ := hv
  simp only [Array.toList_range, List.mem_range] at hi
  have hp : 0 < z.cells.size := by
    rcases Nat.eq_zero_or_pos z.cells.size with h | h
    · rw [h] at hi; omega
    · exact h
  have hlt := Nat.mod_lt i hp
  rw [getElem!_pos z.cells _ hlt]
  exact h1 _ (by simp)

section
variable {P : Program}

theorem run_copyZ (w : World) (dT sT ty elem : TypeId) (sz g o dLen dCap : Nat) (a : Addr) (sLen sCap : Nat) (cur : Array Value) (t : TypeId) (cs : List Value)
    (hu : P.underlying dT = some (.slice elem)) (hs : (P.info? elem).map (·.size) = some sz)
    (hg : w.heap[g]? = some (.cells cur t (0, 0))) (hn : cs.length = Nat.min sLen dLen * sz)
    (hsrc : ∀ j v, cs[j]? = some v → w.cell? (a.add j) = some v) (hfit : o + cs.length ≤ cur.size) (h1 : ∀ v ∈ cs, v.oneCell' = true) :
    (Builtin.copy_ #[dT, sT] ty #[.slice (some ⟨g, o, none⟩) dLen dCap, .slice (some a) sLen sCap]).run P w = .ok (goInt (Nat.min sLen dLen)) (w.setRow g (layA cur o cs)) := by
  have hl := run_loadCells_list (P := P) w a cs hsrc
  have hst := run_storeCells_at P g o t cs 0 cur w hg (by simpa using hfit) h1
  cases hq : P.info? elem with
  | none => simp [hq] at hs
  | some i =>
    have hi : i.size = sz := by simpa [hq] using hs
    simp [Builtin.copy_, run_underlying hu, Builtin.lenOf, Builtin.firstCells, sizeOf, typeInfo, hq, hi, ← hn, hl, hst, layA]

/-- Nothing is copied out of an empty slice. -/
theorem run_copyE (w : World) (dT sT ty elem : TypeId) (d sa : Option Addr) (dLen dCap sCap : Nat) (hu : P.underlying dT = some (.slice elem)) (hs : ((P.info? elem).map (·.size)).isSome = true) :
    (Builtin.copy_ #[dT, sT] ty #[.slice d dLen dCap, .slice sa 0 sCap]).run P w = .ok (goInt 0) w := by
  have hl : ∀ (x : Addr), (loadCells x 0).run P w = .ok #[] w := fun x => by simpa using run_loadCells_list (P := P) w x [] (by simp)
  cases hq : P.info? elem with
  | none => simp [hq] at hs
  | some i => cases d <;> cases sa <;> simp [Builtin.copy_, run_underlying hu, Builtin.lenOf, Builtin.firstCells, sizeOf, typeInfo, hq, storeCells, hl]

theorem run_clearZ (w : World) (t e ty T : TypeId) (z : Value) (ht : P.underlying t = some (.slice e)) (hv : ∀ w, (zeroValue e).run P w = .ok z w) (h1 : ∀ u ∈ z.cells.toList, u.oneCell' = true) (g o n c : Nat) (hn : 0 < n) (cur : Array Value)
    (hg : w.heap[g]? = some (.cells cur T (0, 0))) (hfit : o + n * z.cells.size ≤ cur.size) :
    (Builtin.clear_ #[t] ty #[.slice (some ⟨g, o, none⟩) n c]).run P w = .ok (.tuple #[]) (w.setRow g (layA cur o (zz z n))) := by
  have hst := run_storeCells_at P g o T (zz z n) 0 cur w hg (by rw [zz_length]; simpa using hfit) (zz_mem h1)
  obtain ⟨m, rfl⟩ : ∃ m, n = m + 1 := ⟨n - 1, by omega⟩
  have hst2 : (storeCells ⟨g, o, none⟩ (Builtin.zeroCells z.cells (m + 1)).toList).run P w = .ok () (w.setRow g (layA cur o (zz z (m + 1)))) := by rw [layA]; simpa [zz] using hst
  simp only [Builtin.clear_]
  simp [run_underlying ht, hv, hst2]

/-- append where there is room. -/
theorem run_appendZ (w : World) (t ty elem T : TypeId) (sz g o n cap : Nat) (a : Addr) (m c : Nat) (cur : Array Value) (cs : List Value)
    (hu : P.underlying t = some (.slice elem)) (hs : (P.info? elem).map (·.size) = some sz)
    (hg : w.heap[g]? = some (.cells cur T (0, 0))) (hn : cs.length = m * sz) (hcap : n + m ≤ cap)
    (hsrc : ∀ j v, cs[j]? = some v → w.cell? (a.add j) = some v) (hfit : o + n * sz + cs.length ≤ cur.size) (h1 : ∀ v ∈ cs, v.oneCell' = true) :
    (Builtin.append_ #[t, t] ty #[.slice (some ⟨g, o, none⟩) n cap, .slice (some a) m c]).run P w = .ok (.slice (some ⟨g, o, none⟩) (n + m) cap) (w.setRow g (layA cur (o + n * sz) cs)) := by
  have hl := run_loadCells_list (P := P) w a cs hsrc
  have hst := run_storeCells_at P g (o + n * sz) T cs 0 cur w hg (by simpa using hfit) h1
  have ha : (⟨g, o, none⟩ : Addr).add (n * sz) = ⟨g, o + n * sz, none⟩ := Addr.add_lit ..
  cases hq : P.info? elem with
  | none => simp [hq] at hs
  | some i =>
    have hi : i.size = sz := by simpa [hq] using hs
    simp only [Nat.add_zero] at hst
    simp [Builtin.append_, run_underlying hu, Builtin.lenOf, Builtin.firstCells, sizeOf, typeInfo, hq, hi, ← hn, hl, hst, layA, hcap, ha]

/-- append of an empty slice. -/
theorem run_appendE (w : World) (t ty elem : TypeId) (g o n cap : Nat) (sa : Option Addr) (c : Nat)
    (hu : P.underlying t = some (.slice elem)) (hs : ((P.info? elem).map (·.size)).isSome = true) (hcap : n ≤ cap) :
    (Builtin.append_ #[t, t] ty #[.slice (some ⟨g, o, none⟩) n cap, .slice sa 0 c]).run P w = .ok (.slice (some ⟨g, o, none⟩) n cap) w := by
  have hl : ∀ (x : Addr), (loadCells x 0).run P w = .ok #[] w := fun x => by simpa using run_loadCells_list (P := P) w x [] (by simp)
  cases hq : P.info? elem with
  | none => simp [hq] at hs
  | some i => cases sa <;> simp [Builtin.append_, run_underlying hu, Builtin.lenOf, Builtin.firstCells, sizeOf, typeInfo, hq, hl, hcap, storeCells]

theorem wp_cp_run (w : World) {o : Oper} {a : Act} {K : Act → World → Prop} {Q : Exit → Act → World → Prop} (d s : Operand) (t t' : TypeId)
    (ho : o.op = .call { callee := .builtin .copy, args := #[d, s], argTypes := #[t, t'] }) (v u : Value) (hd : a.eval d = v) (hs : a.eval s = u) {v' : Value} {w' : World}
    (hr : (Builtin.copy_ #[t, t'] o.type #[v, u]).run P w = .ok v' w') (h : K (a.put o.dst v') w') : o.wp P a w K Q := by
  unfold Oper.wp execOp
  simp only [ho, resolve, invoke, builtin, Sem.run_bind, Sem.run_pure, Result.andThen_ok, List.map_toArray, List.map_cons, List.map_nil, hd, hs, hr]
  exact h

theorem wpList_cp_run (w : World) {ops : Array Oper} {rest : List Oper} {o : Oper} {a : Act} {Q : Exit → Act → World → Prop} (hgd : o.guard = none) (d s : Operand) (t t' : TypeId)
    (ho : o.op = .call { callee := .builtin .copy, args := #[d, s], argTypes := #[t, t'] }) (v u : Value) (hd : a.eval d = v) (hs : a.eval s = u) {v' : Value} {w' : World}
    (hr : (Builtin.copy_ #[t, t'] o.type #[v, u]).run P w = .ok v' w') (h : wpList P ops Q rest (a.put o.dst v') w') : wpList P ops Q (o :: rest) a w :=
  wpList_plain hgd fun _ hK => wp_cp_run w d s t t' ho v u hd hs hr (hK _ _ h)

theorem step_cp_run {ops : Array Oper} {o : Oper} {a : Act} {w : World} {K : Act → World → Prop} {Q : Exit → Act → World → Prop} {E : Prop}
    (hg : o.guard = none) (d x : Operand) (dT sT : TypeId) (hop : o.op = Op.call { callee := Callee.builtin Builtin.copy, args := #[d, x], argTypes := #[dT, sT] })
    (v u : Value) (hd : a.eval d = v) (hx : a.eval x = u) {v' : Value} {w' : World} (hr : (Builtin.copy_ #[dT, sT] o.type #[v, u]).run P w = .ok v' w') (hK : K (a.put o.dst v') w') :
    if Region.wanted o (yielded ops a.tmps) = true then Oper.wp P o a w K Q else E := by
  have hw : Region.wanted o (yielded ops a.tmps) = true := by simp [Region.wanted, hg]
  rw [if_pos hw]
  unfold Oper.wp
  simp [execOp, hop, resolve, invoke, builtin, hd, hx, hr, Result.andThen]
  exact hK

theorem wp_app_run (w : World) {o : Oper} {a : Act} {K : Act → World → Prop} {Q : Exit → Act → World → Prop} (d s : Operand) (t t' : TypeId)
    (ho : o.op = .call { callee := .builtin .append, args := #[d, s], argTypes := #[t, t'] }) (v u : Value) (hd : a.eval d = v) (hs : a.eval s = u) {v' : Value} {w' : World}
    (hr : (Builtin.append_ #[t, t'] o.type #[v, u]).run P w = .ok v' w') (h : K (a.put o.dst v') w') : o.wp P a w K Q := by
  unfold Oper.wp execOp
  simp only [ho, resolve, invoke, builtin, Sem.run_bind, Sem.run_pure, Result.andThen_ok, List.map_toArray, List.map_cons, List.map_nil, hd, hs, hr]
  exact h

theorem wpList_app_run (w : World) {ops : Array Oper} {rest : List Oper} {o : Oper} {a : Act} {Q : Exit → Act → World → Prop} (hgd : o.guard = none) (d s : Operand) (t t' : TypeId)
    (ho : o.op = .call { callee := .builtin .append, args := #[d, s], argTypes := #[t, t'] }) (v u : Value) (hd : a.eval d = v) (hs : a.eval s = u) {v' : Value} {w' : World}
    (hr : (Builtin.append_ #[t, t'] o.type #[v, u]).run P w = .ok v' w') (h : wpList P ops Q rest (a.put o.dst v') w') : wpList P ops Q (o :: rest) a w :=
  wpList_plain hgd fun _ hK => wp_app_run w d s t t' ho v u hd hs hr (hK _ _ h)

theorem step_app_run {ops : Array Oper} {o : Oper} {a : Act} {w : World} {K : Act → World → Prop} {Q : Exit → Act → World → Prop} {E : Prop}
    (hg : o.guard = none) (d x : Operand) (dT sT : TypeId) (hop : o.op = Op.call { callee := Callee.builtin Builtin.append, args := #[d, x], argTypes := #[dT, sT] })
    (v u : Value) (hd : a.eval d = v) (hx : a.eval x = u) {v' : Value} {w' : World} (hr : (Builtin.append_ #[dT, sT] o.type #[v, u]).run P w = .ok v' w') (hK : K (a.put o.dst v') w') :
    if Region.wanted o (yielded ops a.tmps) = true then Oper.wp P o a w K Q else E := by
  have hw : Region.wanted o (yielded ops a.tmps) = true := by simp [Region.wanted, hg]
  rw [if_pos hw]
  unfold Oper.wp
  simp [execOp, hop, resolve, invoke, builtin, hd, hx, hr, Result.andThen]
  exact hK

end

abbrev zI : Value := .agg #[.int .i64 0, .int .i64 0]

theorem rp_end_nil (w : World) (g n cap i vc : Nat) (sa : Option Addr) (cur : Array Value) (hg : w.heap[g]? = some (.cells cur 60 (0, 0))) (hn : n ≤ cap) (hc : cap ≤ 9223372036854775807) (hs : cur.size = cap * 2) (hi : i + 2 = n) :
    Calls Tryz.prog 66 #[.slice (some ⟨g, 0, none⟩) n cap, .int .i64 i, .int .i64 ((i + 2 : Nat) : Int), .slice sa 0 vc] w fun e w' => e = .returned (.slice (some ⟨g, 0, none⟩) i cap) ∧ w' = w.setRow g (layA cur (i * 2) (zz zI 2)) := by
  have u37 : Tryz.prog.underlying 37 = some (.slice 60) := by kernel_rfl
  have s60 : (Tryz.prog.info? 60).map (·.size) = some 2 := by kernel_rfl
  have z60 : ∀ w : World, (zeroValue 60).run Tryz.prog w = .ok zI w := fun w => by kernel_rfl
  have hap : ∀ ty, (Builtin.append_ #[37, 37] ty #[.slice (some ⟨g, 0, none⟩) i cap, .slice sa 0 vc]).run Tryz.prog w = .ok (.slice (some ⟨g, 0, none⟩) i cap) w := fun ty => run_appendE w 37 ty 60 g 0 i cap sa vc u37 (by rw [s60]; rfl) (by omega)
  have hcl : ∀ ty c, (Builtin.clear_ #[37] ty #[.slice (some ⟨g, i * 2, none⟩) 2 c]).run Tryz.prog w = .ok (.tuple #[]) (w.setRow g (layA cur (i * 2) (zz zI 2))) := fun ty c => by
    exact run_clearZ (P := Tryz.prog) w 37 60 ty 60 zI u37 z60 (by intro u hu; simp [Value.cells] at hu; rcases hu with rfl | rfl <;> rfl) g (i * 2) 2 c (by omega) cur hg (by simp [Value.cells]; omega)
  subst hi
  have h1 : i ≤ cap := by omega
  have h2 : ¬ (cap = i) := by omega
  have h3 : ¬ (cap - i = 0) := by omega
  go_enter Tryz.func66, Tryz.ntmps66
  go_wp2_with (at_builtin; refine wpList_app_run _ rfl _ _ 37 37 rfl _ _ rfl rfl (hap _) ?_)
  all_goals first | (go_ret; exact ⟨rfl, rfl⟩) | (exfalso; omega)

theorem rp_end_one (w : World) (g n cap i vc : Nat) (sa : Addr) (cur : Array Value) (vs : List Value) (hg : w.heap[g]? = some (.cells cur 60 (0, 0))) (hn : n ≤ cap) (hc : cap ≤ 9223372036854775807) (hs : cur.size = cap * 2) (hi : i + 2 = n)
    (hl : vs.length = 1 * 2) (hsrc : ∀ j v, vs[j]? = some v → w.cell? (sa.add j) = some v) (hone : ∀ v ∈ vs, v.oneCell' = true) :
    Calls Tryz.prog 66 #[.slice (some ⟨g, 0, none⟩) n cap, .int .i64 i, .int .i64 ((i + 2 : Nat) : Int), .slice (some sa) 1 vc] w fun e w' => e = .returned (.slice (some ⟨g, 0, none⟩) (i + 1) cap) ∧ w' = w.setRow g (layA (layA cur (i * 2) vs) ((i + 1) * 2) (zz zI 1)) := by
  have u37 : Tryz.prog.underlying 37 = some (.slice 60) := by kernel_rfl
  have s60 : (Tryz.prog.info? 60).map (·.size) = some 2 := by kernel_rfl
  have z60 : ∀ w : World, (zeroValue 60).run Tryz.prog w = .ok zI w := fun w => by kernel_rfl
  obtain ⟨W, hW⟩ : ∃ W, W = w.setRow g (layA cur (i * 2) vs) := ⟨_, rfl⟩
  have hgW : W.heap[g]? = some (.cells (layA cur (i * 2) vs) 60 (0, 0)) := by rw [hW]; exact setRow_heap w g cur _ 60 _ hg
  have hap : ∀ ty, (Builtin.append_ #[37, 37] ty #[.slice (some ⟨g, 0, none⟩) i cap, .slice (some sa) 1 vc]).run Tryz.prog w = .ok (.slice (some ⟨g, 0, none⟩) (i + 1) cap) W := fun ty => by
    have := run_appendZ (P := Tryz.prog) w 37 ty 60 60 2 g 0 i cap sa 1 vc cur vs u37 s60 hg hl (by omega) hsrc (by omega) hone
    rw [Nat.zero_add] at this
    rw [hW]; exact this
  have hcl : ∀ ty c, (Builtin.clear_ #[37] ty #[.slice (some ⟨g, (i + 1) * 2, none⟩) 1 c]).run Tryz.prog W = .ok (.tuple #[]) (W.setRow g (layA (layA cur (i * 2) vs) ((i + 1) * 2) (zz zI 1))) := fun ty c =>
    run_clearZ (P := Tryz.prog) W 37 60 ty 60 zI u37 z60 (by intro u hu; simp [Value.cells] at hu; rcases hu with rfl | rfl <;> rfl) g ((i + 1) * 2) 1 c (by omega) _ hgW (by rw [layA_size (by omega)]; simp [Value.cells]; omega)
  have hfin : W.setRow g (layA (layA cur (i * 2) vs) ((i + 1) * 2) (zz zI 1)) = w.setRow g (layA (layA cur (i * 2) vs) ((i + 1) * 2) (zz zI 1)) := by rw [hW, setRow_setRow]
  subst hi
  clear hg hgW hsrc hW
  have h1 : i ≤ cap := by omega
  have h2 : ¬ (cap = i) := by omega
  have h3 : ¬ (cap - i = 0) := by omega
  have h4 : i + 1 ≤ cap := by omega
  have h5 : ¬ (cap = i + 1) := by omega
  go_enter Tryz.func66, Tryz.ntmps66
  go_wp2_with (at_builtin; refine wpList_app_run _ rfl _ _ 37 37 rfl _ _ rfl rfl (hap _) ?_)
  all_goals first | (go_ret; first | exact ⟨rfl, rfl⟩ | exact ⟨rfl, hfin⟩) | (exfalso; omega)

theorem rp_mid_nil (w : World) (g n cap i vc : Nat) (sa : Option Addr) (cur : Array Value) (D : List Value) (hg : w.heap[g]? = some (.cells cur 60 (0, 0))) (hn : n ≤ cap) (hc : cap ≤ 9223372036854775807) (hs : cur.size = cap * 2) (hi : i + 2 < n)
    (hl : D.length = (n - (i + 2)) * 2) (hD : ∀ j v, D[j]? = some v → cur[(i + 2) * 2 + j]? = some v) (hone : ∀ v ∈ D, v.oneCell' = true) :
    Calls Tryz.prog 66 #[.slice (some ⟨g, 0, none⟩) n cap, .int .i64 i, .int .i64 ((i + 2 : Nat) : Int), .slice sa 0 vc] w fun e w' => e = .returned (.slice (some ⟨g, 0, none⟩) (n - 2) cap) ∧ w' = w.drew.drew.setRow g (layA (layA cur (i * 2) D) ((n - 2) * 2) (zz zI 2)) := by
  have u37 : Tryz.prog.underlying 37 = some (.slice 60) := by kernel_rfl
  have s60 : (Tryz.prog.info? 60).map (·.size) = some 2 := by kernel_rfl
  have z60 : ∀ w : World, (zeroValue 60).run Tryz.prog w = .ok zI w := fun w => by kernel_rfl
  have mixed : Tryz.prog.follows Departure.mixedOrders = true := by kernel_rfl
  obtain ⟨k, rfl⟩ : ∃ k, n = i + 2 + (k + 1) := ⟨n - (i + 3), by omega⟩
  have e1 : i + 2 + (k + 1) - (i + 2) = k + 1 := by omega
  have e2 : i + 2 + (k + 1) - 2 = i + (k + 1) := by omega
  rw [e1] at hl
  rw [e2]
  have hcp1 : ∀ ty l c, (Builtin.copy_ #[37, 37] ty #[.slice (some ⟨g, i * 2, none⟩) l c, .slice sa 0 vc]).run Tryz.prog w.drew = .ok (goInt 0) w.drew := fun ty l c =>
    run_copyE w.drew 37 37 ty 60 _ sa l c vc u37 (by rw [s60]; rfl)
  obtain ⟨W, hW⟩ : ∃ W, W = w.drew.drew.setRow g (layA cur (i * 2) D) := ⟨_, rfl⟩
  have hgd : w.drew.drew.heap[g]? = some (.cells cur 60 (0, 0)) := hg
  have hgW : W.heap[g]? = some (.cells (layA cur (i * 2) D) 60 (0, 0)) := by rw [hW]; exact setRow_heap _ g cur _ 60 _ hgd
  have hcp2 : ∀ ty l1 l2 c1 c2, Nat.min l2 l1 = k + 1 → (Builtin.copy_ #[37, 37] ty #[.slice (some ⟨g, i * 2, none⟩) l1 c1, .slice (some ⟨g, (i + 2) * 2, none⟩) l2 c2]).run Tryz.prog w.drew.drew = .ok (goInt (Nat.min l2 l1)) W := fun ty l1 l2 c1 c2 hm => by
    have := run_copyZ (P := Tryz.prog) w.drew.drew 37 37 ty 60 2 g (i * 2) l1 c1 ⟨g, (i + 2) * 2, none⟩ l2 c2 cur 60 D u37 s60 hgd (by rw [hm]; exact hl) (fun j v hj => by rw [Addr.add_lit, cell_of hgd]; exact hD j v hj) (by omega) hone
    rw [hW]; exact this
  have hcl : ∀ ty c, (Builtin.clear_ #[37] ty #[.slice (some ⟨g, (i + (k + 1)) * 2, none⟩) (i + 2 + (k + 1) - (i + (k + 1))) c]).run Tryz.prog W = .ok (.tuple #[]) (W.setRow g (layA (layA cur (i * 2) D) ((i + (k + 1)) * 2) (zz zI 2))) := fun ty c => by
    rw [show i + 2 + (k + 1) - (i + (k + 1)) = 2 by omega]
    exact run_clearZ (P := Tryz.prog) W 37 60 ty 60 zI u37 z60 (by intro u hu; simp [Value.cells] at hu; rcases hu with rfl | rfl <;> rfl) g ((i + (k + 1)) * 2) 2 c (by omega) _ hgW (by rw [layA_size (by omega)]; simp [Value.cells]; omega)
  have hfin : W.setRow g (layA (layA cur (i * 2) D) ((i + (k + 1)) * 2) (zz zI 2)) = w.drew.drew.setRow g (layA (layA cur (i * 2) D) ((i + (k + 1)) * 2) (zz zI 2)) := by rw [hW, setRow_setRow]
  clear hg hgd hgW hW hD e1 e2
  have h1 : i ≤ cap := by omega
  have h2 : ¬ (cap = i) := by omega
  have h3 : ¬ (cap - i = 0) := by omega
  have h4 : i + 2 ≤ cap := by omega
  have h5 : ¬ (cap = i + 2) := by omega
  have h6 : ¬ (cap = i + (k + 1)) := by omega
  have b1 : (0 : Int) ≤ (i : Int) + 2 := by omega
  have b2 : (i : Int) + 2 ≤ (i : Int) + 2 + ((k : Int) + 1) := by omega
  have b3 : ((i : Int) + 2).toNat = i + 2 := by omega
  have b4 : IntKind.i64.wrap (i : Int) = (i : Int) := by rw [IntKind.wrap_i64]; omega
  have b5 : (0 : Int) ≤ (i : Int) := by omega
  have b6 : (i : Int) ≤ (i : Int) + ((k : Int) + 1) := by omega
  go_enter Tryz.func66, Tryz.ntmps66
  go_wp2
  all_goals try (exfalso; omega)
  go_region_o
  go_wp2_with (at_builtin; refine wpList_cp_run _ rfl _ _ 37 37 rfl _ _ rfl rfl (hcp1 _ _ _) ?_)
  all_goals try (exfalso; omega)
  go_region_law_o (refine step_cp_run rfl _ _ 37 37 rfl _ _ (by simp [Act.eval, Act.put]) (by simp [Act.eval, Act.put]) (hcp2 _ _ _ _ _ (by simp only [Nat.min_def]; split <;> omega)) ?_)
  go_wp2
  all_goals first | (go_ret; first | exact ⟨rfl, rfl⟩ | exact ⟨rfl, hfin⟩) | (exfalso; omega)
theorem rp_mid_one (w : World) (g n cap i vc : Nat) (sa : Addr) (cur : Array Value) (vs D : List Value) (hg : w.heap[g]? = some (.cells cur 60 (0, 0))) (hn : n ≤ cap) (hc : cap ≤ 9223372036854775807) (hs : cur.size = cap * 2) (hi : i + 2 < n)
    (hlv : vs.length = 1 * 2) (hsrc : ∀ j v, vs[j]? = some v → w.cell? (sa.add j) = some v) (honev : ∀ v ∈ vs, v.oneCell' = true)
    (hl : D.length = (n - (i + 2)) * 2) (hD : ∀ j v, D[j]? = some v → cur[(i + 2) * 2 + j]? = some v) (hone : ∀ v ∈ D, v.oneCell' = true) :
    Calls Tryz.prog 66 #[.slice (some ⟨g, 0, none⟩) n cap, .int .i64 i, .int .i64 ((i + 2 : Nat) : Int), .slice (some sa) 1 vc] w fun e w' => e = .returned (.slice (some ⟨g, 0, none⟩) (n - 1) cap) ∧ w' = w.drew.drew.setRow g (layA (layA (layA cur (i * 2) vs) ((i + 1) * 2) D) ((n - 1) * 2) (zz zI 1)) := by
  have u37 : Tryz.prog.underlying 37 = some (.slice 60) := by kernel_rfl
  have s60 : (Tryz.prog.info? 60).map (·.size) = some 2 := by kernel_rfl
  have z60 : ∀ w : World, (zeroValue 60).run Tryz.prog w = .ok zI w := fun w => by kernel_rfl
  have mixed : Tryz.prog.follows Departure.mixedOrders = true := by kernel_rfl
  obtain ⟨k, rfl⟩ : ∃ k, n = i + 2 + (k + 1) := ⟨n - (i + 3), by omega⟩
  have e1 : i + 2 + (k + 1) - (i + 2) = k + 1 := by omega
  have e2 : i + 2 + (k + 1) - 1 = i + 1 + (k + 1) := by omega
  rw [e1] at hl
  rw [e2]
  obtain ⟨W0, hW0⟩ : ∃ W0, W0 = w.drew.setRow g (layA cur (i * 2) vs) := ⟨_, rfl⟩
  have hg1 : w.drew.heap[g]? = some (.cells cur 60 (0, 0)) := hg
  have hg2 : W0.heap[g]? = some (.cells (layA cur (i * 2) vs) 60 (0, 0)) := by rw [hW0]; exact setRow_heap _ g cur _ 60 _ hg1
  have hg3 : W0.drew.heap[g]? = some (.cells (layA cur (i * 2) vs) 60 (0, 0)) := hg2
  have hz1 : (layA cur (i * 2) vs).size = cap * 2 := by rw [layA_size (by omega)]; exact hs
  have hcp1 : ∀ ty c, (Builtin.copy_ #[37, 37] ty #[.slice (some ⟨g, i * 2, none⟩) (i + 1 + (k + 1) - i) c, .slice (some sa) 1 vc]).run Tryz.prog w.drew = .ok (goInt 1) W0 := fun ty c => by
    have := run_copyZ (P := Tryz.prog) w.drew 37 37 ty 60 2 g (i * 2) (i + 1 + (k + 1) - i) c sa 1 vc cur 60 vs u37 s60 hg1 (by rw [hlv]; simp only [Nat.min_def]; split <;> omega) hsrc (by omega) honev
    rw [show Nat.min 1 (i + 1 + (k + 1) - i) = 1 by simp only [Nat.min_def]; split <;> omega] at this
    rw [hW0]; exact this
  obtain ⟨W, hW⟩ : ∃ W, W = W0.drew.setRow g (layA (layA cur (i * 2) vs) ((i + 1) * 2) D) := ⟨_, rfl⟩
  have hgW : W.heap[g]? = some (.cells (layA (layA cur (i * 2) vs) ((i + 1) * 2) D) 60 (0, 0)) := by rw [hW]; exact setRow_heap _ g _ _ 60 _ hg3
  have hz2 : (layA (layA cur (i * 2) vs) ((i + 1) * 2) D).size = cap * 2 := by rw [layA_size (by omega)]; exact hz1
  have hcp2 : ∀ ty l1 l2 c1 c2, Nat.min l2 l1 = k + 1 → (Builtin.copy_ #[37, 37] ty #[.slice (some ⟨g, (i + 1) * 2, none⟩) l1 c1, .slice (some ⟨g, (i + 2) * 2, none⟩) l2 c2]).run Tryz.prog W0.drew = .ok (goInt (Nat.min l2 l1)) W := fun ty l1 l2 c1 c2 hm => by
    have := run_copyZ (P := Tryz.prog) W0.drew 37 37 ty 60 2 g ((i + 1) * 2) l1 c1 ⟨g, (i + 2) * 2, none⟩ l2 c2 _ 60 D u37 s60 hg3 (by rw [hm]; exact hl) (fun j v hj => by rw [Addr.add_lit, cell_of hg3, layA_get (by omega) (by omega)]; exact hD j v hj) (by omega) hone
    rw [hW]; exact this
  have hcl : ∀ ty c, (Builtin.clear_ #[37] ty #[.slice (some ⟨g, (i + 1 + (k + 1)) * 2, none⟩) (i + 2 + (k + 1) - (i + 1 + (k + 1))) c]).run Tryz.prog W = .ok (.tuple #[]) (W.setRow g (layA (layA (layA cur (i * 2) vs) ((i + 1) * 2) D) ((i + 1 + (k + 1)) * 2) (zz zI 1))) := fun ty c => by
    rw [show i + 2 + (k + 1) - (i + 1 + (k + 1)) = 1 by omega]
    exact run_clearZ (P := Tryz.prog) W 37 60 ty 60 zI u37 z60 (by intro u hu; simp [Value.cells] at hu; rcases hu with rfl | rfl <;> rfl) g ((i + 1 + (k + 1)) * 2) 1 c (by omega) _ hgW (by rw [hz2]; simp [Value.cells]; omega)
  have hdr : ∀ X, (w.drew.setRow g X).drew = w.drew.drew.setRow g X := fun _ => rfl
  have hfin : W.setRow g (layA (layA (layA cur (i * 2) vs) ((i + 1) * 2) D) ((i + 1 + (k + 1)) * 2) (zz zI 1)) = w.drew.drew.setRow g (layA (layA (layA cur (i * 2) vs) ((i + 1) * 2) D) ((i + 1 + (k + 1)) * 2) (zz zI 1)) := by rw [hW, setRow_setRow, hW0, hdr, setRow_setRow]
  clear hdr hg1 hg2 hg3 hW0 hz1 hz2 hsrc
  clear hg hgW hW hD e1 e2
  have h1 : i ≤ cap := by omega
  have h2 : ¬ (cap = i) := by omega
  have h3 : ¬ (cap - i = 0) := by omega
  have h4 : i + 2 ≤ cap := by omega
  have h5 : ¬ (cap = i + 2) := by omega
  have h6 : ¬ (cap = i + 1 + (k + 1)) := by omega
  have b1 : (0 : Int) ≤ (i : Int) + 2 := by omega
  have b2 : (i : Int) + 2 ≤ (i : Int) + 2 + ((k : Int) + 1) := by omega
  have b3 : ((i : Int) + 2).toNat = i + 2 := by omega
  have b7 : IntKind.i64.wrap ((i : Int) + 1) = (i : Int) + 1 := by rw [IntKind.wrap_i64]; omega
  have b8 : (0 : Int) ≤ (i : Int) + 1 := by omega
  have b9 : (i : Int) + 1 ≤ (i : Int) + 1 + ((k : Int) + 1) := by omega
  have b10 : ((i : Int) + 1).toNat = i + 1 := by omega
  have h7 : ¬ (cap = i + 1) := by omega
  have b4 : IntKind.i64.wrap (i : Int) = (i : Int) := by rw [IntKind.wrap_i64]; omega
  have b5 : (0 : Int) ≤ (i : Int) := by omega
  have b6 : (i : Int) ≤ (i : Int) + 1 + ((k : Int) + 1) := by omega
  go_enter Tryz.func66, Tryz.ntmps66
  go_wp2
  all_goals try (exfalso; omega)
  go_region_o
  go_wp2
  all_goals try (exfalso; omega)
  go_region_law_o (refine step_cp_run rfl _ _ 37 37 rfl _ _ (by simp [Act.eval, Act.put]) (by simp [Act.eval, Act.put]) (hcp2 _ _ _ _ _ (by simp only [Nat.min_def]; split <;> omega)) ?_)
  go_wp2
  all_goals first | (go_ret; first | exact ⟨rfl, rfl⟩ | exact ⟨rfl, hfin⟩) | (exfalso; omega)

end Go.SX

/- A symbolic evaluator over the model's own operations, part 9n: the loop rule, whole. -/
import Derived.Test.YtjncnnpdaeociaaTX9m
namespace Go.SX
open Go.RowKit

section
variable {P : Program} {tbl : List (PF P)} {s s' t : St} {W : Nat → Bool} {lf : List (St → R)} {B : Base} {ρ : Nm} {a : Act} {w : World} {post post' : Ex → St → Prop} {σ : Nat → Option Nat}

theorem mapO_some {α β : Type} {f : α → Option β} : ∀ {l : List α}, (∀ x ∈ l, ∃ y, f x = some y) → ∃ r, mapO f l = some r
  | [], _ => ⟨[], rfl⟩
  | a :: l, h => by
    obtain ⟨y, hy⟩ := h a (by simp)
    obtain ⟨r, hr⟩ := mapO_some (l := l) fun x hx => h x (by simp [hx])
    exact ⟨y :: r, by simp [mapO, hy, hr]⟩

theorem Cell.ren_some {f : Nat → Option Nat} {c : Cell} (h : ∀ i ∈ c.ids, ∃ j, f i = some j) : ∃ c', c.ren f = some c' := by
  cases c with
  | val v => exact ⟨_, rfl⟩
  | ptr id off => obtain ⟨j, hj⟩ := h id (by simp [Cell.ids]); exact ⟨_, by simp [Cell.ren, hj]; rfl⟩
  | ref id => obtain ⟨j, hj⟩ := h id (by simp [Cell.ids]); exact ⟨_, by simp [Cell.ren, hj]; rfl⟩
  | el id z i off => obtain ⟨j, hj⟩ := h id (by simp [Cell.ids]); exact ⟨_, by simp [Cell.ren, hj]; rfl⟩
  | clo k caps => obtain ⟨js, hj⟩ := mapO_some (f := f) (l := caps) h; exact ⟨_, by simp [Cell.ren, hj]; rfl⟩

theorem Entry.ren_some {f : Nat → Option Nat} {e : Entry} {U : Nat → Bool} (hU : e.inU U) (h : ∀ i, U i = true → ∃ j, f i = some j) : ∃ e', e.ren f = some e' := by
  cases e with
  | box T cs =>
    obtain ⟨r, hr⟩ := mapO_some (f := Cell.ren f) (l := cs) fun c hc => Cell.ren_some fun i hi => h i (SX.ids_inU (hU c hc) i hi)
    exact ⟨_, by simp [Entry.ren, hr]; rfl⟩
  | row own e t xs => exact ⟨_, rfl⟩
  | gone => exact ⟨_, rfl⟩

theorem Cell.ren_inU' {f : Nat → Option Nat} {U U' : Nat → Bool} (hf : ∀ i j, U i = true → f i = some j → U' j = true) {c c' : Cell} (hc : c.inU U) (h : c.ren f = some c') : c'.inU U' := by
  cases c with
  | val v => simp [Cell.ren] at h; subst h; trivial
  | ptr id off => simp only [Cell.ren, Option.map_eq_some_iff] at h; obtain ⟨j, hj, rfl⟩ := h; exact hf id j hc hj
  | ref id => simp only [Cell.ren, Option.map_eq_some_iff] at h; obtain ⟨j, hj, rfl⟩ := h; exact hf id j hc hj
  | el id z i off => simp only [Cell.ren, Option.map_eq_some_iff] at h; obtain ⟨j, hj, rfl⟩ := h; exact hf id j hc hj
  | clo k caps =>
    simp only [Cell.ren, Option.map_eq_some_iff] at h
    obtain ⟨js, hj, rfl⟩ := h
    exact mapO_all hj fun x hx y hy => hf x y (hc x hx) hy

theorem SV.ren_inU' {f : Nat → Option Nat} {U U' : Nat → Bool} (hf : ∀ i j, U i = true → f i = some j → U' j = true) {v v' : SV} (hc : v.inU U) (h : v.ren f = some v') : v'.inU U' := by
  have key : ∀ {v v' : V1}, v.inU U → v.ren f = some v' → v'.inU U' := by
    intro v v' hc h
    simp only [V1.ren, Option.map_eq_some_iff] at h
    obtain ⟨cs, hcs, rfl⟩ := h
    exact mapO_all hcs fun x hx y hy => Cell.ren_inU' hf (hc x hx) hy
  cases v with
  | one v =>
    simp only [SV.ren, Option.map_eq_some_iff] at h
    obtain ⟨u, hu, rfl⟩ := h
    exact key hc hu
  | tup vs =>
    simp only [SV.ren, Option.map_eq_some_iff] at h
    obtain ⟨us, hu, rfl⟩ := h
    exact mapO_all hu fun x hx y hy => key (hc x hx) hy

/-- **A loop.** -/
theorem LoopOk.mk' (hmix : P.follows .mixedOrders = true) {b : Code} {h : Shape} {X Y : Type} {J : X → St} {Jx : Ex → Y → St} {lf : List (St → R)} (hD : ∀ k ∈ h.D, W k = true)
    (hl : LOk P (memN h.D) lf b) (Inv : Nat → X → Prop) (fin : X → Ex → Y → Prop) (hJ : ∀ x, Fits h.ids (J x)) (hJx : ∀ q z, FitsX h (Jx q z))
    (round : ∀ m x, Inv m x → (exec P tbl (memN h.D) lf b (J x)).sat fun r s' => match r with
      | .normal => ∃ m' x' σ, m' < m ∧ Inv m' x' ∧ (∀ q z, fin x' q z → fin x q z) ∧ SubR σ (J x') s' ∧ (∀ id, memN h.fx id = true → σ id = some id)
      | r => ∃ z σ, fin x r z ∧ SubR σ (Jx r z) s' ∧ (∀ id, memN h.fx id = true → σ id = some id))
    (F : St → R) (hF : ∀ s, F s = .none ∨ ∃ nd x σ Ro, F s = .need nd Ro ∧ (Ro.all fun _ s' => Unch s s') ∧ SubR σ (J x) s ∧ (h.fresh s).all (fun i => !s.used i) = true ∧
      ((∀ n ∈ nd, n = true) → (∃ m, Inv m x) ∧ ∀ q z, fin x q z → ∀ post : Ex → St → Prop, Ro.sat post → post q (encL h σ (Jx q z) s))) :
    LoopOk P W F b := by
  refine ⟨fun B s post hBW hp ρ a w hM => ?_, fun s => ?_⟩
  · rcases hF s with h0 | ⟨nd, x, σ, Ro, h0, _, hsub, hfr, hnd⟩
    · rw [h0] at hp; exact hp.elim
    · rw [h0] at hp
      obtain ⟨hn, hp⟩ := hp
      obtain ⟨⟨m, hInv⟩, huniq⟩ := hnd hn
      have hfresh : ∀ i ∈ h.fresh s, s.used i = false := fun i hi => by simpa using List.all_eq_true.1 hfr i hi
      have hWn : ∀ k, memN h.D k = true → k < B.n := fun k hk => (B.hW k (by rw [hBW]; exact hD k (SX.memN_mem.1 hk))).1
      let B' : Base := ⟨B.n, w, memBig w s.ent ρ (h.ids.filterMap σ), fun k => bif memN h.D k then none else a.tmps[k]?, memN h.D, fun k hk => ⟨hWn k hk, by simp [hk]⟩⟩
      have hM0 := hsub.mdl hM
      have hownJ : ∀ id e, (J x).ent id = some e → ∀ bl ∈ e.ob (renNm σ ρ id), memBig w s.ent ρ (h.ids.filterMap σ) bl = none := by
        intro id e he bl hb
        obtain ⟨k, e', h1, h2, h3, h4, _⟩ := hsub.ent id e he
        refine memBig_own ⟨k, List.mem_filterMap.2 ⟨id, SX.memN_mem.1 (by rw [← (hJ x).hused id]; exact h4), h1⟩, e', h2, ?_⟩
        rw [renNm_at h1] at hb
        cases e with
        | box T cs => simp only [Entry.ren, Option.map_eq_some_iff] at h3; obtain ⟨cs', _, rfl⟩ := h3; exact hb
        | row own e t xs => simp only [Entry.ren, Option.some.injEq] at h3; subst h3; exact hb
        | gone => simp only [Entry.ren, Option.some.injEq] at h3; subst h3; exact hb
      have hM' : Mdl B' (renNm σ ρ) (J x) a w := by
        refine ⟨hM0.hd, hM0.hn, hM0.hs, hM0.hg, hM0.hu, ⟨fun id e he => ?_, hM0.hp.hi, rfl, rfl, rfl, Nat.le_refl _, fun bl o hb => memBig_some hb, hM0.hp.hf.dat⟩, fun k v hv => ?_⟩
        · obtain ⟨h1, h2, h3⟩ := hM0.he id e he
          refine ⟨?_, h2, h3⟩
          have hob := hownJ id e he
          cases e with
          | box T cs =>
            obtain ⟨bl, k1, k2, k3, k4⟩ := h1
            exact ⟨bl, k1, k2, hob bl (by simp [Entry.ob, k1, blks]), k4⟩
          | row own e0 t xs =>
            cases own with
            | false => exact h1
            | true =>
              obtain ⟨cs, k1, k2, k3⟩ := h1
              exact ⟨cs, k1, k2, fun bl hb => ⟨hob bl hb, (k3 bl hb).2⟩⟩
          | gone => trivial
        · simp only [B'] at hv
          cases ho : memN h.D k with
          | true => simp [ho] at hv
          | false => simpa [ho] using hv
      have hfxU : ∀ x' id, memN h.fx id = true → (J x').used id = true := fun x' id hid => by
        rw [(hJ x').hused id]; exact memN_true (List.mem_append_left _ (SX.memN_mem.1 hid))
      have hloop := Sat.loop (P := P) (B := B') (post := fun r s' => ∃ z σ, fin x r z ∧ SubR σ (Jx r z) s' ∧ (∀ id, memN h.fx id = true → σ id = some id)) (memN h.fx) (fun m s => ∃ x', s = J x' ∧ Inv m x' ∧ ∀ q z, fin x' q z → fin x q z)
        (fun m s ⟨x', hs, _, _⟩ id hid => by rw [hs]; exact hfxU x' id hid)
        (fun m s ⟨x', hs, hI, hfin⟩ => by
          subst hs
          refine exec_sound (tbl := tbl) hmix lf b (J x') _ hl (R.sat_mono (fun r s' hr => ?_) (round m x' hI))
          cases r with
          | normal =>
            obtain ⟨m', x'', σ', hlt, hI', hf', hsub', hσ'⟩ := hr
            exact ⟨m', J x'', σ', hlt, ⟨x'', rfl, hI', fun q z hz => hfin q z (hf' q z hz)⟩, hsub', hσ'⟩
          | exit id => obtain ⟨z, σ', hz, hs⟩ := hr; exact ⟨z, σ', hfin _ z hz, hs⟩
          | ret => obtain ⟨z, σ', hz, hs⟩ := hr; exact ⟨z, σ', hfin _ z hz, hs⟩)
        m (J x) ⟨x, rfl, hInv, fun _ _ h => h⟩ hM'
      refine wp_mono hloop fun e a' w' ⟨r, s', ρ1, he, hag, hM2, y, σ1, hy, hsub2, hσ1⟩ => ?_
      have hpp := huniq r y hy post hp
      have hMy := hsub2.mdl hM2
      have htau : ∀ i, (Jx r y).used i = true → ∃ j, h.tau σ s i = some j := fun i hi => by
        have hi := (hJx r y).hused i hi
        unfold Shape.tau
        cases hm : memN h.fx i with
        | true =>
          obtain ⟨e, he⟩ := (hJ x).hsome i (memN_true (List.mem_append_left _ (SX.memN_mem.1 hm)))
          obtain ⟨k, _, h1, _⟩ := hsub.ent i e he
          exact ⟨k, by simpa using h1⟩
        | false =>
          simp only [cond_false]
          rcases List.mem_append.1 hi with hh | hh
          · rw [memN_true hh] at hm; cases hm
          · obtain ⟨j, hj⟩ := posN_some hh
            have hlt := (List.getElem?_eq_some_iff.1 (posN_get hj)).1
            exact ⟨_, by simp only [hj]; exact idsFrom_get hlt⟩
      obtain ⟨ρ', hx', hτ, hp'⟩ := hM.hp.behind (B' := B') hsub (hJ x) (hJx r y) hfresh rfl rfl hMy.hp
        (fun id hid k hk => by
          have hmf := memN_true hid
          rw [renNm_at (hσ1 id hmf), hag.nm id hmf, renNm_at hk])
        (fun bl o hb => hag.old bl o hb) (fun bl o hb => hag.new bl o hb)
        (fun id hid e he => Entry.ren_some (hMy.he id e he).2.2 htau)
      refine ⟨r, encL h σ (Jx r y) s, ρ', he, hx', ?_, hpp⟩
      have hslot : ∀ k, memN h.D k = false → ∀ v, a.tmps[k]? = some v → a'.tmps[k]? = some v := fun k hk v hv =>
        hM2.hl k v (by simp only [B', hk, cond_false]; exact hv)
      have look : ∀ k z, (encL h σ (Jx r y) s).look k = some z → z.g = none ∧ a'.tmps[k]? = some (z.v.conc ρ') ∧ z.v.inU (usedOf s.used (h.fresh s)) := by
        intro k z hz
        simp only [encL] at hz
        cases hk : memN h.D k with
        | true =>
          simp only [hk, cond_true] at hz
          split at hz
          · rename_i x0 hx0
            simp only [Option.map_eq_some_iff] at hz
            obtain ⟨v, hv, rfl⟩ := hz
            have hs := hMy.hs k x0 hx0
            have hu := hMy.hu k x0 hx0
            refine ⟨rfl, ?_, ?_⟩
            · rw [hs]
              simp only [SS.at, (hJx r y).hg k x0 hx0]
              rw [SV.ren_conc (U := (Jx r y).used) (fun i j hi hj => (hτ i ((hJx r y).hused i hi) j hj).1) hu hv]
            · refine SV.inU_mono (U := fun j => usedOf s.used (h.fresh s) j) (fun _ h => h) ?_
              exact SV.ren_inU' (fun i j hi hj => (hτ i ((hJx r y).hused i hi) j hj).2) hu hv
          · cases hz
        | false =>
          simp only [hk, cond_false] at hz
          have hMc := hM.clean
          have hs := hMc.hs k z hz
          have hg : z.g = none := by
            simp only [St.clean] at hz
            split at hz
            · cases hz; rfl
            · cases hz
          have hu := hMc.hu k z hz
          refine ⟨hg, ?_, SV.inU_mono usedOf_mono hu⟩
          simp only [SS.at, hg] at hs
          rw [SV.conc_congr hx'.nm hu]
          exact hslot k hk _ hs
      refine ⟨hM2.hd, hM2.hn, fun k z hz => ?_, fun k z j bb hz hj => ?_, fun k z hz => (look k z hz).2.2, hp', fun k v hv => ?_⟩
      · obtain ⟨g0, h0, _⟩ := look k z hz
        rw [h0]; simp only [SS.at, g0]
      · rw [(look k z hz).1] at hj; cases hj
      · refine hslot k ?_ v (hM.hl k v hv)
        cases hk : memN h.D k with
        | false => rfl
        | true =>
          have := (B.hW k (by rw [hBW]; exact hD k (SX.memN_mem.1 hk))).2
          rw [this] at hv; cases hv
  · rcases hF s with h0 | ⟨nd, x, σ, Ro, h0, hun, _⟩
    · rw [h0]; trivial
    · rw [h0]; exact hun

end
end Go.SX

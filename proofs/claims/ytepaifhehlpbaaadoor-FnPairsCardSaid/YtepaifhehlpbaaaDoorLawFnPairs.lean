/- FnPairs: for every input the law returns true, and each argument reads behind the call as it read before. -/
import Derived.Test.YtepaifhehlpbaaaDoorRows
import Derived.Test.YtepaifhehlpbaaaDoorLc
import Derived.Test.YtepaifhehlpbaaaDoorTXi
import Derived.Test.YtepaifhehlpbaaaDoorCards
import Derived.Test.YtepaifhehlpbaaaDoorTie
import Derived.Test.YtepaifhehlpbaaaDoorTXj
import Derived.ShutString
import Derived.ChangeOld
import Derived.ProofKit
import Derived.OpenShut
import Derived.Stop.Joined
namespace Go.Proofs.YtepaifhehlpbaaaDoor.fnPairs
open Go.ChangeShapes Go.WideShapes Go.ChangeAt Go.RowKit Go.SX
open Go.ChangeMaps (open_string shut_string)

theorem own : ownKnob Tryd.prog.godebug = none := by kernel_rfl
theorem laidOut : laidOutB Tryd.prog = true := by kernel_rfl

set_option maxRecDepth 100000

theorem g0 : Tryd.prog.globalNamed "loop.example/g00916/impl.keywords" = some 0 := by kernel_rfl
theorem t0 : (Tryd.prog.globals[0]?).map (·.type) = some 138 := by kernel_rfl

/-- What the row lists. -/
def laid1 : List (String × DataW Unit) := Rows.fnPairsRow.laid

theorem door_met (os : Os) (args : Array Value) : laidMetH Tryd.prog laid1 ((World.doorLaid Tryd.prog 400 os).forCall (fun _ _ => 0) ⟨#[], args, []⟩).memory :=
  laidMetH_of_parts3 (fuel := 8) (laidMet_of_run' 8 (by kernel_rfl) (by kernel_rfl)) (by kernel_rfl) (by kernel_rfl)

/-- The table lies in memory. -/
theorem of_laid {W : World} (h : laidMetH Tryd.prog laid1 W) : GlOk fun b => W.heap[b]? := by
  rw [MakeChecks.laidMetH_plain _ _ _ (by kernel_rfl)] at h
  obtain ⟨ps, ⟨g, t, cs, f, p, q, hg, ht, hv, hd, _, _⟩, _, _⟩ := h
  obtain rfl := Option.some.inj (g0.symm.trans hg)
  obtain rfl := Option.some.inj (t0.symm.trans ht)
  intro x hx
  have hx : x = ⟨0, 138, 9, .str, tab0⟩ := List.mem_singleton.1 hx
  subst hx
  have hb : ∃ T fz, W.heap[0]? = some (.cells cs T fz) := by
    simp only [World.var?, hg, Option.bind_some] at hv
    split at hv
    · rename_i cs' T fz hb; cases hv; exact ⟨T, fz, hb⟩
    · cases hv
  obtain ⟨T, fz, hb⟩ := hb
  refine ⟨by decide, cs, T, fz, hb, fun i y hy => ?_⟩
  simp only [Rep]
  exact strs_of_trod Tryd.underlying138 Tryd.underlying9 (by kernel_rfl) (tab := tab0) rfl hd i y hy

theorem calls (s0 : Value) (y0 : List (E (.int .u8))) (W : World) (hL : GlOk fun b => W.heap[b]?) (r0 : RepS (fun b => W.heap[b]?) (.int .u8) s0 y0) (w0 : wfD (.sl 5 (.int .u8)) y0) : Calls Tryd.prog 6 #[s0] W fun e w' => e = .returned (.bool true) ∧ Below W.heap.size W w' := by
  have h := law_Pairs y0 w0
  have key := (p_laws_FnPairs).law (w := W) (args := [.one ⟨false, [.ref 0]⟩]) (es := [.row false 5 (.int .u8) y0]) (vs := [s0]) (av := #[s0]) hL rfl rfl
    (by intro b hb; simp only [List.mem_cons, List.not_mem_nil, or_false] at hb; subst hb; exact h.2)
    (by
      intro i e he
      match i with
      | 0 => simp only [List.getElem?_cons_zero, List.getElem?_cons_succ, Option.some.injEq] at he; subst he; exact ⟨_, _, _, _, rfl, rfl, r0⟩
      | i + 1 => simp at he)
    rfl (by simp [SV.conc, V1.conc, Cell.conc, argNm_at (w := W) (vs := [s0]) (i := 0) (v := s0) rfl (RepS_slim r0)])
  rw [h.1] at key
  exact key

theorem lifted (os : Os) (started : os.Started) (H : Type) (enc : TypeId × Value → H) :
    ReturnsInHanded {} Tryd.checked os 6 .any (fun w args => (Rows.fnPairsSpec.pre enc Tryd.prog Tryd.f6 [] false w args ∧ laidMetH Tryd.prog laid1 w) ∧ sizedMet enc Tryd.prog Tryd.f6 (OpenSpec.ofChange Rows.fnPairsSpec) false w args)
      (Rows.fnPairsSpec.post enc Tryd.prog Tryd.f6 false true false false) := by
  refine returnsInHanded_of_change_and (C := Tryd.checked) (X := fun w _ => laidMetH Tryd.prog laid1 w) (fun _ _ _ hh h => h.of_heap hh) own started (by kernel_rfl) Tryd.func6
    (ChangeSpec.witness_shaped (enc := enc) (C := Tryd.checked) (os := os) (X := fun w _ => laidMetH Tryd.prog laid1 w) false (World.doorLaid Tryd.prog 400 os) #[.slice none 0 0] 8 rfl (World.shaped_of_RefB (by kernel_rfl) (by kernel_rfl)) (by kernel_rfl) (by kernel_rfl) (by kernel_rfl) (door_met os _)) ?_
  intro W base args ds gs before hval0 hW _ _ hL _
  have hval : ∀ (j : Nat) t v, Tryd.f6.params[j]? = some t → args[j]? = some v → Value.okWide Tryd.prog W .any base t v := hval0
  have hW' := hW
  obtain ⟨p, q, hA0, hV, rfl, hfz, hnd⟩ := hW
  have hA : DataW.TrodAll enc Tryd.prog W 0 (fun _ => true) true Tryd.f6.params.toList args.toList ds p := hA0
  rw [Tryd.params6] at hA hval
  obtain ⟨v0, vs0, d0, ds0, p0, q0, hargs, rfl, rfl, h0, r0⟩ := trodAll_cons hA
  obtain ⟨rfl, rfl, rfl⟩ := trodAll_nil r0
  obtain rfl : args = #[v0] := by cases args; simp_all
  have hV0 : DataW.TrodVars enc Tryd.prog W (fun _ => true) ["loop.example/g00916/impl.keywords"] gs q := hV
  obtain ⟨g, t, cs_, fuel_, d_, pp_, rfl, _⟩ := trodVars_one hV0
  have k0 := h0
  have lt0 : ∀ x ∈ p0, x.block < W.heap.size := by obtain ⟨m, hm⟩ := k0; exact DataW.trod_lt m _ _ _ hm
  obtain ⟨y0, hr0, hl0, hw0⟩ := open_sl (u := .int .u8) Tryd.underlying40 (hval 0 40 v0 rfl rfl) h0 (n := 60) (by kernel_rfl)
  clear hA0 hval0
  refine (calls v0 y0 W (of_laid hL) hr0 ⟨hl0, hw0⟩).mono fun e W' ⟨he, bel⟩ => ?_
  subst he
  exact ⟨_, rfl, _, _, _, [], _, q, hW', trodAll_mk1 (shut_bool Tryd.underlying4 _), (trodAll_cons_mk (Below.trod laidOut (by kernel_rfl) (of_decide_eq_true (by kernel_rfl)) k0 bel lt0) trodAll_mk0), Below.trodVars laidOut bel (by kernel_rfl) hV0, bel.frame _, fun h => by cases h⟩

theorem over : Rows.FnPairsSaid :=
  OpenClaim.holds_of_wide 6 Tryd.f6 rfl rfl rfl rfl rfl rfl rfl ⟨rfl, rfl, rfl, rfl, rfl⟩ rfl rfl rfl rfl rfl (by kernel_rfl) Tryd.func6 (by kernel_rfl)
    (of_decide_eq_true (by kernel_rfl)) (by unfold Func.isWrapper; first | (rw [if_pos (by decide +kernel)]; kernel_rfl) | (rw [if_neg (by decide +kernel)]; exact ⟨rfl, rfl⟩))
    (fun os started H enc _ => lifted os started H enc)

theorem proved : Rows.FnPairsCardSaid :=
  Claim7.holds_tied_plain_at .later [] [.widerDeep] true (true, "0db0588b1bf225cb97dec76ba9a33da0ab27cd6a4afb6296d148a9880b79c3f2") false
    over (fun _ h => by cases h) (by kernel_rfl) (fun _ h => by cases h) fnPairs_row_tie rfl ⟨rfl, rfl⟩ (by kernel_rfl) rfl
    (fun f fn hf hfn => by
      obtain rfl : f = 6 := Option.some.inj ((show Tryd.prog.funcNamed "loop.example/g00916/laws.FnPairs" = some 6 by kernel_rfl).symm.trans hf) |>.symm
      obtain rfl : fn = Tryd.f6 := (Option.some.inj (Tryd.func6.symm.trans hfn)).symm
      exact ⟨by kernel_rfl, fun j t ht => by
        rw [Tryd.params6] at ht
        match j with
          | 0 => simp at ht; subst ht; exact (show Tryd.prog.wantsStandIn 40 = false by kernel_rfl)
          | j + 1 => simp at ht⟩)
    (by kernel_rfl)
#print axioms proved
end Go.Proofs.YtepaifhehlpbaaaDoor.fnPairs

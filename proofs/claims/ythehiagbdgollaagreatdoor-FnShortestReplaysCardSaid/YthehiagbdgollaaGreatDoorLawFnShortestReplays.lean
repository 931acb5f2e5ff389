/- FnShortestReplays: for every input the law returns true, and each argument reads behind the call as it read before. -/
import Derived.Test.YthehiagbdgollaaGreatDoorMc
import Derived.Test.YthehiagbdgollaaGreatDoorRows
import Derived.Test.YthehiagbdgollaaGreatDoorFf
import Derived.Test.YthehiagbdgollaaGreatDoorTXi
import Derived.Test.YthehiagbdgollaaGreatDoorCards
import Derived.Test.YthehiagbdgollaaGreatDoorTie
import Derived.Test.YthehiagbdgollaaGreatDoorTXj
import Derived.ShutString
import Derived.ChangeOld
import Derived.ProofKit
import Derived.OpenShut
import Derived.Stop.Joined
import Derived.Lay
set_option linter.unusedSimpArgs false
set_option linter.unusedVariables false
namespace Go.Proofs.YthehiagbdgollaaGreatDoor.fnShortestReplays
open Go.ChangeShapes Go.WideShapes Go.ChangeAt Go.RowKit Go.SX
open Go.ChangeMaps (open_string shut_string)

theorem own : ownKnob Tryz.prog.godebug = none := by kernel_rfl
theorem laidOut : laidOutB Tryz.prog = true := by kernel_rfl

set_option maxRecDepth 100000

theorem g0 : Tryz.prog.globalNamed "loop.example/g00916/impl.ruleNames" = some 0 := by kernel_rfl
theorem t0 : (Tryz.prog.globals[0]?).map (·.type) = some 146 := by kernel_rfl
theorem g1 : Tryz.prog.globalNamed "internal/strconv.uint64pow10" = some 1 := by kernel_rfl
theorem t1 : (Tryz.prog.globals[1]?).map (·.type) = some 192 := by kernel_rfl
/-- What the row lists. -/
def laid1 : List (String × DataW Unit) := Rows.fnShortestReplaysRow.laid

/-- The tables lie in memory. -/
theorem of_laid {W : World} (h : laidMetH Tryz.prog laid1 W) : GlOk fun b => W.heap[b]? := by
  rw [MakeChecks.laidMetH_plain _ _ _ (by kernel_rfl)] at h
  refine ⟨fun x hx => ?_, fun x hx => ?_⟩
  · simp only [GT, List.mem_cons, List.not_mem_nil, or_false] at hx
    rcases hx with rfl | rfl
    · exact ajr h 3 (by kernel_rfl) g0 t0 Tryz.underlying146 Tryz.underlying9 (by kernel_rfl) (by kernel_rfl) rfl (by decide)
    · exact ajq h 2 (by kernel_rfl) g1 t1 Tryz.underlying192 Tryz.underlying173 (by kernel_rfl) (by kernel_rfl) (by decide)
  · cases hx

theorem calls (s0 : Value) (y0 : List (E (.int .u8))) (W : World) (hL : GlOk fun b => W.heap[b]?) (r0 : GO (fun b => W.heap[b]?) (.int .u8) s0 y0) (w0 : wfD (.sl 5 (.int .u8)) y0) : Calls Tryz.prog 3 #[s0] W fun e w' => e = .returned (.bool true) ∧ Below W.heap.size W w' := by
  have h := akB y0 w0
  have key := (RE).law (w := W) (args := [.one ⟨false, [.ref 0]⟩]) (es := [.row false 5 (.int .u8) y0]) (vs := [s0]) (av := #[s0]) hL rfl rfl
    (by intro b hb; simp only [List.mem_cons, List.not_mem_nil, or_false] at hb; subst hb; exact h.2)
    (by
      intro i e he
      match i with
      | 0 => simp only [List.getElem?_cons_zero, List.getElem?_cons_succ, Option.some.injEq] at he; subst he; exact ⟨_, _, _, _, rfl, rfl, r0⟩
      | i + 1 => simp at he)
    rfl (by simp [SV.conc, V1.conc, Cell.conc, aeA (w := W) (vs := [s0]) (i := 0) (v := s0) rfl (OV r0)])
  rw [h.1] at key
  exact key

theorem lifted (os : Os) (started : os.Started) (H : Type) (enc : TypeId × Value → H) :
    ReturnsInHanded {} Tryz.checked os 3 .any (fun w args => (Rows.fnShortestReplaysSpec.pre enc Tryz.prog Tryz.f3 [] false w args ∧ laidMetH Tryz.prog laid1 w) ∧ sizedMet enc Tryz.prog Tryz.f3 (OpenSpec.ofChange Rows.fnShortestReplaysSpec) false w args)
      (Rows.fnShortestReplaysSpec.post enc Tryz.prog Tryz.f3 false true false false) := by
  refine returnsInHanded_of_change_and (C := Tryz.checked) (X := fun w _ => laidMetH Tryz.prog laid1 w) (fun _ _ _ hh h => h.of_heap hh) own started (by kernel_rfl) Tryz.func3
    (ChangeSpec.witness_shaped (enc := enc) (C := Tryz.checked) (os := os) (X := fun w _ => laidMetH Tryz.prog laid1 w) false (World.laidAll Tryz.prog os laid1) #[.slice none 0 0] 8 (World.laidAll_os _ _ _)
      (World.shaped_of_ZipB (by kernel_rfl) (by kernel_rfl)) (by kernel_rfl) (by kernel_rfl) (by kernel_rfl)
      (by rw [MakeChecks.laidMetH_plain _ _ _ (by kernel_rfl)]; exact laidMet_laidAll _ (by kernel_rfl) (by kernel_rfl))) ?_
  intro W base args ds gs before hval0 hW _ _ hL _
  have hval : ∀ (j : Nat) t v, Tryz.f3.params[j]? = some t → args[j]? = some v → Value.okWide Tryz.prog W .any base t v := hval0
  have hW' := hW
  obtain ⟨p, q, hA0, hV, rfl, hfz, dq⟩ := hW
  have hA : DataW.TrodAll enc Tryz.prog W 0 (fun _ => true) true Tryz.f3.params.toList args.toList ds p := hA0
  rw [Tryz.params3] at hA hval
  obtain ⟨v0, vs0, d0, ds0, p0, q0, zo, rfl, rfl, h0, r0⟩ := trodAll_cons hA
  obtain ⟨rfl, rfl, rfl⟩ := trodAll_nil r0
  obtain rfl : args = #[v0] := by cases args; simp_all
  have hV0 : DataW.TrodVars enc Tryz.prog W (fun _ => true) ["loop.example/g00916/impl.ruleNames"] gs q := hV
  obtain ⟨g, t, cs_, fuel_, d_, pp_, rfl, _⟩ := trodVars_one hV0
  have k0 := h0
  have lt0 : ∀ x ∈ p0, x.block < W.heap.size := by obtain ⟨m, hm⟩ := k0; exact DataW.trod_lt m _ _ _ hm
  obtain ⟨y0, hr0, hl0, hw0⟩ := ajI (u := .int .u8) Tryz.underlying22 (hval 0 22 v0 rfl rfl) h0 (n := 60) (by kernel_rfl)
  clear hA0 hval0
  refine (calls v0 y0 W (of_laid hL) hr0 ⟨hl0, hw0⟩).mono fun e W' ⟨he, bel⟩ => ?_
  subst he
  exact ⟨_, rfl, _, _, _, [], _, q, hW', trodAll_mk1 (shut_bool Tryz.underlying4 _), (trodAll_cons_mk (Below.trod laidOut (by kernel_rfl) (of_decide_eq_true (by kernel_rfl)) k0 bel lt0) trodAll_mk0), Below.trodVars laidOut bel (by kernel_rfl) hV0, bel.frame _, fun h => by cases h⟩

theorem c_wf : Rows.fnShortestReplaysRow.wf (OpenSpec.ofChange Rows.fnShortestReplaysSpec) = true := by kernel_rfl
theorem c_named : Tryz.pinned.checked.prog.funcNamed "loop.example/g00916/laws.FnShortestReplays" = some 3 := by kernel_rfl
theorem f_1 : (Rows.fnShortestReplaysRow.inPlace == Tryz.pinned.checked.prog.inPlace 3) = true := by kernel_rfl
theorem f_2 : (Rows.fnShortestReplaysRow.unfollowed == Tryz.pinned.checked.prog.unfollowed 3) = true := by kernel_rfl
theorem f_3 : (Rows.fnShortestReplaysRow.recurses == Tryz.pinned.checked.prog.recurses 3) = true := by kernel_rfl
theorem f_4 : (Rows.fnShortestReplaysRow.named == Tryz.pinned.checked.prog.varsNamed 3) = true := by kernel_rfl
theorem f_5 : false = Rows.fnShortestReplaysRow.goesBy Tryz.pinned.checked.prog := by kernel_rfl
theorem f_6 : Rows.fnShortestReplaysRow.wfByText (OpenSpec.ofChange Rows.fnShortestReplaysSpec) = true := by kernel_rfl
theorem joined : joinedFacts Tryz.pinned.checked.prog 3 Tryz.f3 Rows.fnShortestReplaysSpec Rows.fnShortestReplaysRow = true := by
  unfold joinedFacts
  exact and_tt (and_tt (and_tt (and_tt (and_tt (and_tt (and_tt (and_tt (and_tt (and_tt (and_tt (and_tt (and_tt (and_tt (and_tt (and_tt (and_tt (and_tt (and_tt (and_tt (and_tt (and_tt (and_tt (and_tt (and_tt (and_tt (and_tt (and_tt (and_tt (and_tt (and_tt (c_wf) s_laid) s_maps) (by kernel_rfl)) (by kernel_rfl)) rfl) s_stops) rfl) s_knobs) f_1) f_2) f_3) f_4) (by kernel_rfl)) (by kernel_rfl)) (by kernel_rfl)) (by kernel_rfl)) (by kernel_rfl)) (by kernel_rfl)) (by kernel_rfl)) (by kernel_rfl)) (by kernel_rfl)) s_plain) rfl) s_heard) s_enter) s_lifts) s_make) (by kernel_rfl)) (by kernel_rfl)) (by kernel_rfl)) (by kernel_rfl)

theorem over : Rows.FnShortestReplaysSaid :=
  OpenClaim.holds_of_wide 3 Tryz.f3 rfl rfl rfl rfl rfl rfl rfl ⟨rfl, rfl, rfl, rfl, rfl⟩ rfl rfl rfl rfl rfl c_named Tryz.func3 joined
    (of_decide_eq_true (by kernel_rfl)) (by unfold Func.isWrapper; first | (rw [if_pos (by decide +kernel)]; kernel_rfl) | (rw [if_neg (by decide +kernel)]; exact ⟨rfl, rfl⟩))
    (fun os started H enc _ => lifted os started H enc)

theorem proved : Rows.FnShortestReplaysCardSaid :=
  Claim7.holds_tied_plain_at .later [] [.data, .data, .data, .data] true (true, "d6d48baa8d2d59bb91d220986cb7da506d6ac6f06d457b3704bf44ba9cd41b91") false
    over (fun _ h => by cases h) f_6 (fun _ h => by cases h) fnShortestReplays_row_tie rfl ⟨rfl, rfl⟩ s_main rfl
    (fun f fn hf hfn => by
      obtain rfl : f = 3 := Option.some.inj (c_named.symm.trans hf) |>.symm
      obtain rfl : fn = Tryz.f3 := (Option.some.inj (Tryz.func3.symm.trans hfn)).symm
      exact ⟨s_looks, fun j t ht => by
        rw [Tryz.params3] at ht
        match j with
          | 0 => simp at ht; subst ht; exact (show Tryz.prog.wantsStandIn 22 = false by kernel_rfl)
          | j + 1 => simp at ht⟩)
    f_5
#print axioms proved
end Go.Proofs.YthehiagbdgollaaGreatDoor.fnShortestReplays

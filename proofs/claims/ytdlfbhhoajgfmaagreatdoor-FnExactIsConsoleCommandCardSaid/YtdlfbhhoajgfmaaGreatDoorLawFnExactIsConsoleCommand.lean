/- FnExactIsConsoleCommand: for every input the law returns true, and each argument reads behind the call as it read before. -/
import Derived.Test.YtdlfbhhoajgfmaaGreatDoorMa
import Derived.Test.YtdlfbhhoajgfmaaGreatDoorRows
import Derived.Test.YtdlfbhhoajgfmaaGreatDoorFf
import Derived.Test.YtdlfbhhoajgfmaaGreatDoorTXi
import Derived.Test.YtdlfbhhoajgfmaaGreatDoorCards
import Derived.Test.YtdlfbhhoajgfmaaGreatDoorTie
import Derived.Test.YtdlfbhhoajgfmaaGreatDoorTXj
import Derived.ShutString
import Derived.ChangeOld
import Derived.ProofKit
import Derived.OpenShut
import Derived.Stop.Joined
import Derived.Lay
set_option linter.unusedSimpArgs false
set_option linter.unusedVariables false
namespace Go.Proofs.YtdlfbhhoajgfmaaGreatDoor.fnExactIsConsoleCommand
open Go.ChangeShapes Go.WideShapes Go.ChangeAt Go.RowKit Go.SX
open Go.ChangeMaps (open_string shut_string)

theorem own : ownKnob Tryz.prog.godebug = none := by kernel_rfl
theorem laidOut : laidOutB Tryz.prog = true := by kernel_rfl

set_option maxRecDepth 100000

theorem g0 : Tryz.prog.globalNamed "internal/strconv.uint64pow10" = some 9 := by kernel_rfl
theorem t0 : (Tryz.prog.globals[9]?).map (·.type) = some 256 := by kernel_rfl
theorem gv0 : Tryz.prog.globalNamed "strconv.ErrSyntax" = some 7 := by kernel_rfl
theorem tv0 : (Tryz.prog.globals[7]?).map (·.type) = some 115 := by kernel_rfl
theorem gv1 : Tryz.prog.globalNamed "strconv.ErrRange" = some 8 := by kernel_rfl
theorem tv1 : (Tryz.prog.globals[8]?).map (·.type) = some 115 := by kernel_rfl
/-- What the row lists. -/
def laid1 : List (String × DataW Unit) := Rows.fnExactIsConsoleCommandRow.laid

/-- The tables lie in memory. -/
theorem of_laid {W : World} (h : laidMetH Tryz.prog laid1 W) : GlOk fun b => W.heap[b]? := by
  rw [MakeChecks.laidMetH_plain _ _ _ (by kernel_rfl)] at h
  refine ⟨fun x hx => ?_, fun x hx => ?_⟩
  · simp only [GT, List.mem_cons, List.not_mem_nil, or_false] at hx
    rcases hx with rfl
    · exact wi h 2 (by kernel_rfl) g0 t0 Tryz.underlying256 Tryz.underlying199 (by kernel_rfl) (by kernel_rfl) (by decide)
  · simp only [GV, List.mem_cons, List.not_mem_nil, or_false] at hx
    rcases hx with rfl | rfl
    · exact vD h 5 rfl gv0 tv0 Tryz.underlying115
    · exact vD h 4 rfl gv1 tv1 Tryz.underlying115

theorem calls (y0 : ByteArray) (W : World) (hL : GlOk fun b => W.heap[b]?) (w0 : wfD .str y0) : Calls Tryz.prog 3 #[.string y0] W fun e w' => e = .returned (.bool true) ∧ Below W.heap.size W w' := by
  have h := wb y0 w0
  have eI := (gB).law (w := W) (args := [.one ⟨false, [.val (.string y0)]⟩]) (es := []) (vs := []) (av := #[.string y0]) hL rfl rfl
    (by intro b hb; simp only [List.mem_cons, List.not_mem_nil, or_false] at hb; subst hb; exact h.2)
    (by intro i e he; simp at he)
    rfl (by simp [SV.conc, V1.conc, Cell.conc])
  rw [h.1] at eI
  exact eI

theorem lifted (os : Os) (started : os.Started) (H : Type) (enc : TypeId × Value → H) :
    ReturnsInHanded {} Tryz.checked os 3 .any (fun w args => (Rows.fnExactIsConsoleCommandSpec.pre enc Tryz.prog Tryz.f3 [] false w args ∧ laidMetH Tryz.prog laid1 w) ∧ sizedMet enc Tryz.prog Tryz.f3 (OpenSpec.ofChange Rows.fnExactIsConsoleCommandSpec) false w args)
      (Rows.fnExactIsConsoleCommandSpec.post enc Tryz.prog Tryz.f3 false true false false) := by
  refine returnsInHanded_of_change_and (C := Tryz.checked) (X := fun w _ => laidMetH Tryz.prog laid1 w) (fun _ _ _ hh h => h.of_heap hh) own started (by kernel_rfl) Tryz.func3
    (ChangeSpec.witness_shaped (enc := enc) (C := Tryz.checked) (os := os) (X := fun w _ => laidMetH Tryz.prog laid1 w) false (World.laidAll Tryz.prog os laid1) #[.string ⟨#[]⟩] 8 (World.laidAll_os _ _ _)
      (World.shaped_of_ZipB (by kernel_rfl) (by kernel_rfl)) (by kernel_rfl) (by kernel_rfl) (by kernel_rfl)
      (by rw [MakeChecks.laidMetH_plain _ _ _ (by kernel_rfl)]; exact laidMet_laidAll _ (by kernel_rfl) (by kernel_rfl))) ?_
  intro W base args ds gs before hval0 hW _ _ hL _
  have hval : ∀ (j : Nat) t v, Tryz.f3.params[j]? = some t → args[j]? = some v → Value.okWide Tryz.prog W .any base t v := hval0
  have hW' := hW
  obtain ⟨p, q, hA0, hV, rfl, hfz, ba⟩ := hW
  have hA : DataW.TrodAll enc Tryz.prog W 0 (fun _ => true) true Tryz.f3.params.toList args.toList ds p := hA0
  rw [Tryz.params3] at hA hval
  obtain ⟨v0, vs0, d0, ds0, p0, q0, df, rfl, rfl, h0, r0⟩ := trodAll_cons hA
  obtain ⟨rfl, rfl, rfl⟩ := trodAll_nil r0
  obtain rfl : args = #[v0] := by cases args; simp_all
  have hV0 : DataW.TrodVars enc Tryz.prog W (fun _ => true) ["loop.example/g00916/impl.verdictNames", "loop.example/g00916/impl.commandRows", "loop.example/g00916/impl.modeNames", "loop.example/g00916/impl.ruleNames", "loop.example/g00916/impl.statusWords"] gs q := hV
  obtain ⟨g0_, g1_, g2_, g3_, g4_, rfl⟩ : ∃ g0_ g1_ g2_ g3_ g4_, gs = [g0_, g1_, g2_, g3_, g4_] := by
    match gs, tg hV0 with
    | [a0, a1, a2, a3, a4], _ => exact ⟨a0, a1, a2, a3, a4, rfl⟩
  have k0 := h0
  have lt0 : ∀ x ∈ p0, x.block < W.heap.size := by obtain ⟨m, hm⟩ := k0; exact DataW.trod_lt m _ _ _ hm
  obtain ⟨y0, rfl, _, _, y0w⟩ := open_string Tryz.underlying9 (hval 0 9 v0 rfl rfl) h0
  clear hA0 hval0
  refine (calls y0 W (of_laid hL) y0w).mono fun e W' ⟨he, bel⟩ => ?_
  subst he
  exact ⟨_, rfl, _, _, _, [], _, q, hW', trodAll_mk1 (shut_bool Tryz.underlying4 _), (trodAll_cons_mk (Below.trod laidOut (by kernel_rfl) (of_decide_eq_true (by kernel_rfl)) k0 bel lt0) trodAll_mk0), Below.trodVars laidOut bel (by kernel_rfl) hV0, bel.frame _, fun h => by cases h⟩

theorem c_wf : Rows.fnExactIsConsoleCommandRow.wf (OpenSpec.ofChange Rows.fnExactIsConsoleCommandSpec) = true := by kernel_rfl
theorem c_named : Tryz.pinned.checked.prog.funcNamed "loop.example/g00916/laws.FnExactIsConsoleCommand" = some 3 := by kernel_rfl
theorem f_1 : (Rows.fnExactIsConsoleCommandRow.inPlace == Tryz.pinned.checked.prog.inPlace 3) = true := by kernel_rfl
theorem f_2 : (Rows.fnExactIsConsoleCommandRow.unfollowed == Tryz.pinned.checked.prog.unfollowed 3) = true := by kernel_rfl
theorem f_3 : (Rows.fnExactIsConsoleCommandRow.recurses == Tryz.pinned.checked.prog.recurses 3) = true := by kernel_rfl
theorem f_4 : (Rows.fnExactIsConsoleCommandRow.named == Tryz.pinned.checked.prog.varsNamed 3) = true := by kernel_rfl
theorem f_5 : false = Rows.fnExactIsConsoleCommandRow.goesBy Tryz.pinned.checked.prog := by kernel_rfl
theorem f_6 : Rows.fnExactIsConsoleCommandRow.wfByText (OpenSpec.ofChange Rows.fnExactIsConsoleCommandSpec) = true := by kernel_rfl
theorem joined : joinedFacts Tryz.pinned.checked.prog 3 Tryz.f3 Rows.fnExactIsConsoleCommandSpec Rows.fnExactIsConsoleCommandRow = true := by
  unfold joinedFacts
  exact and_tt (and_tt (and_tt (and_tt (and_tt (and_tt (and_tt (and_tt (and_tt (and_tt (and_tt (and_tt (and_tt (and_tt (and_tt (and_tt (and_tt (and_tt (and_tt (and_tt (and_tt (and_tt (and_tt (and_tt (and_tt (and_tt (and_tt (and_tt (and_tt (and_tt (and_tt (c_wf) s_laid) s_maps) (by kernel_rfl)) (by kernel_rfl)) rfl) s_stops) rfl) s_knobs) f_1) f_2) f_3) f_4) (by kernel_rfl)) (by kernel_rfl)) (by kernel_rfl)) (by kernel_rfl)) (by kernel_rfl)) (by kernel_rfl)) (by kernel_rfl)) (by kernel_rfl)) (by kernel_rfl)) s_plain) rfl) s_heard) s_enter) s_lifts) s_make) (by kernel_rfl)) (by kernel_rfl)) (by kernel_rfl)) (by kernel_rfl)

theorem over : Rows.FnExactIsConsoleCommandSaid :=
  OpenClaim.holds_of_wide 3 Tryz.f3 rfl rfl rfl rfl rfl rfl rfl ⟨rfl, rfl, rfl, rfl, rfl⟩ rfl rfl rfl rfl rfl c_named Tryz.func3 joined
    (of_decide_eq_true (by kernel_rfl)) (by unfold Func.isWrapper; first | (rw [if_pos (by decide +kernel)]; kernel_rfl) | (rw [if_neg (by decide +kernel)]; exact ⟨rfl, rfl⟩))
    (fun os started H enc _ => lifted os started H enc)

theorem proved : Rows.FnExactIsConsoleCommandCardSaid :=
  Claim7.holds_tied_plain_at .later [] [.data, .data, .data, .data, .sentinel, .sentinel, .data, .widerDeep, .widerDeep, .data, .data, .pinned] true (true, "fa01d2f785bd7b9e2125c9a823cf4614d47de29e387d0273ac9258119254f45e") true
    over (fun _ h => by cases h) f_6 (fun _ h => by cases h) fnExactIsConsoleCommand_row_tie rfl ⟨rfl, rfl⟩ s_main rfl
    (fun f fn hf hfn => by
      obtain rfl : f = 3 := Option.some.inj (c_named.symm.trans hf) |>.symm
      obtain rfl : fn = Tryz.f3 := (Option.some.inj (Tryz.func3.symm.trans hfn)).symm
      exact ⟨s_looks, fun j t ht => by
        rw [Tryz.params3] at ht
        match j with
          | 0 => simp at ht; subst ht; exact (show Tryz.prog.wantsStandIn 9 = false by kernel_rfl)
          | j + 1 => simp at ht⟩)
    f_5
#print axioms proved
end Go.Proofs.YtdlfbhhoajgfmaaGreatDoor.fnExactIsConsoleCommand

/- FnExactRunCodes: for every input the law returns true, and each argument reads behind the call as it read before. -/
import Derived.Test.YtbbfgoobcjlooaaGreatDoorPc
import Derived.Test.YtbbfgoobcjlooaaGreatDoorRows
import Derived.Test.YtbbfgoobcjlooaaGreatDoorFf
import Derived.Test.YtbbfgoobcjlooaaGreatDoorTXi
import Derived.Test.YtbbfgoobcjlooaaGreatDoorCards
import Derived.Test.YtbbfgoobcjlooaaGreatDoorTie
import Derived.Test.YtbbfgoobcjlooaaGreatDoorTXj
import Derived.ShutString
import Derived.ChangeOld
import Derived.ProofKit
import Derived.OpenShut
import Derived.Stop.Joined
set_option linter.unusedSimpArgs false
set_option linter.unusedVariables false
namespace Go.Proofs.YtbbfgoobcjlooaaGreatDoor.fnExactRunCodes
open Go.ChangeShapes Go.WideShapes Go.ChangeAt Go.RowKit Go.SX
open Go.ChangeMaps (open_string shut_string)

theorem own : ownKnob Tryz.prog.godebug = none := by kernel_rfl
theorem laidOut : laidOutB Tryz.prog = true := by kernel_rfl

set_option maxRecDepth 100000

theorem g0 : Tryz.prog.globalNamed "loop.example/g00916/impl.keywords" = some 0 := by kernel_rfl
theorem t0 : (Tryz.prog.globals[0]?).map (·.type) = some 279 := by kernel_rfl

/-- What the row lists. -/
def laid1 : List (String × DataW Unit) := Rows.fnExactRunCodesRow.laid

theorem door_met (os : Os) (args : Array Value) : laidMetH Tryz.prog laid1 ((World.doorLaid Tryz.prog 400 os).forCall (fun _ _ => 0) ⟨#[], args, []⟩).memory :=
  laidMetH_of_parts3 (fuel := 8) (laidMet_of_run' 8 (by kernel_rfl) (by kernel_rfl)) (by kernel_rfl) (by kernel_rfl)

/-- The table lies in memory. -/
theorem of_laid {W : World} (h : laidMetH Tryz.prog laid1 W) : GlOk fun b => W.heap[b]? := by
  rw [MakeChecks.laidMetH_plain _ _ _ (by kernel_rfl)] at h
  obtain ⟨ps, ⟨g, t, cs, f, p, q, hg, ht, hv, hd, _, _⟩, _, _⟩ := h
  obtain rfl := Option.some.inj (g0.symm.trans hg)
  obtain rfl := Option.some.inj (t0.symm.trans ht)
  intro x hx
  have hx : x = ⟨0, 279, 9, .str, tab0⟩ := List.mem_singleton.1 hx
  subst hx
  have hb : ∃ T fz, W.heap[0]? = some (.cells cs T fz) := by
    simp only [World.var?, hg, Option.bind_some] at hv
    split at hv
    · rename_i cs' T fz hb; cases hv; exact ⟨T, fz, hb⟩
    · cases hv
  obtain ⟨T, fz, hb⟩ := hb
  refine ⟨by decide, cs, T, fz, hb, fun i y hy => ?_⟩
  simp only [Rep]
  exact strs_of_trod Tryz.underlying279 Tryz.underlying9 (by kernel_rfl) (tab := tab0) rfl hd i y hy

theorem calls (y0 : Int) (y1 : Int) (y2 : Int) (s3 : Value) (y3 : List (E (.pair (.int .i64) (.pair (.str) (.int .i64))))) (s4 : Value) (y4 : List (E (.pair (.int .i64) (.int .i64)))) (s5 : Value) (y5 : List (E (.sl 2 (.int .i64)))) (W : World) (hL : GlOk fun b => W.heap[b]?) (r3 : RepS (fun b => W.heap[b]?) (.pair (.int .i64) (.pair (.str) (.int .i64))) s3 y3) (w3 : wfD (.sl 175 (.pair (.int .i64) (.pair (.str) (.int .i64)))) y3) (r4 : RepS (fun b => W.heap[b]?) (.pair (.int .i64) (.int .i64)) s4 y4) (w4 : wfD (.sl 183 (.pair (.int .i64) (.int .i64))) y4) (r5 : RepS (fun b => W.heap[b]?) (.sl 2 (.int .i64)) s5 y5) (w5 : wfD (.sl 41 (.sl 2 (.int .i64))) y5) : Calls Tryz.prog 3 #[.agg ⟨[.int .i64 y0, .int .i64 y1, .int .i64 y2, s3, s4]⟩, s5] W fun e w' => e = .returned (.bool true) ∧ Below W.heap.size W w' := by
  have h := k14l y0 y1 y2 y3 y4 y5 w3 w4 w5
  have key := (kvr).law (w := W) (args := [.one ⟨true, [.val (.int .i64 y0), .val (.int .i64 y1), .val (.int .i64 y2), .ref 0, .ref 1]⟩, .one ⟨false, [.ref 2]⟩]) (es := [.row false 175 (.pair (.int .i64) (.pair (.str) (.int .i64))) y3, .row false 183 (.pair (.int .i64) (.int .i64)) y4, .row false 41 (.sl 2 (.int .i64)) y5]) (vs := [s3, s4, s5]) (av := #[.agg ⟨[.int .i64 y0, .int .i64 y1, .int .i64 y2, s3, s4]⟩, s5]) hL rfl rfl
    (by intro b hb; simp only [List.mem_cons, List.not_mem_nil, or_false] at hb; subst hb; exact h.2)
    (by
      intro i e he
      match i with
      | 0 => simp only [List.getElem?_cons_zero, List.getElem?_cons_succ, Option.some.injEq] at he; subst he; exact ⟨_, _, _, _, rfl, rfl, r3⟩
      | 1 => simp only [List.getElem?_cons_zero, List.getElem?_cons_succ, Option.some.injEq] at he; subst he; exact ⟨_, _, _, _, rfl, rfl, r4⟩
      | 2 => simp only [List.getElem?_cons_zero, List.getElem?_cons_succ, Option.some.injEq] at he; subst he; exact ⟨_, _, _, _, rfl, rfl, r5⟩
      | i + 3 => simp at he)
    rfl (by simp [SV.conc, V1.conc, Cell.conc, argNm_at (w := W) (vs := [s3, s4, s5]) (i := 0) (v := s3) rfl (RepS_slim r3), argNm_at (w := W) (vs := [s3, s4, s5]) (i := 1) (v := s4) rfl (RepS_slim r4), argNm_at (w := W) (vs := [s3, s4, s5]) (i := 2) (v := s5) rfl (RepS_slim r5)])
  rw [h.1] at key
  exact key

theorem lifted (os : Os) (started : os.Started) (H : Type) (enc : TypeId × Value → H) :
    ReturnsInHanded {} Tryz.checked os 3 .any (fun w args => (Rows.fnExactRunCodesSpec.pre enc Tryz.prog Tryz.f3 [] false w args ∧ laidMetH Tryz.prog laid1 w) ∧ sizedMet enc Tryz.prog Tryz.f3 (OpenSpec.ofChange Rows.fnExactRunCodesSpec) false w args)
      (Rows.fnExactRunCodesSpec.post enc Tryz.prog Tryz.f3 false true false false) := by
  refine returnsInHanded_of_change_and (C := Tryz.checked) (X := fun w _ => laidMetH Tryz.prog laid1 w) (fun _ _ _ hh h => h.of_heap hh) own started (by kernel_rfl) Tryz.func3
    (ChangeSpec.witness_shaped (enc := enc) (C := Tryz.checked) (os := os) (X := fun w _ => laidMetH Tryz.prog laid1 w) false (World.doorLaid Tryz.prog 400 os) #[.agg #[.int .i64 0, .int .i64 0, .int .i64 0, .slice none 0 0, .slice none 0 0], .slice none 0 0] 8 rfl (World.shaped_of_RefB (by kernel_rfl) (by kernel_rfl)) (by kernel_rfl) (by kernel_rfl) (by kernel_rfl) (door_met os _)) ?_
  intro W base args ds gs before hval0 hW _ _ hL _
  have hval : ∀ (j : Nat) t v, Tryz.f3.params[j]? = some t → args[j]? = some v → Value.okWide Tryz.prog W .any base t v := hval0
  have hW' := hW
  obtain ⟨p, q, hA0, hV, rfl, hfz, hnd⟩ := hW
  have hA : DataW.TrodAll enc Tryz.prog W 0 (fun _ => true) true Tryz.f3.params.toList args.toList ds p := hA0
  rw [Tryz.params3] at hA hval
  obtain ⟨v0, vs0, d0, ds0, p0, q0, hargs, rfl, rfl, h0, r0⟩ := trodAll_cons hA
  obtain ⟨v1, vs1, d1, ds1, p1, q1, rfl, rfl, rfl, h1, r1⟩ := trodAll_cons r0
  obtain ⟨rfl, rfl, rfl⟩ := trodAll_nil r1
  obtain rfl : args = #[v0, v1] := by cases args; simp_all
  have hV0 : DataW.TrodVars enc Tryz.prog W (fun _ => true) ["loop.example/g00916/impl.keywords"] gs q := hV
  obtain ⟨g, t, cs_, fuel_, d_, pp_, rfl, _⟩ := trodVars_one hV0
  have k0 := h0
  have lt0 : ∀ x ∈ p0, x.block < W.heap.size := by obtain ⟨m, hm⟩ := k0; exact DataW.trod_lt m _ _ _ hm
  obtain ⟨l0_, x0_, rfl, hx0_, wx0_⟩ := open_str (t := .pair (.int .i64) (.pair (.int .i64) (.pair (.int .i64) (.pair (.sl 175 (.pair (.int .i64) (.pair (.str) (.int .i64)))) (.sl 183 (.pair (.int .i64) (.int .i64))))))) Tryz.underlying25 (hval 0 25 v0 rfl rfl) h0 (n := 60) (by kernel_rfl)
  obtain ⟨y0, ⟨y1, ⟨y2, ⟨y3, y4⟩⟩⟩⟩ := x0_
  simp only [Rep] at hx0_
  obtain ⟨_, _, rfl, rfl, ⟨_, _, rfl, rfl, ⟨_, _, rfl, rfl, ⟨_, _, rfl, ⟨s3, rfl, r3⟩, ⟨s4, rfl, r4⟩⟩⟩⟩⟩ := hx0_
  simp only [wfD] at wx0_
  obtain ⟨w0, ⟨w1, ⟨w2, ⟨w3, w4⟩⟩⟩⟩ := wx0_
  have k1 := h1
  have lt1 : ∀ x ∈ p1, x.block < W.heap.size := by obtain ⟨m, hm⟩ := k1; exact DataW.trod_lt m _ _ _ hm
  obtain ⟨y5, hr5, hl5, hw5⟩ := open_sl (u := .sl 2 (.int .i64)) Tryz.underlying26 (hval 1 26 v1 rfl rfl) h1 (n := 60) (by kernel_rfl)
  clear hA0 hval0
  refine (calls y0 y1 y2 s3 y3 s4 y4 v1 y5 W (of_laid hL) r3 w3 r4 w4 hr5 ⟨hl5, hw5⟩).mono fun e W' ⟨he, bel⟩ => ?_
  subst he
  exact ⟨_, rfl, _, _, _, [], _, q, hW', trodAll_mk1 (shut_bool Tryz.underlying4 _), (trodAll_cons_mk (Below.trod laidOut (by kernel_rfl) (of_decide_eq_true (by kernel_rfl)) k0 bel lt0) (trodAll_cons_mk (Below.trod laidOut (by kernel_rfl) (of_decide_eq_true (by kernel_rfl)) k1 bel lt1) trodAll_mk0)), Below.trodVars laidOut bel (by kernel_rfl) hV0, bel.frame _, fun h => by cases h⟩

theorem c_wf : Rows.fnExactRunCodesRow.wf (OpenSpec.ofChange Rows.fnExactRunCodesSpec) = true := by kernel_rfl
theorem c_named : Tryz.pinned.checked.prog.funcNamed "loop.example/g00916/laws.FnExactRunCodes" = some 3 := by kernel_rfl
theorem f_1 : (Rows.fnExactRunCodesRow.inPlace == Tryz.pinned.checked.prog.inPlace 3) = true := by kernel_rfl
theorem f_2 : (Rows.fnExactRunCodesRow.unfollowed == Tryz.pinned.checked.prog.unfollowed 3) = true := by kernel_rfl
theorem f_3 : (Rows.fnExactRunCodesRow.recurses == Tryz.pinned.checked.prog.recurses 3) = true := by kernel_rfl
theorem f_4 : (Rows.fnExactRunCodesRow.named == Tryz.pinned.checked.prog.varsNamed 3) = true := by kernel_rfl
theorem f_5 : false = Rows.fnExactRunCodesRow.goesBy Tryz.pinned.checked.prog := by kernel_rfl
theorem f_6 : Rows.fnExactRunCodesRow.wfByText (OpenSpec.ofChange Rows.fnExactRunCodesSpec) = true := by kernel_rfl
theorem joined : joinedFacts Tryz.pinned.checked.prog 3 Tryz.f3 Rows.fnExactRunCodesSpec Rows.fnExactRunCodesRow = true := by
  unfold joinedFacts
  exact and_tt (and_tt (and_tt (and_tt (and_tt (and_tt (and_tt (and_tt (and_tt (and_tt (and_tt (and_tt (and_tt (and_tt (and_tt (and_tt (and_tt (and_tt (and_tt (and_tt (and_tt (and_tt (and_tt (and_tt (and_tt (and_tt (and_tt (and_tt (and_tt (and_tt (and_tt (c_wf) s_laid) s_maps) (by kernel_rfl)) (by kernel_rfl)) rfl) s_stops) rfl) s_knobs) f_1) f_2) f_3) f_4) (by kernel_rfl)) (by kernel_rfl)) (by kernel_rfl)) (by kernel_rfl)) (by kernel_rfl)) (by kernel_rfl)) (by kernel_rfl)) (by kernel_rfl)) (by kernel_rfl)) s_plain) rfl) s_heard) s_enter) s_lifts) s_make) (by kernel_rfl)) (by kernel_rfl)) (by kernel_rfl)) (by kernel_rfl)

theorem over : Rows.FnExactRunCodesSaid :=
  OpenClaim.holds_of_wide 3 Tryz.f3 rfl rfl rfl rfl rfl rfl rfl ⟨rfl, rfl, rfl, rfl, rfl⟩ rfl rfl rfl rfl rfl c_named Tryz.func3 joined
    (of_decide_eq_true (by kernel_rfl)) (by unfold Func.isWrapper; first | (rw [if_pos (by decide +kernel)]; kernel_rfl) | (rw [if_neg (by decide +kernel)]; exact ⟨rfl, rfl⟩))
    (fun os started H enc _ => lifted os started H enc)

theorem proved : Rows.FnExactRunCodesCardSaid :=
  Claim7.holds_tied_plain_at .later [] [.widerDeep] true (true, "f79fccba28510d3fd8a1799a94b92fd967d2a093064fe3e251c1ae45b3851032") false
    over (fun _ h => by cases h) f_6 (fun _ h => by cases h) fnExactRunCodes_row_tie rfl ⟨rfl, rfl⟩ s_main rfl
    (fun f fn hf hfn => by
      obtain rfl : f = 3 := Option.some.inj (c_named.symm.trans hf) |>.symm
      obtain rfl : fn = Tryz.f3 := (Option.some.inj (Tryz.func3.symm.trans hfn)).symm
      exact ⟨s_looks, fun j t ht => by
        rw [Tryz.params3] at ht
        match j with
          | 0 => simp at ht; subst ht; exact (show Tryz.prog.wantsStandIn 25 = false by kernel_rfl)
          | 1 => simp at ht; subst ht; exact (show Tryz.prog.wantsStandIn 26 = false by kernel_rfl)
          | j + 2 => simp at ht⟩)
    f_5
#print axioms proved
end Go.Proofs.YtbbfgoobcjlooaaGreatDoor.fnExactRunCodes

/- FnExactRunScan: for every input the law returns true, and each argument reads behind the call as it read before. -/
import Derived.Test.YtbbfgoobcjlooaaGreatDoorMd
import Derived.Test.YtbbfgoobcjlooaaGreatDoorRows
import Derived.Test.YtbbfgoobcjlooaaGreatDoorFf
import Derived.Test.YtbbfgoobcjlooaaGreatDoorTXi
import Derived.Test.YtbbfgoobcjlooaaGreatDoorCards
import Derived.Test.YtbbfgoobcjlooaaGreatDoorTie
import Derived.Test.YtbbfgoobcjlooaaGreatDoorTXj
import Derived.ShutString
import Derived.ChangeOld
import Derived.ProofKit
import Derived.OpenShut
import Derived.Stop.Joined
set_option linter.unusedSimpArgs false
set_option linter.unusedVariables false
namespace Go.Proofs.YtbbfgoobcjlooaaGreatDoor.fnExactRunScan
open Go.ChangeShapes Go.WideShapes Go.ChangeAt Go.RowKit Go.SX
open Go.ChangeMaps (open_string shut_string)

theorem own : ownKnob Tryz.prog.godebug = none := by kernel_rfl
theorem laidOut : laidOutB Tryz.prog = true := by kernel_rfl

set_option maxRecDepth 100000

theorem g0 : Tryz.prog.globalNamed "loop.example/g00916/impl.keywords" = some 0 := by kernel_rfl
theorem t0 : (Tryz.prog.globals[0]?).map (·.type) = some 279 := by kernel_rfl

/-- What the row lists. -/
def laid1 : List (String × DataW Unit) := Rows.fnExactRunScanRow.laid

theorem door_met (os : Os) (args : Array Value) : laidMetH Tryz.prog laid1 ((World.doorLaid Tryz.prog 400 os).forCall (fun _ _ => 0) ⟨#[], args, []⟩).memory :=
  laidMetH_of_parts3 (fuel := 8) (laidMet_of_run' 8 (by kernel_rfl) (by kernel_rfl)) (by kernel_rfl) (by kernel_rfl)

/-- The table lies in memory. -/
theorem of_laid {W : World} (h : laidMetH Tryz.prog laid1 W) : GlOk fun b => W.heap[b]? := by
  rw [MakeChecks.laidMetH_plain _ _ _ (by kernel_rfl)] at h
  obtain ⟨ps, ⟨g, t, cs, f, p, q, hg, ht, hv, hd, _, _⟩, _, _⟩ := h
  obtain rfl := Option.some.inj (g0.symm.trans hg)
  obtain rfl := Option.some.inj (t0.symm.trans ht)
  intro x hx
  have hx : x = ⟨0, 279, 9, .str, ZG⟩ := List.mem_singleton.1 hx
  subst hx
  have hb : ∃ T fz, W.heap[0]? = some (.cells cs T fz) := by
    simp only [World.var?, hg, Option.bind_some] at hv
    split at hv
    · rename_i cs' T fz hb; cases hv; exact ⟨T, fz, hb⟩
    · cases hv
  obtain ⟨T, fz, hb⟩ := hb
  refine ⟨by decide, cs, T, fz, hb, fun i y hy => ?_⟩
  simp only [Rep]
  exact ajD Tryz.underlying279 Tryz.underlying9 (by kernel_rfl) (tab := ZG) rfl hd i y hy

theorem calls (y0 : ByteArray) (s1 : Value) (y1 : List (E (.str))) (s2 : Value) (y2 : List (E (.str))) (s3 : Value) (y3 : List (E (.str))) (y4 : ByteArray) (s5 : Value) (y5 : List (E (.pair (.str) (.sl 175 (.pair (.int .i64) (.pair (.str) (.int .i64))))))) (s6 : Value) (y6 : List (E (.int .i64))) (s7 : Value) (y7 : List (E (.pair (.int .i64) (.pair (.int .i64) (.int .i64))))) (s8 : Value) (y8 : List (E (.int .i64))) (W : World) (hL : GlOk fun b => W.heap[b]?) (w0 : wfD .str y0) (r1 : Gr (fun b => W.heap[b]?) (.str) s1 y1) (w1 : wfD (.sl 9 (.str)) y1) (r2 : Gr (fun b => W.heap[b]?) (.str) s2 y2) (w2 : wfD (.sl 9 (.str)) y2) (r3 : Gr (fun b => W.heap[b]?) (.str) s3 y3) (w3 : wfD (.sl 9 (.str)) y3) (w4 : wfD .str y4) (r5 : Gr (fun b => W.heap[b]?) (.pair (.str) (.sl 175 (.pair (.int .i64) (.pair (.str) (.int .i64))))) s5 y5) (w5 : wfD (.sl 225 (.pair (.str) (.sl 175 (.pair (.int .i64) (.pair (.str) (.int .i64)))))) y5) (r6 : Gr (fun b => W.heap[b]?) (.int .i64) s6 y6) (w6 : wfD (.sl 2 (.int .i64)) y6) (r7 : Gr (fun b => W.heap[b]?) (.pair (.int .i64) (.pair (.int .i64) (.int .i64))) s7 y7) (w7 : wfD (.sl 194 (.pair (.int .i64) (.pair (.int .i64) (.int .i64)))) y7) (r8 : Gr (fun b => W.heap[b]?) (.int .i64) s8 y8) (w8 : wfD (.sl 2 (.int .i64)) y8) : Calls Tryz.prog 10 #[.agg ⟨[.string y0, s1, s2, s3, .string y4, s5]⟩, .agg ⟨[s6, s7]⟩, s8] W fun e w' => e = .returned (.bool true) ∧ Below W.heap.size W w' := by
  have h := akj y0 y1 y2 y3 y4 y5 y6 y7 y8 w0 w1 w2 w3 w4 w5 w6 w7 w8
  have jT := (Xz).law (w := W) (args := [.one ⟨true, [.val (.string y0), .ref 0, .ref 1, .ref 2, .val (.string y4), .ref 3]⟩, .one ⟨true, [.ref 4, .ref 5]⟩, .one ⟨false, [.ref 6]⟩]) (es := [.row false 9 (.str) y1, .row false 9 (.str) y2, .row false 9 (.str) y3, .row false 225 (.pair (.str) (.sl 175 (.pair (.int .i64) (.pair (.str) (.int .i64))))) y5, .row false 2 (.int .i64) y6, .row false 194 (.pair (.int .i64) (.pair (.int .i64) (.int .i64))) y7, .row false 2 (.int .i64) y8]) (vs := [s1, s2, s3, s5, s6, s7, s8]) (av := #[.agg ⟨[.string y0, s1, s2, s3, .string y4, s5]⟩, .agg ⟨[s6, s7]⟩, s8]) hL rfl rfl
    (by intro b hb; simp only [List.mem_cons, List.not_mem_nil, or_false] at hb; subst hb; exact h.2)
    (by
      intro i e he
      match i with
      | 0 => simp only [List.getElem?_cons_zero, List.getElem?_cons_succ, Option.some.injEq] at he; subst he; exact ⟨_, _, _, _, rfl, rfl, r1⟩
      | 1 => simp only [List.getElem?_cons_zero, List.getElem?_cons_succ, Option.some.injEq] at he; subst he; exact ⟨_, _, _, _, rfl, rfl, r2⟩
      | 2 => simp only [List.getElem?_cons_zero, List.getElem?_cons_succ, Option.some.injEq] at he; subst he; exact ⟨_, _, _, _, rfl, rfl, r3⟩
      | 3 => simp only [List.getElem?_cons_zero, List.getElem?_cons_succ, Option.some.injEq] at he; subst he; exact ⟨_, _, _, _, rfl, rfl, r5⟩
      | 4 => simp only [List.getElem?_cons_zero, List.getElem?_cons_succ, Option.some.injEq] at he; subst he; exact ⟨_, _, _, _, rfl, rfl, r6⟩
      | 5 => simp only [List.getElem?_cons_zero, List.getElem?_cons_succ, Option.some.injEq] at he; subst he; exact ⟨_, _, _, _, rfl, rfl, r7⟩
      | 6 => simp only [List.getElem?_cons_zero, List.getElem?_cons_succ, Option.some.injEq] at he; subst he; exact ⟨_, _, _, _, rfl, rfl, r8⟩
      | i + 7 => simp at he)
    rfl (by simp [SV.conc, V1.conc, Cell.conc, PQ (w := W) (vs := [s1, s2, s3, s5, s6, s7, s8]) (i := 0) (v := s1) rfl (CV r1), PQ (w := W) (vs := [s1, s2, s3, s5, s6, s7, s8]) (i := 1) (v := s2) rfl (CV r2), PQ (w := W) (vs := [s1, s2, s3, s5, s6, s7, s8]) (i := 2) (v := s3) rfl (CV r3), PQ (w := W) (vs := [s1, s2, s3, s5, s6, s7, s8]) (i := 3) (v := s5) rfl (CV r5), PQ (w := W) (vs := [s1, s2, s3, s5, s6, s7, s8]) (i := 4) (v := s6) rfl (CV r6), PQ (w := W) (vs := [s1, s2, s3, s5, s6, s7, s8]) (i := 5) (v := s7) rfl (CV r7), PQ (w := W) (vs := [s1, s2, s3, s5, s6, s7, s8]) (i := 6) (v := s8) rfl (CV r8)])
  rw [h.1] at jT
  exact jT

theorem lifted (os : Os) (started : os.Started) (H : Type) (enc : TypeId × Value → H) :
    ReturnsInHanded {} Tryz.checked os 10 .any (fun w args => (Rows.fnExactRunScanSpec.pre enc Tryz.prog Tryz.f10 [] false w args ∧ laidMetH Tryz.prog laid1 w) ∧ sizedMet enc Tryz.prog Tryz.f10 (OpenSpec.ofChange Rows.fnExactRunScanSpec) false w args)
      (Rows.fnExactRunScanSpec.post enc Tryz.prog Tryz.f10 false true false false) := by
  refine returnsInHanded_of_change_and (C := Tryz.checked) (X := fun w _ => laidMetH Tryz.prog laid1 w) (fun _ _ _ hh h => h.of_heap hh) own started (by kernel_rfl) Tryz.func10
    (ChangeSpec.witness_shaped (enc := enc) (C := Tryz.checked) (os := os) (X := fun w _ => laidMetH Tryz.prog laid1 w) false (World.doorLaid Tryz.prog 400 os) #[.agg #[.string ⟨#[]⟩, .slice none 0 0, .slice none 0 0, .slice none 0 0, .string ⟨#[]⟩, .slice none 0 0], .agg #[.slice none 0 0, .slice none 0 0], .slice none 0 0] 8 rfl (World.shaped_of_RefB (by kernel_rfl) (by kernel_rfl)) (by kernel_rfl) (by kernel_rfl) (by kernel_rfl) (door_met os _)) ?_
  intro W base args ds gs before hval0 hW _ _ hL _
  have hval : ∀ (j : Nat) t v, Tryz.f10.params[j]? = some t → args[j]? = some v → Value.okWide Tryz.prog W .any base t v := hval0
  have hW' := hW
  obtain ⟨p, q, hA0, hV, rfl, hfz, da⟩ := hW
  have hA : DataW.TrodAll enc Tryz.prog W 0 (fun _ => true) true Tryz.f10.params.toList args.toList ds p := hA0
  rw [Tryz.params10] at hA hval
  obtain ⟨v0, vs0, d0, ds0, p0, q0, Dn, rfl, rfl, h0, r0⟩ := trodAll_cons hA
  obtain ⟨v1, vs1, d1, ds1, p1, q1, rfl, rfl, rfl, h1, r1⟩ := trodAll_cons r0
  obtain ⟨v2, vs2, d2, ds2, p2, q2, rfl, rfl, rfl, h2, r2⟩ := trodAll_cons r1
  obtain ⟨rfl, rfl, rfl⟩ := trodAll_nil r2
  obtain rfl : args = #[v0, v1, v2] := by cases args; simp_all
  have hV0 : DataW.TrodVars enc Tryz.prog W (fun _ => true) ["loop.example/g00916/impl.keywords"] gs q := hV
  obtain ⟨g, t, cs_, fuel_, d_, pp_, rfl, _⟩ := trodVars_one hV0
  have k0 := h0
  have lt0 : ∀ x ∈ p0, x.block < W.heap.size := by obtain ⟨m, hm⟩ := k0; exact DataW.trod_lt m _ _ _ hm
  obtain ⟨l0_, x0_, rfl, hx0_, wx0_⟩ := akv (t := .pair (.str) (.pair (.sl 9 (.str)) (.pair (.sl 9 (.str)) (.pair (.sl 9 (.str)) (.pair (.str) (.sl 225 (.pair (.str) (.sl 175 (.pair (.int .i64) (.pair (.str) (.int .i64))))))))))) Tryz.underlying86 (hval 0 86 v0 rfl rfl) h0 (n := 60) (by kernel_rfl)
  obtain ⟨y0, ⟨y1, ⟨y2, ⟨y3, ⟨y4, y5⟩⟩⟩⟩⟩ := x0_
  simp only [Rep] at hx0_
  obtain ⟨_, _, rfl, rfl, ⟨_, _, rfl, ⟨s1, rfl, r1⟩, ⟨_, _, rfl, ⟨s2, rfl, r2⟩, ⟨_, _, rfl, ⟨s3, rfl, r3⟩, ⟨_, _, rfl, rfl, ⟨s5, rfl, r5⟩⟩⟩⟩⟩⟩ := hx0_
  simp only [wfD] at wx0_
  obtain ⟨w0, ⟨w1, ⟨w2, ⟨w3, ⟨w4, w5⟩⟩⟩⟩⟩ := wx0_
  have k1 := h1
  have lt1 : ∀ x ∈ p1, x.block < W.heap.size := by obtain ⟨m, hm⟩ := k1; exact DataW.trod_lt m _ _ _ hm
  obtain ⟨l1_, x1_, rfl, hx1_, wx1_⟩ := akv (t := .pair (.sl 2 (.int .i64)) (.sl 194 (.pair (.int .i64) (.pair (.int .i64) (.int .i64))))) Tryz.underlying44 (hval 1 44 v1 rfl rfl) h1 (n := 60) (by kernel_rfl)
  obtain ⟨y6, y7⟩ := x1_
  simp only [Rep] at hx1_
  obtain ⟨_, _, rfl, ⟨s6, rfl, r6⟩, ⟨s7, rfl, r7⟩⟩ := hx1_
  simp only [wfD] at wx1_
  obtain ⟨w6, w7⟩ := wx1_
  have k2 := h2
  have lt2 : ∀ x ∈ p2, x.block < W.heap.size := by obtain ⟨m, hm⟩ := k2; exact DataW.trod_lt m _ _ _ hm
  obtain ⟨y8, hr8, hl8, hw8⟩ := aom (u := .int .i64) Tryz.underlying41 (hval 2 41 v2 rfl rfl) h2 (n := 60) (by kernel_rfl)
  clear hA0 hval0
  refine (calls y0 s1 y1 s2 y2 s3 y3 y4 s5 y5 s6 y6 s7 y7 v2 y8 W (of_laid hL) w0 r1 w1 r2 w2 r3 w3 w4 r5 w5 r6 w6 r7 w7 hr8 ⟨hl8, hw8⟩).mono fun e W' ⟨he, bel⟩ => ?_
  subst he
  exact ⟨_, rfl, _, _, _, [], _, q, hW', trodAll_mk1 (shut_bool Tryz.underlying4 _), (trodAll_cons_mk (Below.trod laidOut (by kernel_rfl) (of_decide_eq_true (by kernel_rfl)) k0 bel lt0) (trodAll_cons_mk (Below.trod laidOut (by kernel_rfl) (of_decide_eq_true (by kernel_rfl)) k1 bel lt1) (trodAll_cons_mk (Below.trod laidOut (by kernel_rfl) (of_decide_eq_true (by kernel_rfl)) k2 bel lt2) trodAll_mk0))), Below.trodVars laidOut bel (by kernel_rfl) hV0, bel.frame _, fun h => by cases h⟩

theorem c_wf : Rows.fnExactRunScanRow.wf (OpenSpec.ofChange Rows.fnExactRunScanSpec) = true := by kernel_rfl
theorem c_named : Tryz.pinned.checked.prog.funcNamed "loop.example/g00916/laws.FnExactRunScan" = some 10 := by kernel_rfl
theorem f_1 : (Rows.fnExactRunScanRow.inPlace == Tryz.pinned.checked.prog.inPlace 10) = true := by kernel_rfl
theorem f_2 : (Rows.fnExactRunScanRow.unfollowed == Tryz.pinned.checked.prog.unfollowed 10) = true := by kernel_rfl
theorem f_3 : (Rows.fnExactRunScanRow.recurses == Tryz.pinned.checked.prog.recurses 10) = true := by kernel_rfl
theorem f_4 : (Rows.fnExactRunScanRow.named == Tryz.pinned.checked.prog.varsNamed 10) = true := by kernel_rfl
theorem f_5 : false = Rows.fnExactRunScanRow.goesBy Tryz.pinned.checked.prog := by kernel_rfl
theorem f_6 : Rows.fnExactRunScanRow.wfByText (OpenSpec.ofChange Rows.fnExactRunScanSpec) = true := by kernel_rfl
theorem joined : joinedFacts Tryz.pinned.checked.prog 10 Tryz.f10 Rows.fnExactRunScanSpec Rows.fnExactRunScanRow = true := by
  unfold joinedFacts
  exact and_tt (and_tt (and_tt (and_tt (and_tt (and_tt (and_tt (and_tt (and_tt (and_tt (and_tt (and_tt (and_tt (and_tt (and_tt (and_tt (and_tt (and_tt (and_tt (and_tt (and_tt (and_tt (and_tt (and_tt (and_tt (and_tt (and_tt (and_tt (and_tt (and_tt (and_tt (c_wf) s_laid) s_maps) (by kernel_rfl)) (by kernel_rfl)) rfl) s_stops) rfl) s_knobs) f_1) f_2) f_3) f_4) (by kernel_rfl)) (by kernel_rfl)) (by kernel_rfl)) (by kernel_rfl)) (by kernel_rfl)) (by kernel_rfl)) (by kernel_rfl)) (by kernel_rfl)) (by kernel_rfl)) s_plain) rfl) s_heard) s_enter) s_lifts) s_make) (by kernel_rfl)) (by kernel_rfl)) (by kernel_rfl)) (by kernel_rfl)

theorem over : Rows.FnExactRunScanSaid :=
  OpenClaim.holds_of_wide 10 Tryz.f10 rfl rfl rfl rfl rfl rfl rfl ⟨rfl, rfl, rfl, rfl, rfl⟩ rfl rfl rfl rfl rfl c_named Tryz.func10 joined
    (of_decide_eq_true (by kernel_rfl)) (by unfold Func.isWrapper; first | (rw [if_pos (by decide +kernel)]; kernel_rfl) | (rw [if_neg (by decide +kernel)]; exact ⟨rfl, rfl⟩))
    (fun os started H enc _ => lifted os started H enc)

theorem proved : Rows.FnExactRunScanCardSaid :=
  Claim7.holds_tied_plain_at .later [] [.widerDeep] true (true, "f79fccba28510d3fd8a1799a94b92fd967d2a093064fe3e251c1ae45b3851032") false
    over (fun _ h => by cases h) f_6 (fun _ h => by cases h) fnExactRunScan_row_tie rfl ⟨rfl, rfl⟩ s_main rfl
    (fun f fn hf hfn => by
      obtain rfl : f = 10 := Option.some.inj (c_named.symm.trans hf) |>.symm
      obtain rfl : fn = Tryz.f10 := (Option.some.inj (Tryz.func10.symm.trans hfn)).symm
      exact ⟨s_looks, fun j t ht => by
        rw [Tryz.params10] at ht
        match j with
          | 0 => simp at ht; subst ht; exact (show Tryz.prog.wantsStandIn 86 = false by kernel_rfl)
          | 1 => simp at ht; subst ht; exact (show Tryz.prog.wantsStandIn 44 = false by kernel_rfl)
          | 2 => simp at ht; subst ht; exact (show Tryz.prog.wantsStandIn 41 = false by kernel_rfl)
          | j + 3 => simp at ht⟩)
    f_5
#print axioms proved
end Go.Proofs.YtbbfgoobcjlooaaGreatDoor.fnExactRunScan

/- FnExactRunScans: for every input the law returns true, and each argument reads behind the call as it read before. -/
import Derived.Test.YtbbfgoobcjlooaaGreatDoorMd
import Derived.Test.YtbbfgoobcjlooaaGreatDoorRows
import Derived.Test.YtbbfgoobcjlooaaGreatDoorFf
import Derived.Test.YtbbfgoobcjlooaaGreatDoorTXi
import Derived.Test.YtbbfgoobcjlooaaGreatDoorCards
import Derived.Test.YtbbfgoobcjlooaaGreatDoorTie
import Derived.Test.YtbbfgoobcjlooaaGreatDoorTXj
import Derived.ShutString
import Derived.ChangeOld
import Derived.ProofKit
import Derived.OpenShut
import Derived.Stop.Joined
set_option linter.unusedSimpArgs false
set_option linter.unusedVariables false
namespace Go.Proofs.YtbbfgoobcjlooaaGreatDoor.fnExactRunScans
open Go.ChangeShapes Go.WideShapes Go.ChangeAt Go.RowKit Go.SX
open Go.ChangeMaps (open_string shut_string)

theorem own : ownKnob Tryz.prog.godebug = none := by kernel_rfl
theorem laidOut : laidOutB Tryz.prog = true := by kernel_rfl

set_option maxRecDepth 100000

theorem g0 : Tryz.prog.globalNamed "loop.example/g00916/impl.keywords" = some 0 := by kernel_rfl
theorem t0 : (Tryz.prog.globals[0]?).map (·.type) = some 279 := by kernel_rfl

/-- What the row lists. -/
def laid1 : List (String × DataW Unit) := Rows.fnExactRunScansRow.laid

theorem door_met (os : Os) (args : Array Value) : laidMetH Tryz.prog laid1 ((World.doorLaid Tryz.prog 400 os).forCall (fun _ _ => 0) ⟨#[], args, []⟩).memory :=
  laidMetH_of_parts3 (fuel := 8) (laidMet_of_run' 8 (by kernel_rfl) (by kernel_rfl)) (by kernel_rfl) (by kernel_rfl)

/-- The table lies in memory. -/
theorem of_laid {W : World} (h : laidMetH Tryz.prog laid1 W) : GlOk fun b => W.heap[b]? := by
  rw [MakeChecks.laidMetH_plain _ _ _ (by kernel_rfl)] at h
  obtain ⟨ps, ⟨g, t, cs, f, p, q, hg, ht, hv, hd, _, _⟩, _, _⟩ := h
  obtain rfl := Option.some.inj (g0.symm.trans hg)
  obtain rfl := Option.some.inj (t0.symm.trans ht)
  intro x hx
  have hx : x = ⟨0, 279, 9, .str, aae⟩ := List.mem_singleton.1 hx
  subst hx
  have hb : ∃ T fz, W.heap[0]? = some (.cells cs T fz) := by
    simp only [World.var?, hg, Option.bind_some] at hv
    split at hv
    · rename_i cs' T fz hb; cases hv; exact ⟨T, fz, hb⟩
    · cases hv
  obtain ⟨T, fz, hb⟩ := hb
  refine ⟨by decide, cs, T, fz, hb, fun i y hy => ?_⟩
  simp only [Rep]
  exact akn Tryz.underlying279 Tryz.underlying9 (by kernel_rfl) (tab := aae) rfl hd i y hy

theorem calls (y0 : ByteArray) (s1 : Value) (y1 : List (E (.str))) (s2 : Value) (y2 : List (E (.str))) (s3 : Value) (y3 : List (E (.str))) (y4 : ByteArray) (s5 : Value) (y5 : List (E (.pair (.str) (.sl 175 (.pair (.int .i64) (.pair (.str) (.int .i64))))))) (s6 : Value) (y6 : List (E (.sl 2 (.int .i64)))) (W : World) (hL : GlOk fun b => W.heap[b]?) (w0 : wfD .str y0) (r1 : HL (fun b => W.heap[b]?) (.str) s1 y1) (w1 : wfD (.sl 9 (.str)) y1) (r2 : HL (fun b => W.heap[b]?) (.str) s2 y2) (w2 : wfD (.sl 9 (.str)) y2) (r3 : HL (fun b => W.heap[b]?) (.str) s3 y3) (w3 : wfD (.sl 9 (.str)) y3) (w4 : wfD .str y4) (r5 : HL (fun b => W.heap[b]?) (.pair (.str) (.sl 175 (.pair (.int .i64) (.pair (.str) (.int .i64))))) s5 y5) (w5 : wfD (.sl 225 (.pair (.str) (.sl 175 (.pair (.int .i64) (.pair (.str) (.int .i64)))))) y5) (r6 : HL (fun b => W.heap[b]?) (.sl 2 (.int .i64)) s6 y6) (w6 : wfD (.sl 41 (.sl 2 (.int .i64))) y6) : Calls Tryz.prog 9 #[.agg ⟨[.string y0, s1, s2, s3, .string y4, s5]⟩, s6] W fun e w' => e = .returned (.bool true) ∧ Below W.heap.size W w' := by
  have h := aj4 y0 y1 y2 y3 y4 y5 y6 w0 w1 w2 w3 w4 w5 w6
  have iY := (Wm).law (w := W) (args := [.one ⟨true, [.val (.string y0), .ref 0, .ref 1, .ref 2, .val (.string y4), .ref 3]⟩, .one ⟨false, [.ref 4]⟩]) (es := [.row false 9 (.str) y1, .row false 9 (.str) y2, .row false 9 (.str) y3, .row false 225 (.pair (.str) (.sl 175 (.pair (.int .i64) (.pair (.str) (.int .i64))))) y5, .row false 41 (.sl 2 (.int .i64)) y6]) (vs := [s1, s2, s3, s5, s6]) (av := #[.agg ⟨[.string y0, s1, s2, s3, .string y4, s5]⟩, s6]) hL rfl rfl
    (by intro b hb; simp only [List.mem_cons, List.not_mem_nil, or_false] at hb; subst hb; exact h.2)
    (by
      intro i e he
      match i with
      | 0 => simp only [List.getElem?_cons_zero, List.getElem?_cons_succ, Option.some.injEq] at he; subst he; exact ⟨_, _, _, _, rfl, rfl, r1⟩
      | 1 => simp only [List.getElem?_cons_zero, List.getElem?_cons_succ, Option.some.injEq] at he; subst he; exact ⟨_, _, _, _, rfl, rfl, r2⟩
      | 2 => simp only [List.getElem?_cons_zero, List.getElem?_cons_succ, Option.some.injEq] at he; subst he; exact ⟨_, _, _, _, rfl, rfl, r3⟩
      | 3 => simp only [List.getElem?_cons_zero, List.getElem?_cons_succ, Option.some.injEq] at he; subst he; exact ⟨_, _, _, _, rfl, rfl, r5⟩
      | 4 => simp only [List.getElem?_cons_zero, List.getElem?_cons_succ, Option.some.injEq] at he; subst he; exact ⟨_, _, _, _, rfl, rfl, r6⟩
      | i + 5 => simp at he)
    rfl (by simp [SV.conc, V1.conc, Cell.conc, UQ (w := W) (vs := [s1, s2, s3, s5, s6]) (i := 0) (v := s1) rfl (HB r1), UQ (w := W) (vs := [s1, s2, s3, s5, s6]) (i := 1) (v := s2) rfl (HB r2), UQ (w := W) (vs := [s1, s2, s3, s5, s6]) (i := 2) (v := s3) rfl (HB r3), UQ (w := W) (vs := [s1, s2, s3, s5, s6]) (i := 3) (v := s5) rfl (HB r5), UQ (w := W) (vs := [s1, s2, s3, s5, s6]) (i := 4) (v := s6) rfl (HB r6)])
  rw [h.1] at iY
  exact iY

theorem lifted (os : Os) (started : os.Started) (H : Type) (enc : TypeId × Value → H) :
    ReturnsInHanded {} Tryz.checked os 9 .any (fun w args => (Rows.fnExactRunScansSpec.pre enc Tryz.prog Tryz.f9 [] false w args ∧ laidMetH Tryz.prog laid1 w) ∧ sizedMet enc Tryz.prog Tryz.f9 (OpenSpec.ofChange Rows.fnExactRunScansSpec) false w args)
      (Rows.fnExactRunScansSpec.post enc Tryz.prog Tryz.f9 false true false false) := by
  refine returnsInHanded_of_change_and (C := Tryz.checked) (X := fun w _ => laidMetH Tryz.prog laid1 w) (fun _ _ _ hh h => h.of_heap hh) own started (by kernel_rfl) Tryz.func9
    (ChangeSpec.witness_shaped (enc := enc) (C := Tryz.checked) (os := os) (X := fun w _ => laidMetH Tryz.prog laid1 w) false (World.doorLaid Tryz.prog 400 os) #[.agg #[.string ⟨#[]⟩, .slice none 0 0, .slice none 0 0, .slice none 0 0, .string ⟨#[]⟩, .slice none 0 0], .slice none 0 0] 8 rfl (World.shaped_of_RefB (by kernel_rfl) (by kernel_rfl)) (by kernel_rfl) (by kernel_rfl) (by kernel_rfl) (door_met os _)) ?_
  intro W base args ds gs before hval0 hW _ _ hL _
  have hval : ∀ (j : Nat) t v, Tryz.f9.params[j]? = some t → args[j]? = some v → Value.okWide Tryz.prog W .any base t v := hval0
  have hW' := hW
  obtain ⟨p, q, hA0, hV, rfl, hfz, cE⟩ := hW
  have hA : DataW.TrodAll enc Tryz.prog W 0 (fun _ => true) true Tryz.f9.params.toList args.toList ds p := hA0
  rw [Tryz.params9] at hA hval
  obtain ⟨v0, vs0, d0, ds0, p0, q0, Dd, rfl, rfl, h0, r0⟩ := trodAll_cons hA
  obtain ⟨v1, vs1, d1, ds1, p1, q1, rfl, rfl, rfl, h1, r1⟩ := trodAll_cons r0
  obtain ⟨rfl, rfl, rfl⟩ := trodAll_nil r1
  obtain rfl : args = #[v0, v1] := by cases args; simp_all
  have hV0 : DataW.TrodVars enc Tryz.prog W (fun _ => true) ["loop.example/g00916/impl.keywords"] gs q := hV
  obtain ⟨g, t, cs_, fuel_, d_, pp_, rfl, _⟩ := trodVars_one hV0
  have k0 := h0
  have lt0 : ∀ x ∈ p0, x.block < W.heap.size := by obtain ⟨m, hm⟩ := k0; exact DataW.trod_lt m _ _ _ hm
  obtain ⟨l0_, x0_, rfl, hx0_, wx0_⟩ := aoD (t := .pair (.str) (.pair (.sl 9 (.str)) (.pair (.sl 9 (.str)) (.pair (.sl 9 (.str)) (.pair (.str) (.sl 225 (.pair (.str) (.sl 175 (.pair (.int .i64) (.pair (.str) (.int .i64))))))))))) Tryz.underlying86 (hval 0 86 v0 rfl rfl) h0 (n := 60) (by kernel_rfl)
  obtain ⟨y0, ⟨y1, ⟨y2, ⟨y3, ⟨y4, y5⟩⟩⟩⟩⟩ := x0_
  simp only [Rep] at hx0_
  obtain ⟨_, _, rfl, rfl, ⟨_, _, rfl, ⟨s1, rfl, r1⟩, ⟨_, _, rfl, ⟨s2, rfl, r2⟩, ⟨_, _, rfl, ⟨s3, rfl, r3⟩, ⟨_, _, rfl, rfl, ⟨s5, rfl, r5⟩⟩⟩⟩⟩⟩ := hx0_
  simp only [wfD] at wx0_
  obtain ⟨w0, ⟨w1, ⟨w2, ⟨w3, ⟨w4, w5⟩⟩⟩⟩⟩ := wx0_
  have k1 := h1
  have lt1 : ∀ x ∈ p1, x.block < W.heap.size := by obtain ⟨m, hm⟩ := k1; exact DataW.trod_lt m _ _ _ hm
  obtain ⟨y6, hr6, hl6, hw6⟩ := apb (u := .sl 2 (.int .i64)) Tryz.underlying26 (hval 1 26 v1 rfl rfl) h1 (n := 60) (by kernel_rfl)
  clear hA0 hval0
  refine (calls y0 s1 y1 s2 y2 s3 y3 y4 s5 y5 v1 y6 W (of_laid hL) w0 r1 w1 r2 w2 r3 w3 w4 r5 w5 hr6 ⟨hl6, hw6⟩).mono fun e W' ⟨he, bel⟩ => ?_
  subst he
  exact ⟨_, rfl, _, _, _, [], _, q, hW', trodAll_mk1 (shut_bool Tryz.underlying4 _), (trodAll_cons_mk (Below.trod laidOut (by kernel_rfl) (of_decide_eq_true (by kernel_rfl)) k0 bel lt0) (trodAll_cons_mk (Below.trod laidOut (by kernel_rfl) (of_decide_eq_true (by kernel_rfl)) k1 bel lt1) trodAll_mk0)), Below.trodVars laidOut bel (by kernel_rfl) hV0, bel.frame _, fun h => by cases h⟩

theorem c_wf : Rows.fnExactRunScansRow.wf (OpenSpec.ofChange Rows.fnExactRunScansSpec) = true := by kernel_rfl
theorem c_named : Tryz.pinned.checked.prog.funcNamed "loop.example/g00916/laws.FnExactRunScans" = some 9 := by kernel_rfl
theorem f_1 : (Rows.fnExactRunScansRow.inPlace == Tryz.pinned.checked.prog.inPlace 9) = true := by kernel_rfl
theorem f_2 : (Rows.fnExactRunScansRow.unfollowed == Tryz.pinned.checked.prog.unfollowed 9) = true := by kernel_rfl
theorem f_3 : (Rows.fnExactRunScansRow.recurses == Tryz.pinned.checked.prog.recurses 9) = true := by kernel_rfl
theorem f_4 : (Rows.fnExactRunScansRow.named == Tryz.pinned.checked.prog.varsNamed 9) = true := by kernel_rfl
theorem f_5 : false = Rows.fnExactRunScansRow.goesBy Tryz.pinned.checked.prog := by kernel_rfl
theorem f_6 : Rows.fnExactRunScansRow.wfByText (OpenSpec.ofChange Rows.fnExactRunScansSpec) = true := by kernel_rfl
theorem joined : joinedFacts Tryz.pinned.checked.prog 9 Tryz.f9 Rows.fnExactRunScansSpec Rows.fnExactRunScansRow = true := by
  unfold joinedFacts
  exact and_tt (and_tt (and_tt (and_tt (and_tt (and_tt (and_tt (and_tt (and_tt (and_tt (and_tt (and_tt (and_tt (and_tt (and_tt (and_tt (and_tt (and_tt (and_tt (and_tt (and_tt (and_tt (and_tt (and_tt (and_tt (and_tt (and_tt (and_tt (and_tt (and_tt (and_tt (c_wf) s_laid) s_maps) (by kernel_rfl)) (by kernel_rfl)) rfl) s_stops) rfl) s_knobs) f_1) f_2) f_3) f_4) (by kernel_rfl)) (by kernel_rfl)) (by kernel_rfl)) (by kernel_rfl)) (by kernel_rfl)) (by kernel_rfl)) (by kernel_rfl)) (by kernel_rfl)) (by kernel_rfl)) s_plain) rfl) s_heard) s_enter) s_lifts) s_make) (by kernel_rfl)) (by kernel_rfl)) (by kernel_rfl)) (by kernel_rfl)

theorem over : Rows.FnExactRunScansSaid :=
  OpenClaim.holds_of_wide 9 Tryz.f9 rfl rfl rfl rfl rfl rfl rfl ⟨rfl, rfl, rfl, rfl, rfl⟩ rfl rfl rfl rfl rfl c_named Tryz.func9 joined
    (of_decide_eq_true (by kernel_rfl)) (by unfold Func.isWrapper; first | (rw [if_pos (by decide +kernel)]; kernel_rfl) | (rw [if_neg (by decide +kernel)]; exact ⟨rfl, rfl⟩))
    (fun os started H enc _ => lifted os started H enc)

theorem proved : Rows.FnExactRunScansCardSaid :=
  Claim7.holds_tied_plain_at .later [] [.widerDeep] true (true, "f79fccba28510d3fd8a1799a94b92fd967d2a093064fe3e251c1ae45b3851032") false
    over (fun _ h => by cases h) f_6 (fun _ h => by cases h) fnExactRunScans_row_tie rfl ⟨rfl, rfl⟩ s_main rfl
    (fun f fn hf hfn => by
      obtain rfl : f = 9 := Option.some.inj (c_named.symm.trans hf) |>.symm
      obtain rfl : fn = Tryz.f9 := (Option.some.inj (Tryz.func9.symm.trans hfn)).symm
      exact ⟨s_looks, fun j t ht => by
        rw [Tryz.params9] at ht
        match j with
          | 0 => simp at ht; subst ht; exact (show Tryz.prog.wantsStandIn 86 = false by kernel_rfl)
          | 1 => simp at ht; subst ht; exact (show Tryz.prog.wantsStandIn 26 = false by kernel_rfl)
          | j + 2 => simp at ht⟩)
    f_5
#print axioms proved
end Go.Proofs.YtbbfgoobcjlooaaGreatDoor.fnExactRunScans

/- FnExactStartMachine: for every input the law returns true, and each argument reads behind the call as it read before. -/
import Derived.Test.YtepaifhehlpbaaaDoorRows
import Derived.Test.YtepaifhehlpbaaaDoorLd
import Derived.Test.YtepaifhehlpbaaaDoorTXi
import Derived.Test.YtepaifhehlpbaaaDoorCards
import Derived.Test.YtepaifhehlpbaaaDoorTie
import Derived.Test.YtepaifhehlpbaaaDoorTXj
import Derived.ShutString
import Derived.ChangeOld
import Derived.ProofKit
import Derived.OpenShut
import Derived.Stop.Joined
namespace Go.Proofs.YtepaifhehlpbaaaDoor.fnExactStartMachine
open Go.ChangeShapes Go.WideShapes Go.ChangeAt Go.RowKit Go.SX
open Go.ChangeMaps (open_string shut_string)

theorem own : ownKnob Tryd.prog.godebug = none := by kernel_rfl
theorem laidOut : laidOutB Tryd.prog = true := by kernel_rfl

set_option maxRecDepth 100000

theorem g0 : Tryd.prog.globalNamed "loop.example/g00916/impl.keywords" = some 0 := by kernel_rfl
theorem t0 : (Tryd.prog.globals[0]?).map (·.type) = some 138 := by kernel_rfl

/-- What the row lists. -/
def laid1 : List (String × DataW Unit) := Rows.fnExactStartMachineRow.laid

theorem door_met (os : Os) (args : Array Value) : laidMetH Tryd.prog laid1 ((World.doorLaid Tryd.prog 400 os).forCall (fun _ _ => 0) ⟨#[], args, []⟩).memory :=
  laidMetH_of_parts3 (fuel := 8) (laidMet_of_run' 8 (by kernel_rfl) (by kernel_rfl)) (by kernel_rfl) (by kernel_rfl)

/-- The table lies in memory. -/
theorem of_laid {W : World} (h : laidMetH Tryd.prog laid1 W) : GlOk fun b => W.heap[b]? := by
  rw [MakeChecks.laidMetH_plain _ _ _ (by kernel_rfl)] at h
  obtain ⟨ps, ⟨g, t, cs, f, p, q, hg, ht, hv, hd, _, _⟩, _, _⟩ := h
  obtain rfl := Option.some.inj (g0.symm.trans hg)
  obtain rfl := Option.some.inj (t0.symm.trans ht)
  intro x hx
  have hx : x = ⟨0, 138, 9, .str, tab0⟩ := List.mem_singleton.1 hx
  subst hx
  have hb : ∃ T fz, W.heap[0]? = some (.cells cs T fz) := by
    simp only [World.var?, hg, Option.bind_some] at hv
    split at hv
    · rename_i cs' T fz hb; cases hv; exact ⟨T, fz, hb⟩
    · cases hv
  obtain ⟨T, fz, hb⟩ := hb
  refine ⟨by decide, cs, T, fz, hb, fun i y hy => ?_⟩
  simp only [Rep]
  exact strs_of_trod Tryd.underlying138 Tryd.underlying9 (by kernel_rfl) (tab := tab0) rfl hd i y hy

theorem calls (y0 : Int) (y1 : Int) (y2 : Int) (s3 : Value) (y3 : List (E (.pair (.int .i64) (.pair (.str) (.int .i64))))) (s4 : Value) (y4 : List (E (.pair (.int .i64) (.int .i64)))) (s5 : Value) (y5 : List (E (.int .i64))) (s6 : Value) (y6 : List (E (.pair (.int .i64) (.pair (.int .i64) (.int .i64))))) (W : World) (hL : GlOk fun b => W.heap[b]?) (r3 : RepS (fun b => W.heap[b]?) (.pair (.int .i64) (.pair (.str) (.int .i64))) s3 y3) (w3 : wfD (.sl 23 (.pair (.int .i64) (.pair (.str) (.int .i64)))) y3) (r4 : RepS (fun b => W.heap[b]?) (.pair (.int .i64) (.int .i64)) s4 y4) (w4 : wfD (.sl 146 (.pair (.int .i64) (.int .i64))) y4) (r5 : RepS (fun b => W.heap[b]?) (.int .i64) s5 y5) (w5 : wfD (.sl 2 (.int .i64)) y5) (r6 : RepS (fun b => W.heap[b]?) (.pair (.int .i64) (.pair (.int .i64) (.int .i64))) s6 y6) (w6 : wfD (.sl 25 (.pair (.int .i64) (.pair (.int .i64) (.int .i64)))) y6) : Calls Tryd.prog 9 #[.agg ⟨[.int .i64 y0, .int .i64 y1, .int .i64 y2, s3, s4]⟩, .agg ⟨[s5, s6]⟩] W fun e w' => e = .returned (.bool true) ∧ Below W.heap.size W w' := by
  have h := law_StartMachine y0 y1 y2 y3 y4 y5 y6 w3 w4 w5 w6
  have key := (p_laws_FnExactStartMachine).law (w := W) (args := [.one ⟨true, [.val (.int .i64 y0), .val (.int .i64 y1), .val (.int .i64 y2), .ref 0, .ref 1]⟩, .one ⟨true, [.ref 2, .ref 3]⟩]) (es := [.row false 23 (.pair (.int .i64) (.pair (.str) (.int .i64))) y3, .row false 146 (.pair (.int .i64) (.int .i64)) y4, .row false 2 (.int .i64) y5, .row false 25 (.pair (.int .i64) (.pair (.int .i64) (.int .i64))) y6]) (vs := [s3, s4, s5, s6]) (av := #[.agg ⟨[.int .i64 y0, .int .i64 y1, .int .i64 y2, s3, s4]⟩, .agg ⟨[s5, s6]⟩]) hL rfl rfl
    (by intro b hb; simp only [List.mem_cons, List.not_mem_nil, or_false] at hb; subst hb; exact h.2)
    (by
      intro i e he
      match i with
      | 0 => simp only [List.getElem?_cons_zero, List.getElem?_cons_succ, Option.some.injEq] at he; subst he; exact ⟨_, _, _, _, rfl, rfl, r3⟩
      | 1 => simp only [List.getElem?_cons_zero, List.getElem?_cons_succ, Option.some.injEq] at he; subst he; exact ⟨_, _, _, _, rfl, rfl, r4⟩
      | 2 => simp only [List.getElem?_cons_zero, List.getElem?_cons_succ, Option.some.injEq] at he; subst he; exact ⟨_, _, _, _, rfl, rfl, r5⟩
      | 3 => simp only [List.getElem?_cons_zero, List.getElem?_cons_succ, Option.some.injEq] at he; subst he; exact ⟨_, _, _, _, rfl, rfl, r6⟩
      | i + 4 => simp at he)
    rfl (by simp [SV.conc, V1.conc, Cell.conc, argNm_at (w := W) (vs := [s3, s4, s5, s6]) (i := 0) (v := s3) rfl (RepS_slim r3), argNm_at (w := W) (vs := [s3, s4, s5, s6]) (i := 1) (v := s4) rfl (RepS_slim r4), argNm_at (w := W) (vs := [s3, s4, s5, s6]) (i := 2) (v := s5) rfl (RepS_slim r5), argNm_at (w := W) (vs := [s3, s4, s5, s6]) (i := 3) (v := s6) rfl (RepS_slim r6)])
  rw [h.1] at key
  exact key

theorem lifted (os : Os) (started : os.Started) (H : Type) (enc : TypeId × Value → H) :
    ReturnsInHanded {} Tryd.checked os 9 .any (fun w args => (Rows.fnExactStartMachineSpec.pre enc Tryd.prog Tryd.f9 [] false w args ∧ laidMetH Tryd.prog laid1 w) ∧ sizedMet enc Tryd.prog Tryd.f9 (OpenSpec.ofChange Rows.fnExactStartMachineSpec) false w args)
      (Rows.fnExactStartMachineSpec.post enc Tryd.prog Tryd.f9 false true false false) := by
  refine returnsInHanded_of_change_and (C := Tryd.checked) (X := fun w _ => laidMetH Tryd.prog laid1 w) (fun _ _ _ hh h => h.of_heap hh) own started (by kernel_rfl) Tryd.func9
    (ChangeSpec.witness_shaped (enc := enc) (C := Tryd.checked) (os := os) (X := fun w _ => laidMetH Tryd.prog laid1 w) false (World.doorLaid Tryd.prog 400 os) #[.agg #[.int .i64 0, .int .i64 0, .int .i64 0, .slice none 0 0, .slice none 0 0], .agg #[.slice none 0 0, .slice none 0 0]] 8 rfl (World.shaped_of_RefB (by kernel_rfl) (by kernel_rfl)) (by kernel_rfl) (by kernel_rfl) (by kernel_rfl) (door_met os _)) ?_
  intro W base args ds gs before hval0 hW _ _ hL _
  have hval : ∀ (j : Nat) t v, Tryd.f9.params[j]? = some t → args[j]? = some v → Value.okWide Tryd.prog W .any base t v := hval0
  have hW' := hW
  obtain ⟨p, q, hA0, hV, rfl, hfz, hnd⟩ := hW
  have hA : DataW.TrodAll enc Tryd.prog W 0 (fun _ => true) true Tryd.f9.params.toList args.toList ds p := hA0
  rw [Tryd.params9] at hA hval
  obtain ⟨v0, vs0, d0, ds0, p0, q0, hargs, rfl, rfl, h0, r0⟩ := trodAll_cons hA
  obtain ⟨v1, vs1, d1, ds1, p1, q1, rfl, rfl, rfl, h1, r1⟩ := trodAll_cons r0
  obtain ⟨rfl, rfl, rfl⟩ := trodAll_nil r1
  obtain rfl : args = #[v0, v1] := by cases args; simp_all
  have hV0 : DataW.TrodVars enc Tryd.prog W (fun _ => true) ["loop.example/g00916/impl.keywords"] gs q := hV
  obtain ⟨g, t, cs_, fuel_, d_, pp_, rfl, _⟩ := trodVars_one hV0
  have k0 := h0
  have lt0 : ∀ x ∈ p0, x.block < W.heap.size := by obtain ⟨m, hm⟩ := k0; exact DataW.trod_lt m _ _ _ hm
  obtain ⟨l0_, x0_, rfl, hx0_, wx0_⟩ := open_str (t := .pair (.int .i64) (.pair (.int .i64) (.pair (.int .i64) (.pair (.sl 23 (.pair (.int .i64) (.pair (.str) (.int .i64)))) (.sl 146 (.pair (.int .i64) (.int .i64))))))) Tryd.underlying65 (hval 0 65 v0 rfl rfl) h0 (n := 60) (by kernel_rfl)
  obtain ⟨y0, ⟨y1, ⟨y2, ⟨y3, y4⟩⟩⟩⟩ := x0_
  simp only [Rep] at hx0_
  obtain ⟨_, _, rfl, rfl, ⟨_, _, rfl, rfl, ⟨_, _, rfl, rfl, ⟨_, _, rfl, ⟨s3, rfl, r3⟩, ⟨s4, rfl, r4⟩⟩⟩⟩⟩ := hx0_
  simp only [wfD] at wx0_
  obtain ⟨w0, ⟨w1, ⟨w2, ⟨w3, w4⟩⟩⟩⟩ := wx0_
  have k1 := h1
  have lt1 : ∀ x ∈ p1, x.block < W.heap.size := by obtain ⟨m, hm⟩ := k1; exact DataW.trod_lt m _ _ _ hm
  obtain ⟨l1_, x1_, rfl, hx1_, wx1_⟩ := open_str (t := .pair (.sl 2 (.int .i64)) (.sl 25 (.pair (.int .i64) (.pair (.int .i64) (.int .i64))))) Tryd.underlying68 (hval 1 68 v1 rfl rfl) h1 (n := 60) (by kernel_rfl)
  obtain ⟨y5, y6⟩ := x1_
  simp only [Rep] at hx1_
  obtain ⟨_, _, rfl, ⟨s5, rfl, r5⟩, ⟨s6, rfl, r6⟩⟩ := hx1_
  simp only [wfD] at wx1_
  obtain ⟨w5, w6⟩ := wx1_
  clear hA0 hval0
  refine (calls y0 y1 y2 s3 y3 s4 y4 s5 y5 s6 y6 W (of_laid hL) r3 w3 r4 w4 r5 w5 r6 w6).mono fun e W' ⟨he, bel⟩ => ?_
  subst he
  exact ⟨_, rfl, _, _, _, [], _, q, hW', trodAll_mk1 (shut_bool Tryd.underlying4 _), (trodAll_cons_mk (Below.trod laidOut (by kernel_rfl) (of_decide_eq_true (by kernel_rfl)) k0 bel lt0) (trodAll_cons_mk (Below.trod laidOut (by kernel_rfl) (of_decide_eq_true (by kernel_rfl)) k1 bel lt1) trodAll_mk0)), Below.trodVars laidOut bel (by kernel_rfl) hV0, bel.frame _, fun h => by cases h⟩

theorem over : Rows.FnExactStartMachineSaid :=
  OpenClaim.holds_of_wide 9 Tryd.f9 rfl rfl rfl rfl rfl rfl rfl ⟨rfl, rfl, rfl, rfl, rfl⟩ rfl rfl rfl rfl rfl (by kernel_rfl) Tryd.func9 (by kernel_rfl)
    (of_decide_eq_true (by kernel_rfl)) (by unfold Func.isWrapper; first | (rw [if_pos (by decide +kernel)]; kernel_rfl) | (rw [if_neg (by decide +kernel)]; exact ⟨rfl, rfl⟩))
    (fun os started H enc _ => lifted os started H enc)

theorem proved : Rows.FnExactStartMachineCardSaid :=
  Claim7.holds_tied_plain_at .later [] [.widerDeep] true (true, "0db0588b1bf225cb97dec76ba9a33da0ab27cd6a4afb6296d148a9880b79c3f2") false
    over (fun _ h => by cases h) (by kernel_rfl) (fun _ h => by cases h) fnExactStartMachine_row_tie rfl ⟨rfl, rfl⟩ (by kernel_rfl) rfl
    (fun f fn hf hfn => by
      obtain rfl : f = 9 := Option.some.inj ((show Tryd.prog.funcNamed "loop.example/g00916/laws.FnExactStartMachine" = some 9 by kernel_rfl).symm.trans hf) |>.symm
      obtain rfl : fn = Tryd.f9 := (Option.some.inj (Tryd.func9.symm.trans hfn)).symm
      exact ⟨by kernel_rfl, fun j t ht => by
        rw [Tryd.params9] at ht
        match j with
          | 0 => simp at ht; subst ht; exact (show Tryd.prog.wantsStandIn 65 = false by kernel_rfl)
          | 1 => simp at ht; subst ht; exact (show Tryd.prog.wantsStandIn 68 = false by kernel_rfl)
          | j + 2 => simp at ht⟩)
    (by kernel_rfl)
#print axioms proved
end Go.Proofs.YtepaifhehlpbaaaDoor.fnExactStartMachine

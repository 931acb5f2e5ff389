/- FnUntil: for every input the law returns true, and each argument reads behind the call as it read before. -/
import Derived.Test.YtlppcpebljcpkaaDoorMa
import Derived.Test.YtlppcpebljcpkaaDoorRows
import Derived.Test.YtlppcpebljcpkaaDoorTXi
import Derived.Test.YtlppcpebljcpkaaDoorCards
import Derived.Test.YtlppcpebljcpkaaDoorTie
import Derived.Test.YtlppcpebljcpkaaDoorTXj
import Derived.ShutString
import Derived.ChangeOld
import Derived.ProofKit
import Derived.OpenShut
import Derived.Stop.Joined
set_option linter.unusedSimpArgs false
set_option linter.unusedVariables false
namespace Go.Proofs.YtlppcpebljcpkaaDoor.fnUntil
open Go.ChangeShapes Go.WideShapes Go.ChangeAt Go.RowKit Go.SX
open Go.ChangeMaps (open_string shut_string)

theorem own : ownKnob Tryd.prog.godebug = none := by kernel_rfl
theorem laidOut : laidOutB Tryd.prog = true := by kernel_rfl

set_option maxRecDepth 100000

theorem g0 : Tryd.prog.globalNamed "loop.example/g00916/impl.keywords" = some 0 := by kernel_rfl
theorem t0 : (Tryd.prog.globals[0]?).map (·.type) = some 68 := by kernel_rfl
theorem g1 : Tryd.prog.globalNamed "internal/strconv.uint64pow10" = some 1 := by kernel_rfl
theorem t1 : (Tryd.prog.globals[1]?).map (·.type) = some 99 := by kernel_rfl
/-- What the row lists. -/
def laid1 : List (String × DataW Unit) := Rows.fnUntilRow.laid

theorem door_met (os : Os) (args : Array Value) : laidMetH Tryd.prog laid1 ((World.doorLaid Tryd.prog 400 os).forCall (fun _ _ => 0) ⟨#[], args, []⟩).memory :=
  laidMetH_of_parts3 (fuel := 8) (laidMet_of_run' 8 (by kernel_rfl) (by kernel_rfl)) (by kernel_rfl) (by kernel_rfl)

/-- The tables lie in memory. -/
theorem of_laid {W : World} (h : laidMetH Tryd.prog laid1 W) : GlOk fun b => W.heap[b]? := by
  rw [MakeChecks.laidMetH_plain _ _ _ (by kernel_rfl)] at h
  intro x hx
  simp only [GT, List.mem_cons, List.not_mem_nil, or_false] at hx
  rcases hx with rfl | rfl
  · exact HS h 3 (by kernel_rfl) g0 t0 Tryd.underlying68 Tryd.underlying9 (by kernel_rfl) (by kernel_rfl) rfl (by decide)
  · exact HR h 2 (by kernel_rfl) g1 t1 Tryd.underlying99 Tryd.underlying90 (by kernel_rfl) (by kernel_rfl) (by decide)

theorem calls (s0 : Value) (y0 : List (E (.int .u8))) (W : World) (hL : GlOk fun b => W.heap[b]?) (r0 : ly (fun b => W.heap[b]?) (.int .u8) s0 y0) (w0 : wfD (.sl 5 (.int .u8)) y0) : Calls Tryd.prog 3 #[s0] W fun e w' => e = .returned (.bool true) ∧ Below W.heap.size W w' := by
  have h := GN y0 w0
  have jU := (BM).law (w := W) (args := [.one ⟨false, [.ref 0]⟩]) (es := [.row false 5 (.int .u8) y0]) (vs := [s0]) (av := #[s0]) hL rfl rfl
    (by intro b hb; simp only [List.mem_cons, List.not_mem_nil, or_false] at hb; subst hb; exact h.2)
    (by
      intro i e he
      match i with
      | 0 => simp only [List.getElem?_cons_zero, List.getElem?_cons_succ, Option.some.injEq] at he; subst he; exact ⟨_, _, _, _, rfl, rfl, r0⟩
      | i + 1 => simp at he)
    rfl (by simp [SV.conc, V1.conc, Cell.conc, Eb (w := W) (vs := [s0]) (i := 0) (v := s0) rfl (qu r0)])
  rw [h.1] at jU
  exact jU

theorem lifted (os : Os) (started : os.Started) (H : Type) (enc : TypeId × Value → H) :
    ReturnsInHanded {} Tryd.checked os 3 .any (fun w args => (Rows.fnUntilSpec.pre enc Tryd.prog Tryd.f3 [] false w args ∧ laidMetH Tryd.prog laid1 w) ∧ sizedMet enc Tryd.prog Tryd.f3 (OpenSpec.ofChange Rows.fnUntilSpec) false w args)
      (Rows.fnUntilSpec.post enc Tryd.prog Tryd.f3 false true false false) := by
  refine returnsInHanded_of_change_and (C := Tryd.checked) (X := fun w _ => laidMetH Tryd.prog laid1 w) (fun _ _ _ hh h => h.of_heap hh) own started (by kernel_rfl) Tryd.func3
    (ChangeSpec.witness_shaped (enc := enc) (C := Tryd.checked) (os := os) (X := fun w _ => laidMetH Tryd.prog laid1 w) false (World.doorLaid Tryd.prog 400 os) #[.slice none 0 0] 8 rfl (World.shaped_of_RefB (by kernel_rfl) (by kernel_rfl)) (by kernel_rfl) (by kernel_rfl) (by kernel_rfl) (door_met os _)) ?_
  intro W base args ds gs before hval0 hW _ _ hL _
  have hval : ∀ (j : Nat) t v, Tryd.f3.params[j]? = some t → args[j]? = some v → Value.okWide Tryd.prog W .any base t v := hval0
  have hW' := hW
  obtain ⟨p, q, hA0, hV, rfl, hfz, aP⟩ := hW
  have hA : DataW.TrodAll enc Tryd.prog W 0 (fun _ => true) true Tryd.f3.params.toList args.toList ds p := hA0
  rw [Tryd.params3] at hA hval
  obtain ⟨v0, vs0, d0, ds0, p0, q0, iB, rfl, rfl, h0, r0⟩ := trodAll_cons hA
  obtain ⟨rfl, rfl, rfl⟩ := trodAll_nil r0
  obtain rfl : args = #[v0] := by cases args; simp_all
  have hV0 : DataW.TrodVars enc Tryd.prog W (fun _ => true) ["loop.example/g00916/impl.keywords"] gs q := hV
  obtain ⟨g, t, cs_, fuel_, d_, pp_, rfl, _⟩ := trodVars_one hV0
  have k0 := h0
  have lt0 : ∀ x ∈ p0, x.block < W.heap.size := by obtain ⟨m, hm⟩ := k0; exact DataW.trod_lt m _ _ _ hm
  obtain ⟨y0, hr0, hl0, hw0⟩ := Ih (u := .int .u8) Tryd.underlying22 (hval 0 22 v0 rfl rfl) h0 (n := 60) (by kernel_rfl)
  clear hA0 hval0
  refine (calls v0 y0 W (of_laid hL) hr0 ⟨hl0, hw0⟩).mono fun e W' ⟨he, bel⟩ => ?_
  subst he
  exact ⟨_, rfl, _, _, _, [], _, q, hW', trodAll_mk1 (shut_bool Tryd.underlying4 _), (trodAll_cons_mk (Below.trod laidOut (by kernel_rfl) (of_decide_eq_true (by kernel_rfl)) k0 bel lt0) trodAll_mk0), Below.trodVars laidOut bel (by kernel_rfl) hV0, bel.frame _, fun h => by cases h⟩

theorem over : Rows.FnUntilSaid :=
  OpenClaim.holds_of_wide 3 Tryd.f3 rfl rfl rfl rfl rfl rfl rfl ⟨rfl, rfl, rfl, rfl, rfl⟩ rfl rfl rfl rfl rfl (by kernel_rfl) Tryd.func3 (by kernel_rfl)
    (of_decide_eq_true (by kernel_rfl)) (by unfold Func.isWrapper; first | (rw [if_pos (by decide +kernel)]; kernel_rfl) | (rw [if_neg (by decide +kernel)]; exact ⟨rfl, rfl⟩))
    (fun os started H enc _ => lifted os started H enc)

theorem proved : Rows.FnUntilCardSaid :=
  Claim7.holds_tied_plain_at .later [] [.data, .data, .data, .widerDeep] true (true, "6e99684a3ad9e28ed159c08ff05f593571594ce932816a00e4d5867f17576f7a") false
    over (fun _ h => by cases h) (by kernel_rfl) (fun _ h => by cases h) fnUntil_row_tie rfl ⟨rfl, rfl⟩ (by kernel_rfl) rfl
    (fun f fn hf hfn => by
      obtain rfl : f = 3 := Option.some.inj ((show Tryd.prog.funcNamed "loop.example/g00916/laws.FnUntil" = some 3 by kernel_rfl).symm.trans hf) |>.symm
      obtain rfl : fn = Tryd.f3 := (Option.some.inj (Tryd.func3.symm.trans hfn)).symm
      exact ⟨by kernel_rfl, fun j t ht => by
        rw [Tryd.params3] at ht
        match j with
          | 0 => simp at ht; subst ht; exact (show Tryd.prog.wantsStandIn 22 = false by kernel_rfl)
          | j + 1 => simp at ht⟩)
    (by kernel_rfl)
#print axioms proved
end Go.Proofs.YtlppcpebljcpkaaDoor.fnUntil

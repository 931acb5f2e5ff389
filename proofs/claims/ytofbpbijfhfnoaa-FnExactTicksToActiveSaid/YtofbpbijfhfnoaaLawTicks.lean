/- FnExactTicksToActive: for every input the law returns true, and each argument reads behind the call as it read before. -/
import Derived.Test.YtofbpbijfhfnoaaRows
import Derived.Test.YtofbpbijfhfnoaaTicksLaw
import Derived.Test.YtofbpbijfhfnoaaSXc
import Derived.ShutString
import Derived.ChangeOld
namespace Go.Proofs.Ytofbpbijfhfnoaa.fnExactTicksToActive
open Go.ChangeShapes Go.WideShapes Go.ChangeAt Go.RowKit Go.SX
open Go.ChangeMaps (open_string shut_string)

theorem own : ownKnob Try.prog.godebug = none := by kernel_rfl
theorem laidOut : laidOutB Try.prog = true := by kernel_rfl

set_option maxRecDepth 100000 in
theorem lifted (os : Os) (started : os.Started) (H : Type) (enc : TypeId × Value → H) :
    ReturnsInHanded {} Try.checked os 3 .any (Rows.fnExactTicksToActiveSpec.pre6 enc Try.prog Try.f3 Rows.fnExactTicksToActiveRow.domain false) (Rows.fnExactTicksToActiveSpec.post enc Try.prog Try.f3 false true false false) := by
  refine returnsInHanded_of_change (C := Try.checked) own started (by kernel_rfl) Try.func3
    (ChangeSpec.witness6 (enc := enc) (C := Try.checked) false ⟨#[], #[.agg #[.int .i64 0, .int .i64 0, .int .i64 0, .int .i64 0]], []⟩ 8 (by kernel_rfl) (by kernel_rfl) (by kernel_rfl) (by kernel_rfl)) ?_
  intro W base args ds gs before hval0 hW hcnd _
  have hval : ∀ (j : Nat) t v, Try.f3.params[j]? = some t → args[j]? = some v → Value.okWide Try.prog W .any base t v := hval0
  have hW' := hW
  obtain ⟨p, q, hA0, hV, rfl, hfz, hnd⟩ := hW
  have hA : DataW.TrodAll enc Try.prog W 0 (fun _ => true) true Try.f3.params.toList args.toList ds p := hA0
  rw [Try.params3] at hA hval
  obtain ⟨v0, vs0, d0, ds0, p0, q0, hargs, rfl, rfl, h0, r0⟩ := trodAll_cons hA
  obtain ⟨rfl, rfl, rfl⟩ := trodAll_nil r0
  obtain rfl : args = #[v0] := by cases args; simp_all
  obtain ⟨rfl, rfl⟩ := trodVars_none hV
  have k0 := h0
  have lt0 : ∀ x ∈ p0, x.block < W.heap.size := by obtain ⟨m, hm⟩ := k0; exact DataW.trod_lt m _ _ _ hm
  obtain ⟨l0, rfl, g0⟩ := open_agg Try.underlying25 (hval 0 25 v0 rfl rfl) h0 (n := 8) (ks := [.int .i64, .int .i64, .int .i64, .int .i64]) (by kernel_rfl)
  obtain ⟨_, l0_0, rfl, ⟨y0, rfl, y0w⟩, g0_0⟩ := g0.cons_inv
  obtain ⟨_, l0_1, rfl, ⟨y1, rfl, y1w⟩, g0_1⟩ := g0_0.cons_inv
  obtain ⟨_, l0_2, rfl, ⟨y2, rfl, y2w⟩, g0_2⟩ := g0_1.cons_inv
  obtain ⟨_, l0_3, rfl, ⟨y3, rfl, y3w⟩, g0_3⟩ := g0_2.cons_inv
  obtain rfl := g0_3.nil_inv
  clear hA0 hval0
  refine (ticks_calls y0 y1 y2 y3 W ).mono fun e W' ⟨he, bel⟩ => ?_
  subst he
  exact ⟨_, rfl, _, _, _, [], _, [], hW', trodAll_mk1 (shut_bool Try.underlying4 _), (trodAll_cons_mk (Below.trod laidOut (by kernel_rfl) (of_decide_eq_true (by kernel_rfl)) k0 bel lt0) trodAll_mk0), rfl, bel.frame _, fun h => by cases h⟩

theorem over : Rows.fnExactTicksToActiveRow.holds Try.pinned (OpenSpec.ofChange Rows.fnExactTicksToActiveSpec) :=
  OpenClaim.holds_of_wide 3 Try.f3 rfl rfl rfl rfl rfl rfl rfl ⟨rfl, rfl, rfl, rfl, rfl⟩ rfl rfl rfl rfl rfl (by kernel_rfl) Try.func3 (by kernel_rfl)
    (of_decide_eq_true (by kernel_rfl)) (by unfold Func.isWrapper; first | (rw [if_pos (by decide +kernel)]; kernel_rfl) | (rw [if_neg (by decide +kernel)]; exact ⟨rfl, rfl⟩))
    (fun os started H enc _ => lifted os started H enc)

theorem proved : Rows.FnExactTicksToActiveSaid := over
#print axioms proved
end Go.Proofs.Ytofbpbijfhfnoaa.fnExactTicksToActive

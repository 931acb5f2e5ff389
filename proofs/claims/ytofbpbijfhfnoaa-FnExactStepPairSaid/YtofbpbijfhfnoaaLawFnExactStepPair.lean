/- FnExactStepPair: for every input the law returns true, and each argument reads behind the call as it read before. -/
import Derived.Test.YtofbpbijfhfnoaaRows
import Derived.Test.YtofbpbijfhfnoaaPa
import Derived.Test.YtofbpbijfhfnoaaTXc
import Derived.ShutString
import Derived.ChangeOld
namespace Go.Proofs.Ytofbpbijfhfnoaa.fnExactStepPair
open Go.ChangeShapes Go.WideShapes Go.ChangeAt Go.RowKit Go.SX
open Go.ChangeMaps (open_string shut_string)

theorem own : ownKnob Try.prog.godebug = none := by kernel_rfl
theorem laidOut : laidOutB Try.prog = true := by kernel_rfl

set_option maxRecDepth 100000

theorem calls (y0 : Int) (y1 : Int) (y2 : Int) (y3 : Int) (y4 : Int) (y5 : Int) (y6 : Bool) (y7 : Bool) (W : World)  : Calls Try.prog 5 #[.agg ⟨[.int .i64 y0, .int .i64 y1, .int .i64 y2, .int .i64 y3]⟩, .agg ⟨[.int .i64 y4, .int .i64 y5, .bool y6, .bool y7]⟩] W fun e w' => e = .returned (.bool true) ∧ Below W.heap.size W w' := by
  have h := law_StepPair y0 y1 y2 y3 y4 y5 y6 y7 
  have key := (p_laws_FnExactStepPair).law (w := W) (args := [.one ⟨true, [.val (.int .i64 y0), .val (.int .i64 y1), .val (.int .i64 y2), .val (.int .i64 y3)]⟩, .one ⟨true, [.val (.int .i64 y4), .val (.int .i64 y5), .val (.bool y6), .val (.bool y7)]⟩]) (es := []) (vs := []) (av := #[.agg ⟨[.int .i64 y0, .int .i64 y1, .int .i64 y2, .int .i64 y3]⟩, .agg ⟨[.int .i64 y4, .int .i64 y5, .bool y6, .bool y7]⟩]) rfl rfl
    (by intro b hb; simp only [List.mem_cons, List.not_mem_nil, or_false] at hb; subst hb; exact h.2)
    (by intro i e he; simp at he)
    rfl (by simp [SV.conc, V1.conc, Cell.conc])
  rw [h.1] at key
  exact key

theorem lifted (os : Os) (started : os.Started) (H : Type) (enc : TypeId × Value → H) :
    ReturnsInHanded {} Try.checked os 5 .any (Rows.fnExactStepPairSpec.pre6 enc Try.prog Try.f5 Rows.fnExactStepPairRow.domain false) (Rows.fnExactStepPairSpec.post enc Try.prog Try.f5 false true false false) := by
  refine returnsInHanded_of_change (C := Try.checked) own started (by kernel_rfl) Try.func5
    (ChangeSpec.witness6 (enc := enc) (C := Try.checked) false ⟨#[], #[.agg #[.int .i64 0, .int .i64 0, .int .i64 0, .int .i64 0], .agg #[.int .i64 0, .int .i64 0, .bool false, .bool false]], []⟩ 8 (by kernel_rfl) (by kernel_rfl) (by kernel_rfl) (by kernel_rfl)) ?_
  intro W base args ds gs before hval0 hW hcnd _
  have hval : ∀ (j : Nat) t v, Try.f5.params[j]? = some t → args[j]? = some v → Value.okWide Try.prog W .any base t v := hval0
  have hW' := hW
  obtain ⟨p, q, hA0, hV, rfl, hfz, hnd⟩ := hW
  have hA : DataW.TrodAll enc Try.prog W 0 (fun _ => true) true Try.f5.params.toList args.toList ds p := hA0
  rw [Try.params5] at hA hval
  obtain ⟨v0, vs0, d0, ds0, p0, q0, hargs, rfl, rfl, h0, r0⟩ := trodAll_cons hA
  obtain ⟨v1, vs1, d1, ds1, p1, q1, rfl, rfl, rfl, h1, r1⟩ := trodAll_cons r0
  obtain ⟨rfl, rfl, rfl⟩ := trodAll_nil r1
  obtain rfl : args = #[v0, v1] := by cases args; simp_all
  obtain ⟨rfl, rfl⟩ := trodVars_none hV
  have k0 := h0
  have lt0 : ∀ x ∈ p0, x.block < W.heap.size := by obtain ⟨m, hm⟩ := k0; exact DataW.trod_lt m _ _ _ hm
  obtain ⟨l0, rfl, g0⟩ := open_agg Try.underlying25 (hval 0 25 v0 rfl rfl) h0 (n := 8) (ks := [.int .i64, .int .i64, .int .i64, .int .i64]) (by kernel_rfl)
  obtain ⟨_, l0_0, rfl, ⟨y0, rfl, y0w⟩, g0_0⟩ := g0.cons_inv
  obtain ⟨_, l0_1, rfl, ⟨y1, rfl, y1w⟩, g0_1⟩ := g0_0.cons_inv
  obtain ⟨_, l0_2, rfl, ⟨y2, rfl, y2w⟩, g0_2⟩ := g0_1.cons_inv
  obtain ⟨_, l0_3, rfl, ⟨y3, rfl, y3w⟩, g0_3⟩ := g0_2.cons_inv
  obtain rfl := g0_3.nil_inv
  have k1 := h1
  have lt1 : ∀ x ∈ p1, x.block < W.heap.size := by obtain ⟨m, hm⟩ := k1; exact DataW.trod_lt m _ _ _ hm
  obtain ⟨l1, rfl, g1⟩ := open_agg Try.underlying45 (hval 1 45 v1 rfl rfl) h1 (n := 8) (ks := [.int .i64, .int .i64, .bool, .bool]) (by kernel_rfl)
  obtain ⟨_, l1_4, rfl, ⟨y4, rfl, y4w⟩, g1_4⟩ := g1.cons_inv
  obtain ⟨_, l1_5, rfl, ⟨y5, rfl, y5w⟩, g1_5⟩ := g1_4.cons_inv
  obtain ⟨_, l1_6, rfl, ⟨y6, rfl⟩, g1_6⟩ := g1_5.cons_inv
  obtain ⟨_, l1_7, rfl, ⟨y7, rfl⟩, g1_7⟩ := g1_6.cons_inv
  obtain rfl := g1_7.nil_inv
  clear hA0 hval0
  refine (calls y0 y1 y2 y3 y4 y5 y6 y7 W ).mono fun e W' ⟨he, bel⟩ => ?_
  subst he
  exact ⟨_, rfl, _, _, _, [], _, [], hW', trodAll_mk1 (shut_bool Try.underlying4 _), (trodAll_cons_mk (Below.trod laidOut (by kernel_rfl) (of_decide_eq_true (by kernel_rfl)) k0 bel lt0) (trodAll_cons_mk (Below.trod laidOut (by kernel_rfl) (of_decide_eq_true (by kernel_rfl)) k1 bel lt1) trodAll_mk0)), rfl, bel.frame _, fun h => by cases h⟩

theorem over : Rows.fnExactStepPairRow.holds Try.pinned (OpenSpec.ofChange Rows.fnExactStepPairSpec) :=
  OpenClaim.holds_of_wide 5 Try.f5 rfl rfl rfl rfl rfl rfl rfl ⟨rfl, rfl, rfl, rfl, rfl⟩ rfl rfl rfl rfl rfl (by kernel_rfl) Try.func5 (by kernel_rfl)
    (of_decide_eq_true (by kernel_rfl)) (by unfold Func.isWrapper; first | (rw [if_pos (by decide +kernel)]; kernel_rfl) | (rw [if_neg (by decide +kernel)]; exact ⟨rfl, rfl⟩))
    (fun os started H enc _ => lifted os started H enc)

theorem proved : Rows.FnExactStepPairSaid := over
#print axioms proved
end Go.Proofs.Ytofbpbijfhfnoaa.fnExactStepPair

/- FnExactGreatestActive: for every input the law returns true, and each argument reads behind the call as it read before. -/
import Derived.Test.YtofbpbijfhfnoaaRows
import Derived.Test.YtofbpbijfhfnoaaPa
import Derived.Test.YtofbpbijfhfnoaaTXc
import Derived.ShutString
import Derived.ChangeOld
namespace Go.Proofs.Ytofbpbijfhfnoaa.fnExactGreatestActive
open Go.ChangeShapes Go.WideShapes Go.ChangeAt Go.RowKit Go.SX
open Go.ChangeMaps (open_string shut_string)

theorem own : ownKnob Try.prog.godebug = none := by kernel_rfl
theorem laidOut : laidOutB Try.prog = true := by kernel_rfl

set_option maxRecDepth 100000

theorem calls (y0 : Int) (y1 : Int) (y2 : Int) (y3 : Int) (s4 : Value) (y4 : List (E (.pair (.int .i64) (.pair (.int .i64) (.pair (.bool) (.bool)))))) (W : World) (r4 : RepS (fun b => W.heap[b]?) (.pair (.int .i64) (.pair (.int .i64) (.pair (.bool) (.bool)))) s4 y4) (l4 : y4.length ≤ maxLen) : Calls Try.prog 8 #[.agg ⟨[.int .i64 y0, .int .i64 y1, .int .i64 y2, .int .i64 y3]⟩, s4] W fun e w' => e = .returned (.bool true) ∧ Below W.heap.size W w' := by
  have h := law_Greatest y0 y1 y2 y3 y4 l4
  have key := (p_laws_FnExactGreatestActive).law (w := W) (args := [.one ⟨true, [.val (.int .i64 y0), .val (.int .i64 y1), .val (.int .i64 y2), .val (.int .i64 y3)]⟩, .one ⟨false, [.ref 0]⟩]) (es := [.row false 45 (.pair (.int .i64) (.pair (.int .i64) (.pair (.bool) (.bool)))) y4]) (vs := [s4]) (av := #[.agg ⟨[.int .i64 y0, .int .i64 y1, .int .i64 y2, .int .i64 y3]⟩, s4]) rfl rfl
    (by intro b hb; simp only [List.mem_cons, List.not_mem_nil, or_false] at hb; subst hb; exact h.2)
    (by
      intro i e he
      match i with
      | 0 => simp only [List.getElem?_cons_zero, List.getElem?_cons_succ, Option.some.injEq] at he; subst he; exact ⟨_, _, _, _, rfl, rfl, r4⟩
      | i + 1 => simp at he)
    rfl (by simp [SV.conc, V1.conc, Cell.conc, argNm_at (w := W) (vs := [s4]) (i := 0) (v := s4) rfl (RepS_slim r4)])
  rw [h.1] at key
  exact key

theorem lifted (os : Os) (started : os.Started) (H : Type) (enc : TypeId × Value → H) :
    ReturnsInHanded {} Try.checked os 8 .any (Rows.fnExactGreatestActiveSpec.pre6 enc Try.prog Try.f8 Rows.fnExactGreatestActiveRow.domain false) (Rows.fnExactGreatestActiveSpec.post enc Try.prog Try.f8 false true false false) := by
  refine returnsInHanded_of_change (C := Try.checked) own started (by kernel_rfl) Try.func8
    (ChangeSpec.witness6 (enc := enc) (C := Try.checked) false ⟨#[], #[.agg #[.int .i64 0, .int .i64 0, .int .i64 0, .int .i64 0], .slice none 0 0], []⟩ 8 (by kernel_rfl) (by kernel_rfl) (by kernel_rfl) (by kernel_rfl)) ?_
  intro W base args ds gs before hval0 hW hcnd _
  have hval : ∀ (j : Nat) t v, Try.f8.params[j]? = some t → args[j]? = some v → Value.okWide Try.prog W .any base t v := hval0
  have hW' := hW
  obtain ⟨p, q, hA0, hV, rfl, hfz, hnd⟩ := hW
  have hA : DataW.TrodAll enc Try.prog W 0 (fun _ => true) true Try.f8.params.toList args.toList ds p := hA0
  rw [Try.params8] at hA hval
  obtain ⟨v0, vs0, d0, ds0, p0, q0, hargs, rfl, rfl, h0, r0⟩ := trodAll_cons hA
  obtain ⟨v1, vs1, d1, ds1, p1, q1, rfl, rfl, rfl, h1, r1⟩ := trodAll_cons r0
  obtain ⟨rfl, rfl, rfl⟩ := trodAll_nil r1
  obtain rfl : args = #[v0, v1] := by cases args; simp_all
  obtain ⟨rfl, rfl⟩ := trodVars_none hV
  have k0 := h0
  have lt0 : ∀ x ∈ p0, x.block < W.heap.size := by obtain ⟨m, hm⟩ := k0; exact DataW.trod_lt m _ _ _ hm
  obtain ⟨l0, rfl, g0⟩ := open_agg Try.underlying25 (hval 0 25 v0 rfl rfl) h0 (n := 8) (ks := [.int .i64, .int .i64, .int .i64, .int .i64]) (by kernel_rfl)
  obtain ⟨_, l0_0, rfl, ⟨y0, rfl, y0w⟩, g0_0⟩ := g0.cons_inv
  obtain ⟨_, l0_1, rfl, ⟨y1, rfl, y1w⟩, g0_1⟩ := g0_0.cons_inv
  obtain ⟨_, l0_2, rfl, ⟨y2, rfl, y2w⟩, g0_2⟩ := g0_1.cons_inv
  obtain ⟨_, l0_3, rfl, ⟨y3, rfl, y3w⟩, g0_3⟩ := g0_2.cons_inv
  obtain rfl := g0_3.nil_inv
  have k1 := h1
  have lt1 : ∀ x ∈ p1, x.block < W.heap.size := by obtain ⟨m, hm⟩ := k1; exact DataW.trod_lt m _ _ _ hm
  obtain ⟨y4, hr4, _, hl4⟩ := open_slice (t := .pair (.int .i64) (.pair (.int .i64) (.pair (.bool) (.bool)))) Try.underlying57 (hval 1 57 v1 rfl rfl) h1 (n := 8) (by kernel_rfl) (by kernel_rfl) rfl
  clear hA0 hval0
  refine (calls y0 y1 y2 y3 v1 y4 W hr4 hl4).mono fun e W' ⟨he, bel⟩ => ?_
  subst he
  exact ⟨_, rfl, _, _, _, [], _, [], hW', trodAll_mk1 (shut_bool Try.underlying4 _), (trodAll_cons_mk (Below.trod laidOut (by kernel_rfl) (of_decide_eq_true (by kernel_rfl)) k0 bel lt0) (trodAll_cons_mk (Below.trod laidOut (by kernel_rfl) (of_decide_eq_true (by kernel_rfl)) k1 bel lt1) trodAll_mk0)), rfl, bel.frame _, fun h => by cases h⟩

theorem over : Rows.fnExactGreatestActiveRow.holds Try.pinned (OpenSpec.ofChange Rows.fnExactGreatestActiveSpec) :=
  OpenClaim.holds_of_wide 8 Try.f8 rfl rfl rfl rfl rfl rfl rfl ⟨rfl, rfl, rfl, rfl, rfl⟩ rfl rfl rfl rfl rfl (by kernel_rfl) Try.func8 (by kernel_rfl)
    (of_decide_eq_true (by kernel_rfl)) (by unfold Func.isWrapper; first | (rw [if_pos (by decide +kernel)]; kernel_rfl) | (rw [if_neg (by decide +kernel)]; exact ⟨rfl, rfl⟩))
    (fun os started H enc _ => lifted os started H enc)

theorem proved : Rows.FnExactGreatestActiveSaid := over
#print axioms proved
end Go.Proofs.Ytofbpbijfhfnoaa.fnExactGreatestActive

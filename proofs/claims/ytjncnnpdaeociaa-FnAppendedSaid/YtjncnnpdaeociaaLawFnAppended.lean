/- FnAppended: for every input the law returns true, and each argument reads behind the call as it read before. -/
import Derived.Test.YtjncnnpdaeociaaMa
import Derived.Test.YtjncnnpdaeociaaRows
import Derived.Test.YtjncnnpdaeociaaTXi
import Derived.ShutString
import Derived.ChangeOld
set_option linter.unusedSimpArgs false
set_option linter.unusedVariables false
namespace Go.Proofs.Ytjncnnpdaeociaa.fnAppended
open Go.ChangeShapes Go.WideShapes Go.ChangeAt Go.RowKit Go.SX
open Go.ChangeMaps (open_string shut_string)

theorem own : ownKnob Try.prog.godebug = none := by kernel_rfl
theorem laidOut : laidOutB Try.prog = true := by kernel_rfl

set_option maxRecDepth 100000

theorem calls (s0 : Value) (y0 : List (E (.int .u8))) (W : World) (r0 : sk (fun b => W.heap[b]?) (.int .u8) s0 y0) (l0 : ∀ x ∈ y0, wfD (.int .u8) x) : Calls Try.prog 4 #[s0] W fun e w' => e = .returned (.bool true) ∧ Below W.heap.size W w' := by
  have h := Gc y0 (fun i x hx => LJ (l0 x (List.mem_of_getElem? hx)))
  have fJ := (Br).law (w := W) (args := [.one ⟨false, [.ref 0]⟩]) (es := [.row false 5 (.int .u8) y0]) (vs := [s0]) (av := #[s0]) (fun x hx => by cases hx) rfl rfl
    (by intro b hb; simp only [List.mem_cons, List.not_mem_nil, or_false] at hb; subst hb; exact h.2)
    (by
      intro i e he
      match i with
      | 0 => simp only [List.getElem?_cons_zero, List.getElem?_cons_succ, Option.some.injEq] at he; subst he; exact ⟨_, _, _, _, rfl, rfl, r0⟩
      | i + 1 => simp at he)
    rfl (by simp [SV.conc, V1.conc, Cell.conc, Gw (w := W) (vs := [s0]) (i := 0) (v := s0) rfl (sX r0)])
  rw [h.1] at fJ
  exact fJ

theorem lifted (os : Os) (started : os.Started) (H : Type) (enc : TypeId × Value → H) :
    ReturnsInHanded {} Try.checked os 4 .any (Rows.fnAppendedSpec.pre6 enc Try.prog Try.f4 Rows.fnAppendedRow.domain false) (Rows.fnAppendedSpec.post enc Try.prog Try.f4 false true false false) := by
  refine returnsInHanded_of_change (C := Try.checked) own started (by kernel_rfl) Try.func4
    (ChangeSpec.witness6 (enc := enc) (C := Try.checked) false ⟨#[], #[.slice none 0 0], []⟩ 8 (by kernel_rfl) (by kernel_rfl) (by kernel_rfl) (by kernel_rfl)) ?_
  intro W base args ds gs before hval0 hW hcnd _
  have hval : ∀ (j : Nat) t v, Try.f4.params[j]? = some t → args[j]? = some v → Value.okWide Try.prog W .any base t v := hval0
  have hW' := hW
  obtain ⟨p, q, hA0, hV, rfl, hfz, bk⟩ := hW
  have hA : DataW.TrodAll enc Try.prog W 0 (fun _ => true) true Try.f4.params.toList args.toList ds p := hA0
  rw [Try.params4] at hA hval
  obtain ⟨v0, vs0, d0, ds0, p0, q0, jC, rfl, rfl, h0, r0⟩ := trodAll_cons hA
  obtain ⟨rfl, rfl, rfl⟩ := trodAll_nil r0
  obtain rfl : args = #[v0] := by cases args; simp_all
  obtain ⟨rfl, rfl⟩ := trodVars_none hV
  have k0 := h0
  have lt0 : ∀ x ∈ p0, x.block < W.heap.size := by obtain ⟨m, hm⟩ := k0; exact DataW.trod_lt m _ _ _ hm
  obtain ⟨y0, hr0, hl0, hw0⟩ := KL (u := .int .u8) Try.underlying33 (hval 0 33 v0 rfl rfl) h0 (n := 60) (by kernel_rfl)
  clear hA0 hval0
  refine (calls v0 y0 W hr0 hw0).mono fun e W' ⟨he, bel⟩ => ?_
  subst he
  exact ⟨_, rfl, _, _, _, [], _, [], hW', trodAll_mk1 (shut_bool Try.underlying4 _), (trodAll_cons_mk (Below.trod laidOut (by kernel_rfl) (of_decide_eq_true (by kernel_rfl)) k0 bel lt0) trodAll_mk0), rfl, bel.frame _, fun h => by cases h⟩

theorem over : Rows.fnAppendedRow.holds Try.pinned (OpenSpec.ofChange Rows.fnAppendedSpec) :=
  OpenClaim.holds_of_wide 4 Try.f4 rfl rfl rfl rfl rfl rfl rfl ⟨rfl, rfl, rfl, rfl, rfl⟩ rfl rfl rfl rfl rfl (by kernel_rfl) Try.func4 (by kernel_rfl)
    (of_decide_eq_true (by kernel_rfl)) (by unfold Func.isWrapper; first | (rw [if_pos (by decide +kernel)]; kernel_rfl) | (rw [if_neg (by decide +kernel)]; exact ⟨rfl, rfl⟩))
    (fun os started H enc _ => lifted os started H enc)

theorem proved : Rows.FnAppendedSaid := over
#print axioms proved
end Go.Proofs.Ytjncnnpdaeociaa.fnAppended

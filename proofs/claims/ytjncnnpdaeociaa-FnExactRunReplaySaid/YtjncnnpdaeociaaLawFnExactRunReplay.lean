/- FnExactRunReplay: for every input the law returns true, and each argument reads behind the call as it read before. -/
import Derived.Test.YtjncnnpdaeociaaMb
import Derived.Test.YtjncnnpdaeociaaRows
import Derived.Test.YtjncnnpdaeociaaTXi
import Derived.ShutString
import Derived.ChangeOld
set_option linter.unusedSimpArgs false
set_option linter.unusedVariables false
namespace Go.Proofs.Ytjncnnpdaeociaa.fnExactRunReplay
open Go.ChangeShapes Go.WideShapes Go.ChangeAt Go.RowKit Go.SX
open Go.ChangeMaps (open_string shut_string)

theorem own : ownKnob Try.prog.godebug = none := by kernel_rfl
theorem laidOut : laidOutB Try.prog = true := by kernel_rfl

set_option maxRecDepth 100000

theorem calls (y0 : Int) (s1 : Value) (y1 : List (E (.int .i64))) (s2 : Value) (y2 : List (E (.pair (.int .i64) (.pair (.int .i64) (.int .i64))))) (W : World) (r1 : oF (fun b => W.heap[b]?) (.int .i64) s1 y1) (l1 : y1.length ≤ maxLen) (r2 : oF (fun b => W.heap[b]?) (.pair (.int .i64) (.pair (.int .i64) (.int .i64))) s2 y2) (l2 : y2.length ≤ maxLen) : Calls Try.prog 14 #[.agg ⟨[.int .i64 y0, s1]⟩, s2] W fun e w' => e = .returned (.bool true) ∧ Below W.heap.size W w' := by
  have h := Hl y0 y1 y2 l1 l2
  have jb := (xJ).law (w := W) (args := [.one ⟨true, [.val (.int .i64 y0), .ref 0]⟩, .one ⟨false, [.ref 1]⟩]) (es := [.row false 2 (.int .i64) y1, .row false 131 (.pair (.int .i64) (.pair (.int .i64) (.int .i64))) y2]) (vs := [s1, s2]) (av := #[.agg ⟨[.int .i64 y0, s1]⟩, s2]) (fun x hx => by cases hx) rfl rfl
    (by intro b hb; simp only [List.mem_cons, List.not_mem_nil, or_false] at hb; subst hb; exact h.2)
    (by
      intro i e he
      match i with
      | 0 => simp only [List.getElem?_cons_zero, List.getElem?_cons_succ, Option.some.injEq] at he; subst he; exact ⟨_, _, _, _, rfl, rfl, r1⟩
      | 1 => simp only [List.getElem?_cons_zero, List.getElem?_cons_succ, Option.some.injEq] at he; subst he; exact ⟨_, _, _, _, rfl, rfl, r2⟩
      | i + 2 => simp at he)
    rfl (by simp [SV.conc, V1.conc, Cell.conc, Gb (w := W) (vs := [s1, s2]) (i := 0) (v := s1) rfl (sG r1), Gb (w := W) (vs := [s1, s2]) (i := 1) (v := s2) rfl (sG r2)])
  rw [h.1] at jb
  exact jb

theorem lifted (os : Os) (started : os.Started) (H : Type) (enc : TypeId × Value → H) :
    ReturnsInHanded {} Try.checked os 14 .any (Rows.fnExactRunReplaySpec.pre6 enc Try.prog Try.f14 Rows.fnExactRunReplayRow.domain false) (Rows.fnExactRunReplaySpec.post enc Try.prog Try.f14 false true false false) := by
  refine returnsInHanded_of_change (C := Try.checked) own started (by kernel_rfl) Try.func14
    (ChangeSpec.witness6 (enc := enc) (C := Try.checked) false ⟨#[], #[.agg #[.int .i64 0, .slice none 0 0], .slice none 0 0], []⟩ 8 (by kernel_rfl) (by kernel_rfl) (by kernel_rfl) (by kernel_rfl)) ?_
  intro W base args ds gs before hval0 hW hcnd _
  have hval : ∀ (j : Nat) t v, Try.f14.params[j]? = some t → args[j]? = some v → Value.okWide Try.prog W .any base t v := hval0
  have hW' := hW
  obtain ⟨p, q, hA0, hV, rfl, hfz, bf⟩ := hW
  have hA : DataW.TrodAll enc Try.prog W 0 (fun _ => true) true Try.f14.params.toList args.toList ds p := hA0
  rw [Try.params14] at hA hval
  obtain ⟨v0, vs0, d0, ds0, p0, q0, mb, rfl, rfl, h0, r0⟩ := trodAll_cons hA
  obtain ⟨v1, vs1, d1, ds1, p1, q1, rfl, rfl, rfl, h1, r1⟩ := trodAll_cons r0
  obtain ⟨rfl, rfl, rfl⟩ := trodAll_nil r1
  obtain rfl : args = #[v0, v1] := by cases args; simp_all
  obtain ⟨rfl, rfl⟩ := trodVars_none hV
  have k0 := h0
  have lt0 : ∀ x ∈ p0, x.block < W.heap.size := by obtain ⟨m, hm⟩ := k0; exact DataW.trod_lt m _ _ _ hm
  obtain ⟨l0_, x0_, rfl, hx0_, wx0_⟩ := MX (t := .pair (.int .i64) (.sl 2 (.int .i64))) Try.underlying24 (hval 0 24 v0 rfl rfl) h0 (n := 60) (by kernel_rfl)
  obtain ⟨y0, y1⟩ := x0_
  simp only [Rep] at hx0_
  obtain ⟨_, _, rfl, rfl, ⟨s1, rfl, r1⟩⟩ := hx0_
  simp only [wfD] at wx0_
  obtain ⟨w0, ⟨l1, w1⟩⟩ := wx0_
  have k1 := h1
  have lt1 : ∀ x ∈ p1, x.block < W.heap.size := by obtain ⟨m, hm⟩ := k1; exact DataW.trod_lt m _ _ _ hm
  obtain ⟨y2, hr2, hl2, hw2⟩ := NH (u := .pair (.int .i64) (.pair (.int .i64) (.int .i64))) Try.underlying73 (hval 1 73 v1 rfl rfl) h1 (n := 60) (by kernel_rfl)
  clear hA0 hval0
  refine (calls y0 s1 y1 v1 y2 W r1 l1 hr2 hl2).mono fun e W' ⟨he, bel⟩ => ?_
  subst he
  exact ⟨_, rfl, _, _, _, [], _, [], hW', trodAll_mk1 (shut_bool Try.underlying4 _), (trodAll_cons_mk (Below.trod laidOut (by kernel_rfl) (of_decide_eq_true (by kernel_rfl)) k0 bel lt0) (trodAll_cons_mk (Below.trod laidOut (by kernel_rfl) (of_decide_eq_true (by kernel_rfl)) k1 bel lt1) trodAll_mk0)), rfl, bel.frame _, fun h => by cases h⟩

theorem over : Rows.fnExactRunReplayRow.holds Try.pinned (OpenSpec.ofChange Rows.fnExactRunReplaySpec) :=
  OpenClaim.holds_of_wide 14 Try.f14 rfl rfl rfl rfl rfl rfl rfl ⟨rfl, rfl, rfl, rfl, rfl⟩ rfl rfl rfl rfl rfl (by kernel_rfl) Try.func14 (by kernel_rfl)
    (of_decide_eq_true (by kernel_rfl)) (by unfold Func.isWrapper; first | (rw [if_pos (by decide +kernel)]; kernel_rfl) | (rw [if_neg (by decide +kernel)]; exact ⟨rfl, rfl⟩))
    (fun os started H enc _ => lifted os started H enc)

theorem proved : Rows.FnExactRunReplaySaid := over
#print axioms proved
end Go.Proofs.Ytjncnnpdaeociaa.fnExactRunReplay

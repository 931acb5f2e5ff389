/- FnExactControlledRun: for every input the law returns true, and each argument reads behind the call as it read before. -/
import Derived.Test.YtjncnnpdaeociaaMb
import Derived.Test.YtjncnnpdaeociaaRows
import Derived.Test.YtjncnnpdaeociaaTXi
import Derived.ShutString
import Derived.ChangeOld
set_option linter.unusedSimpArgs false
set_option linter.unusedVariables false
namespace Go.Proofs.Ytjncnnpdaeociaa.fnExactControlledRun
open Go.ChangeShapes Go.WideShapes Go.ChangeAt Go.RowKit Go.SX
open Go.ChangeMaps (open_string shut_string)

theorem own : ownKnob Try.prog.godebug = none := by kernel_rfl
theorem laidOut : laidOutB Try.prog = true := by kernel_rfl

set_option maxRecDepth 100000

theorem calls (y0 : Int) (s1 : Value) (y1 : List (E (.int .i64))) (s2 : Value) (y2 : List (E (.pair (.int .i64) (.pair (.int .i64) (.int .i64))))) (s3 : Value) (y3 : List (E (.int .i64))) (W : World) (r1 : oH (fun b => W.heap[b]?) (.int .i64) s1 y1) (l1 : y1.length ≤ maxLen) (r2 : oH (fun b => W.heap[b]?) (.pair (.int .i64) (.pair (.int .i64) (.int .i64))) s2 y2) (l2 : y2.length ≤ maxLen) (r3 : oH (fun b => W.heap[b]?) (.int .i64) s3 y3) (l3 : y3.length ≤ maxLen) : Calls Try.prog 10 #[.agg ⟨[.int .i64 y0, s1]⟩, s2, s3] W fun e w' => e = .returned (.bool true) ∧ Below W.heap.size W w' := by
  have h := Dm y0 y1 y2 y3 l1 l2 l3
  have im := (vf).law (w := W) (args := [.one ⟨true, [.val (.int .i64 y0), .ref 0]⟩, .one ⟨false, [.ref 1]⟩, .one ⟨false, [.ref 2]⟩]) (es := [.row false 2 (.int .i64) y1, .row false 120 (.pair (.int .i64) (.pair (.int .i64) (.int .i64))) y2, .row false 2 (.int .i64) y3]) (vs := [s1, s2, s3]) (av := #[.agg ⟨[.int .i64 y0, s1]⟩, s2, s3]) (fun x hx => by cases hx) rfl rfl
    (by intro b hb; simp only [List.mem_cons, List.not_mem_nil, or_false] at hb; subst hb; exact h.2)
    (by
      intro i e he
      match i with
      | 0 => simp only [List.getElem?_cons_zero, List.getElem?_cons_succ, Option.some.injEq] at he; subst he; exact ⟨_, _, _, _, rfl, rfl, r1⟩
      | 1 => simp only [List.getElem?_cons_zero, List.getElem?_cons_succ, Option.some.injEq] at he; subst he; exact ⟨_, _, _, _, rfl, rfl, r2⟩
      | 2 => simp only [List.getElem?_cons_zero, List.getElem?_cons_succ, Option.some.injEq] at he; subst he; exact ⟨_, _, _, _, rfl, rfl, r3⟩
      | i + 3 => simp at he)
    rfl (by simp [SV.conc, V1.conc, Cell.conc, CY (w := W) (vs := [s1, s2, s3]) (i := 0) (v := s1) rfl (rQ r1), CY (w := W) (vs := [s1, s2, s3]) (i := 1) (v := s2) rfl (rQ r2), CY (w := W) (vs := [s1, s2, s3]) (i := 2) (v := s3) rfl (rQ r3)])
  rw [h.1] at im
  exact im

theorem lifted (os : Os) (started : os.Started) (H : Type) (enc : TypeId × Value → H) :
    ReturnsInHanded {} Try.checked os 10 .any (Rows.fnExactControlledRunSpec.pre6 enc Try.prog Try.f10 Rows.fnExactControlledRunRow.domain false) (Rows.fnExactControlledRunSpec.post enc Try.prog Try.f10 false true false false) := by
  refine returnsInHanded_of_change (C := Try.checked) own started (by kernel_rfl) Try.func10
    (ChangeSpec.witness6 (enc := enc) (C := Try.checked) false ⟨#[], #[.agg #[.int .i64 0, .slice none 0 0], .slice none 0 0, .slice none 0 0], []⟩ 8 (by kernel_rfl) (by kernel_rfl) (by kernel_rfl) (by kernel_rfl)) ?_
  intro W base args ds gs before hval0 hW hcnd _
  have hval : ∀ (j : Nat) t v, Try.f10.params[j]? = some t → args[j]? = some v → Value.okWide Try.prog W .any base t v := hval0
  have hW' := hW
  obtain ⟨p, q, hA0, hV, rfl, hfz, bh⟩ := hW
  have hA : DataW.TrodAll enc Try.prog W 0 (fun _ => true) true Try.f10.params.toList args.toList ds p := hA0
  rw [Try.params10] at hA hval
  obtain ⟨v0, vs0, d0, ds0, p0, q0, lY, rfl, rfl, h0, r0⟩ := trodAll_cons hA
  obtain ⟨v1, vs1, d1, ds1, p1, q1, rfl, rfl, rfl, h1, r1⟩ := trodAll_cons r0
  obtain ⟨v2, vs2, d2, ds2, p2, q2, rfl, rfl, rfl, h2, r2⟩ := trodAll_cons r1
  obtain ⟨rfl, rfl, rfl⟩ := trodAll_nil r2
  obtain rfl : args = #[v0, v1, v2] := by cases args; simp_all
  obtain ⟨rfl, rfl⟩ := trodVars_none hV
  have k0 := h0
  have lt0 : ∀ x ∈ p0, x.block < W.heap.size := by obtain ⟨m, hm⟩ := k0; exact DataW.trod_lt m _ _ _ hm
  obtain ⟨l0_, x0_, rfl, hx0_, wx0_⟩ := MM (t := .pair (.int .i64) (.sl 2 (.int .i64))) Try.underlying24 (hval 0 24 v0 rfl rfl) h0 (n := 60) (by kernel_rfl)
  obtain ⟨y0, y1⟩ := x0_
  simp only [Rep] at hx0_
  obtain ⟨_, _, rfl, rfl, ⟨s1, rfl, r1⟩⟩ := hx0_
  simp only [wfD] at wx0_
  obtain ⟨w0, ⟨l1, w1⟩⟩ := wx0_
  have k1 := h1
  have lt1 : ∀ x ∈ p1, x.block < W.heap.size := by obtain ⟨m, hm⟩ := k1; exact DataW.trod_lt m _ _ _ hm
  obtain ⟨y2, hr2, hl2, hw2⟩ := Lv (u := .pair (.int .i64) (.pair (.int .i64) (.int .i64))) Try.underlying64 (hval 1 64 v1 rfl rfl) h1 (n := 60) (by kernel_rfl)
  have k2 := h2
  have lt2 : ∀ x ∈ p2, x.block < W.heap.size := by obtain ⟨m, hm⟩ := k2; exact DataW.trod_lt m _ _ _ hm
  obtain ⟨y3, hr3, hl3, hw3⟩ := Lv (u := .int .i64) Try.underlying22 (hval 2 22 v2 rfl rfl) h2 (n := 60) (by kernel_rfl)
  clear hA0 hval0
  refine (calls y0 s1 y1 v1 y2 v2 y3 W r1 l1 hr2 hl2 hr3 hl3).mono fun e W' ⟨he, bel⟩ => ?_
  subst he
  exact ⟨_, rfl, _, _, _, [], _, [], hW', trodAll_mk1 (shut_bool Try.underlying4 _), (trodAll_cons_mk (Below.trod laidOut (by kernel_rfl) (of_decide_eq_true (by kernel_rfl)) k0 bel lt0) (trodAll_cons_mk (Below.trod laidOut (by kernel_rfl) (of_decide_eq_true (by kernel_rfl)) k1 bel lt1) (trodAll_cons_mk (Below.trod laidOut (by kernel_rfl) (of_decide_eq_true (by kernel_rfl)) k2 bel lt2) trodAll_mk0))), rfl, bel.frame _, fun h => by cases h⟩

theorem over : Rows.fnExactControlledRunRow.holds Try.pinned (OpenSpec.ofChange Rows.fnExactControlledRunSpec) :=
  OpenClaim.holds_of_wide 10 Try.f10 rfl rfl rfl rfl rfl rfl rfl ⟨rfl, rfl, rfl, rfl, rfl⟩ rfl rfl rfl rfl rfl (by kernel_rfl) Try.func10 (by kernel_rfl)
    (of_decide_eq_true (by kernel_rfl)) (by unfold Func.isWrapper; first | (rw [if_pos (by decide +kernel)]; kernel_rfl) | (rw [if_neg (by decide +kernel)]; exact ⟨rfl, rfl⟩))
    (fun os started H enc _ => lifted os started H enc)

theorem proved : Rows.FnExactControlledRunSaid := over
#print axioms proved
end Go.Proofs.Ytjncnnpdaeociaa.fnExactControlledRun

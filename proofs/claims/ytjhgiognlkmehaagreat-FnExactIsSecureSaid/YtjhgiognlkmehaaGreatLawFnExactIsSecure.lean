/- FnExactIsSecure: for every input the law returns true, and each argument reads behind the call as it read before. -/
import Derived.Test.YtjhgiognlkmehaaGreatRows
import Derived.Test.YtjhgiognlkmehaaGreatLl
import Derived.Test.YtjhgiognlkmehaaGreatTXi
import Derived.ShutString
import Derived.ChangeOld
namespace Go.Proofs.YtjhgiognlkmehaaGreat.fnExactIsSecure
open Go.ChangeShapes Go.WideShapes Go.ChangeAt Go.RowKit Go.SX
open Go.ChangeMaps (open_string shut_string)

theorem own : ownKnob Tryz.prog.godebug = none := by kernel_rfl
theorem laidOut : laidOutB Tryz.prog = true := by kernel_rfl

set_option maxRecDepth 100000

theorem calls (y0 : Int) (s1 : Value) (y1 : List (E (.int .i64))) (s2 : Value) (y2 : List (E (.pair (.int .i64) (.pair (.int .i64) (.int .i64))))) (s3 : Value) (y3 : List (E (.sl 2 (.int .i64)))) (s4 : Value) (y4 : List (E (.pair (.int .i64) (.pair (.int .i64) (.int .i64))))) (y5 : Int) (s6 : Value) (y6 : List (E (.pair (.int .i64) (.int .i64)))) (s7 : Value) (y7 : List (E (.pair (.int .i64) (.int .i64)))) (y8 : Int) (W : World) (r1 : RepS (fun b => W.heap[b]?) (.int .i64) s1 y1) (l1 : y1.length ≤ maxLen) (r2 : RepS (fun b => W.heap[b]?) (.pair (.int .i64) (.pair (.int .i64) (.int .i64))) s2 y2) (l2 : y2.length ≤ maxLen) (r3 : RepS (fun b => W.heap[b]?) (.sl 2 (.int .i64)) s3 y3) (l3 : y3.length ≤ maxLen) (w3 : ∀ x ∈ y3, x.length ≤ maxLen) (r4 : RepS (fun b => W.heap[b]?) (.pair (.int .i64) (.pair (.int .i64) (.int .i64))) s4 y4) (l4 : y4.length ≤ maxLen) (r6 : RepS (fun b => W.heap[b]?) (.pair (.int .i64) (.int .i64)) s6 y6) (l6 : y6.length ≤ maxLen) (r7 : RepS (fun b => W.heap[b]?) (.pair (.int .i64) (.int .i64)) s7 y7) (l7 : y7.length ≤ maxLen) : Calls Tryz.prog 3 #[.agg ⟨[.int .i64 y0, s1, s2, s3, s4, .int .i64 y5, s6, s7, .int .i64 y8]⟩] W fun e w' => e = .returned (.bool true) ∧ Below W.heap.size W w' := by
  have h := law_IsSecure y0 y1 y2 y3 y4 y5 y6 y7 y8 l1 l2 l3 w3 l4 l6 l7
  have key := (p_laws_FnExactIsSecure).law (w := W) (args := [.one ⟨true, [.val (.int .i64 y0), .ref 0, .ref 1, .ref 2, .ref 3, .val (.int .i64 y5), .ref 4, .ref 5, .val (.int .i64 y8)]⟩]) (es := [.row false 2 (.int .i64) y1, .row false 80 (.pair (.int .i64) (.pair (.int .i64) (.int .i64))) y2, .row false 22 (.sl 2 (.int .i64)) y3, .row false 84 (.pair (.int .i64) (.pair (.int .i64) (.int .i64))) y4, .row false 88 (.pair (.int .i64) (.int .i64)) y6, .row false 92 (.pair (.int .i64) (.int .i64)) y7]) (vs := [s1, s2, s3, s4, s6, s7]) (av := #[.agg ⟨[.int .i64 y0, s1, s2, s3, s4, .int .i64 y5, s6, s7, .int .i64 y8]⟩]) (fun x hx => by cases hx) rfl rfl
    (by intro b hb; simp only [List.mem_cons, List.not_mem_nil, or_false] at hb; subst hb; exact h.2)
    (by
      intro i e he
      match i with
      | 0 => simp only [List.getElem?_cons_zero, List.getElem?_cons_succ, Option.some.injEq] at he; subst he; exact ⟨_, _, _, _, rfl, rfl, r1⟩
      | 1 => simp only [List.getElem?_cons_zero, List.getElem?_cons_succ, Option.some.injEq] at he; subst he; exact ⟨_, _, _, _, rfl, rfl, r2⟩
      | 2 => simp only [List.getElem?_cons_zero, List.getElem?_cons_succ, Option.some.injEq] at he; subst he; exact ⟨_, _, _, _, rfl, rfl, r3⟩
      | 3 => simp only [List.getElem?_cons_zero, List.getElem?_cons_succ, Option.some.injEq] at he; subst he; exact ⟨_, _, _, _, rfl, rfl, r4⟩
      | 4 => simp only [List.getElem?_cons_zero, List.getElem?_cons_succ, Option.some.injEq] at he; subst he; exact ⟨_, _, _, _, rfl, rfl, r6⟩
      | 5 => simp only [List.getElem?_cons_zero, List.getElem?_cons_succ, Option.some.injEq] at he; subst he; exact ⟨_, _, _, _, rfl, rfl, r7⟩
      | i + 6 => simp at he)
    rfl (by simp [SV.conc, V1.conc, Cell.conc, argNm_at (w := W) (vs := [s1, s2, s3, s4, s6, s7]) (i := 0) (v := s1) rfl (RepS_slim r1), argNm_at (w := W) (vs := [s1, s2, s3, s4, s6, s7]) (i := 1) (v := s2) rfl (RepS_slim r2), argNm_at (w := W) (vs := [s1, s2, s3, s4, s6, s7]) (i := 2) (v := s3) rfl (RepS_slim r3), argNm_at (w := W) (vs := [s1, s2, s3, s4, s6, s7]) (i := 3) (v := s4) rfl (RepS_slim r4), argNm_at (w := W) (vs := [s1, s2, s3, s4, s6, s7]) (i := 4) (v := s6) rfl (RepS_slim r6), argNm_at (w := W) (vs := [s1, s2, s3, s4, s6, s7]) (i := 5) (v := s7) rfl (RepS_slim r7)])
  rw [h.1] at key
  exact key

theorem lifted (os : Os) (started : os.Started) (H : Type) (enc : TypeId × Value → H) :
    ReturnsInHanded {} Tryz.checked os 3 .any (Rows.fnExactIsSecureSpec.pre6 enc Tryz.prog Tryz.f3 Rows.fnExactIsSecureRow.domain false) (Rows.fnExactIsSecureSpec.post enc Tryz.prog Tryz.f3 false true false false) := by
  refine returnsInHanded_of_change (C := Tryz.checked) own started (by kernel_rfl) Tryz.func3
    (ChangeSpec.witness6 (enc := enc) (C := Tryz.checked) false ⟨#[], #[.agg #[.int .i64 0, .slice none 0 0, .slice none 0 0, .slice none 0 0, .slice none 0 0, .int .i64 0, .slice none 0 0, .slice none 0 0, .int .i64 0]], []⟩ 8 (by kernel_rfl) (by kernel_rfl) (by kernel_rfl) (by kernel_rfl)) ?_
  intro W base args ds gs before hval0 hW hcnd _
  have hval : ∀ (j : Nat) t v, Tryz.f3.params[j]? = some t → args[j]? = some v → Value.okWide Tryz.prog W .any base t v := hval0
  have hW' := hW
  obtain ⟨p, q, hA0, hV, rfl, hfz, hnd⟩ := hW
  have hA : DataW.TrodAll enc Tryz.prog W 0 (fun _ => true) true Tryz.f3.params.toList args.toList ds p := hA0
  rw [Tryz.params3] at hA hval
  obtain ⟨v0, vs0, d0, ds0, p0, q0, hargs, rfl, rfl, h0, r0⟩ := trodAll_cons hA
  obtain ⟨rfl, rfl, rfl⟩ := trodAll_nil r0
  obtain rfl : args = #[v0] := by cases args; simp_all
  obtain ⟨rfl, rfl⟩ := trodVars_none hV
  have k0 := h0
  have lt0 : ∀ x ∈ p0, x.block < W.heap.size := by obtain ⟨m, hm⟩ := k0; exact DataW.trod_lt m _ _ _ hm
  obtain ⟨l0_, x0_, rfl, hx0_, wx0_⟩ := open_str (t := .pair (.pair (.int .i64) (.sl 2 (.int .i64))) (.pair (.sl 80 (.pair (.int .i64) (.pair (.int .i64) (.int .i64)))) (.pair (.sl 22 (.sl 2 (.int .i64))) (.pair (.sl 84 (.pair (.int .i64) (.pair (.int .i64) (.int .i64)))) (.pair (.int .i64) (.pair (.sl 88 (.pair (.int .i64) (.int .i64))) (.pair (.sl 92 (.pair (.int .i64) (.int .i64))) (.int .i64)))))))) Tryz.underlying31 (hval 0 31 v0 rfl rfl) h0 (n := 60) (by kernel_rfl)
  obtain ⟨⟨y0, y1⟩, ⟨y2, ⟨y3, ⟨y4, ⟨y5, ⟨y6, ⟨y7, y8⟩⟩⟩⟩⟩⟩⟩ := x0_
  simp only [Rep] at hx0_
  obtain ⟨_, _, rfl, ⟨_, _, rfl, rfl, ⟨s1, rfl, r1⟩⟩, ⟨_, _, rfl, ⟨s2, rfl, r2⟩, ⟨_, _, rfl, ⟨s3, rfl, r3⟩, ⟨_, _, rfl, ⟨s4, rfl, r4⟩, ⟨_, _, rfl, rfl, ⟨_, _, rfl, ⟨s6, rfl, r6⟩, ⟨_, _, rfl, ⟨s7, rfl, r7⟩, rfl⟩⟩⟩⟩⟩⟩⟩ := hx0_
  simp only [wfD] at wx0_
  obtain ⟨⟨w0, ⟨l1, w1⟩⟩, ⟨⟨l2, w2⟩, ⟨⟨l3, w3⟩, ⟨⟨l4, w4⟩, ⟨w5, ⟨⟨l6, w6⟩, ⟨⟨l7, w7⟩, w8⟩⟩⟩⟩⟩⟩⟩ := wx0_
  clear hA0 hval0
  refine (calls y0 s1 y1 s2 y2 s3 y3 s4 y4 y5 s6 y6 s7 y7 y8 W r1 l1 r2 l2 r3 l3 (fun x hx => (w3 x hx).1) r4 l4 r6 l6 r7 l7).mono fun e W' ⟨he, bel⟩ => ?_
  subst he
  exact ⟨_, rfl, _, _, _, [], _, [], hW', trodAll_mk1 (shut_bool Tryz.underlying4 _), (trodAll_cons_mk (Below.trod laidOut (by kernel_rfl) (of_decide_eq_true (by kernel_rfl)) k0 bel lt0) trodAll_mk0), rfl, bel.frame _, fun h => by cases h⟩

theorem over : Rows.fnExactIsSecureRow.holds Tryz.pinned (OpenSpec.ofChange Rows.fnExactIsSecureSpec) :=
  OpenClaim.holds_of_wide 3 Tryz.f3 rfl rfl rfl rfl rfl rfl rfl ⟨rfl, rfl, rfl, rfl, rfl⟩ rfl rfl rfl rfl rfl (by kernel_rfl) Tryz.func3 (by kernel_rfl)
    (of_decide_eq_true (by kernel_rfl)) (by unfold Func.isWrapper; first | (rw [if_pos (by decide +kernel)]; kernel_rfl) | (rw [if_neg (by decide +kernel)]; exact ⟨rfl, rfl⟩))
    (fun os started H enc _ => lifted os started H enc)

theorem proved : Rows.FnExactIsSecureSaid := over
#print axioms proved
end Go.Proofs.YtjhgiognlkmehaaGreat.fnExactIsSecure

/- FnExactVerdictName: for every input the law returns true, the argument and the table read behind the call as they read before; the table is tied to the program's text. -/
import Derived.Test.YtofbpbijfhfnoaaDoorRows
import Derived.Test.YtofbpbijfhfnoaaDoorCards
import Derived.Test.YtofbpbijfhfnoaaDoorTie
import Derived.Test.YtofbpbijfhfnoaaDoorLa
import Derived.Test.YtofbpbijfhfnoaaDoorTXj
import Derived.ProofKit
import Derived.OpenShut
import Derived.Stop.Joined
namespace Go.Proofs.YtofbpbijfhfnoaaDoor.fnExactVerdictName
open Go.ChangeShapes Go.WideShapes Go.ChangeAt Go.RowKit Go.SX

theorem own : ownKnob Tryd.prog.godebug = none := by kernel_rfl
theorem laidOut : laidOutB Tryd.prog = true := by kernel_rfl
theorem g0 : Tryd.prog.globalNamed "loop.example/g00916/impl.verdictNames" = some 0 := by kernel_rfl
theorem t0 : (Tryd.prog.globals[0]?).map (·.type) = some 27 := by kernel_rfl

set_option maxRecDepth 100000

/-- What the row lists. -/
def laid1 : List (String × DataW Unit) := Rows.fnExactVerdictNameRow.laid

theorem door_met (os : Os) (args : Array Value) : laidMetH Tryd.prog laid1 ((World.doorLaid Tryd.prog 400 os).forCall (fun _ _ => 0) ⟨#[], args, []⟩).memory :=
  laidMetH_of_parts3 (fuel := 8) (laidMet_of_run' 8 (by kernel_rfl) (by kernel_rfl)) (by kernel_rfl) (by kernel_rfl)

/-- The table lies in memory. -/
theorem of_laid {W : World} (h : laidMetH Tryd.prog laid1 W) : GlOk fun b => W.heap[b]? := by
  rw [MakeChecks.laidMetH_plain _ _ _ (by kernel_rfl)] at h
  obtain ⟨ps, ⟨g, t, cs, f, p, q, hg, ht, hv, hd, _, _⟩, _, _⟩ := h
  obtain rfl := Option.some.inj (g0.symm.trans hg)
  obtain rfl := Option.some.inj (t0.symm.trans ht)
  intro x hx
  have hx : x = ⟨0, 27, 9, .str, tab0⟩ := List.mem_singleton.1 hx
  subst hx
  have hb : ∃ T fz, W.heap[0]? = some (.cells cs T fz) := by
    simp only [World.var?, hg, Option.bind_some] at hv
    split at hv
    · rename_i cs' T fz hb; cases hv; exact ⟨T, fz, hb⟩
    · cases hv
  obtain ⟨T, fz, hb⟩ := hb
  refine ⟨by decide, cs, T, fz, hb, fun i y hy => ?_⟩
  simp only [Rep]
  exact strs_of_trod Tryd.underlying27 Tryd.underlying9 (by kernel_rfl) (tab := tab0) rfl hd i y hy

theorem calls (W : World) (hL : GlOk fun b => W.heap[b]?) (y0 : Int) : Calls Tryd.prog 3 #[.int .i64 y0] W fun e w' => e = .returned (.bool true) ∧ Below W.heap.size W w' := by
  have h := law_VerdictName y0
  have key := (p_laws_FnExactVerdictName).law (w := W) (args := [.one ⟨false, [.val (.int .i64 y0)]⟩]) (es := []) (vs := []) (av := #[.int .i64 y0]) hL rfl rfl
    (by intro b hb; simp only [List.mem_cons, List.not_mem_nil, or_false] at hb; subst hb; exact h.2)
    (by intro i e he; simp at he)
    rfl (by simp [SV.conc, V1.conc, Cell.conc])
  rw [h.1] at key
  exact key

theorem lifted (os : Os) (started : os.Started) (H : Type) (enc : TypeId × Value → H) :
    ReturnsInHanded {} Tryd.checked os 3 .any (fun w args => (Rows.fnExactVerdictNameSpec.pre enc Tryd.prog Tryd.f3 [] false w args ∧ laidMetH Tryd.prog laid1 w) ∧ sizedMet enc Tryd.prog Tryd.f3 (OpenSpec.ofChange Rows.fnExactVerdictNameSpec) false w args)
      (Rows.fnExactVerdictNameSpec.post enc Tryd.prog Tryd.f3 false true false false) := by
  refine returnsInHanded_of_change_and (C := Tryd.checked) (X := fun w _ => laidMetH Tryd.prog laid1 w) (fun _ _ _ hh h => h.of_heap hh) own started (by kernel_rfl) Tryd.func3
    (ChangeSpec.witness_shaped (enc := enc) (C := Tryd.checked) (os := os) (X := fun w _ => laidMetH Tryd.prog laid1 w) false (World.doorLaid Tryd.prog 400 os) #[.int .i64 0] 8 rfl (World.shaped_of_RefB (by kernel_rfl) (by kernel_rfl)) (by kernel_rfl) (by kernel_rfl) (by kernel_rfl) (door_met os _)) ?_
  intro W base args ds gs before hval0 hW _ _ hL _
  have hval : ∀ (j : Nat) t v, Tryd.f3.params[j]? = some t → args[j]? = some v → Value.okWide Tryd.prog W .any base t v := hval0
  have hW' := hW
  obtain ⟨p, q, hA0, hV, rfl, hfz, hnd⟩ := hW
  have hA : DataW.TrodAll enc Tryd.prog W 0 (fun _ => true) true Tryd.f3.params.toList args.toList ds p := hA0
  rw [Tryd.params3] at hA hval
  obtain ⟨v0, vs0, d0, ds0, p0, q0, hargs, rfl, rfl, h0, r0⟩ := trodAll_cons hA
  obtain ⟨rfl, rfl, rfl⟩ := trodAll_nil r0
  obtain rfl : args = #[v0] := by cases args; simp_all
  have hV0 : DataW.TrodVars enc Tryd.prog W (fun _ => true) ["loop.example/g00916/impl.verdictNames"] gs q := hV
  obtain ⟨g, t, cs, fuel, d, pp, rfl, _⟩ := trodVars_one hV0
  have k0 := h0
  have lt0 : ∀ x ∈ p0, x.block < W.heap.size := by obtain ⟨m, hm⟩ := k0; exact DataW.trod_lt m _ _ _ hm
  obtain ⟨y0, rfl, _, _, y0w⟩ := open_int Tryd.underlying2 (hval 0 2 v0 rfl rfl) h0
  clear hA0 hval0
  refine (calls W (of_laid hL) y0).mono fun e W' ⟨he, bel⟩ => ?_
  subst he
  exact ⟨_, rfl, _, _, _, [], _, q, hW', trodAll_mk1 (shut_bool Tryd.underlying4 _), (trodAll_cons_mk (Below.trod laidOut (by kernel_rfl) (of_decide_eq_true (by kernel_rfl)) k0 bel lt0) trodAll_mk0), Below.trodVars laidOut bel (by kernel_rfl) hV0, bel.frame _, fun h => by cases h⟩

theorem over : Rows.FnExactVerdictNameSaid :=
  OpenClaim.holds_of_wide 3 Tryd.f3 rfl rfl rfl rfl rfl rfl rfl ⟨rfl, rfl, rfl, rfl, rfl⟩ rfl rfl rfl rfl rfl (by kernel_rfl) Tryd.func3 (by kernel_rfl)
    (of_decide_eq_true (by kernel_rfl)) (by unfold Func.isWrapper; first | (rw [if_pos (by decide +kernel)]; kernel_rfl) | (rw [if_neg (by decide +kernel)]; exact ⟨rfl, rfl⟩))
    (fun os started H enc _ => lifted os started H enc)

theorem proved : Rows.FnExactVerdictNameCardSaid :=
  Claim7.holds_tied_plain_at .later [] [.data] true (true, "337282d06a62cee2247afe88f67c77fd25184d6fa8266f593b0b08e147f2d3b1") false
    over (fun _ h => by cases h) (by kernel_rfl) (fun _ h => by cases h) fnExactVerdictName_row_tie rfl ⟨rfl, rfl⟩ (by kernel_rfl) rfl
    (fun f fn hf hfn => by
      obtain rfl : f = 3 := Option.some.inj ((show Tryd.prog.funcNamed "loop.example/g00916/laws.FnExactVerdictName" = some 3 by kernel_rfl).symm.trans hf) |>.symm
      obtain rfl : fn = Tryd.f3 := (Option.some.inj (Tryd.func3.symm.trans hfn)).symm
      exact ⟨by kernel_rfl, fun j t ht => by
        rw [Tryd.params3] at ht
        have h3 : t = 2 := by
          rcases j with _ | j
          · simpa using ht.symm
          · simp at ht
        subst h3
        exact (show Tryd.prog.wantsStandIn 2 = false by kernel_rfl)⟩)
    (by kernel_rfl)
#print axioms proved
end Go.Proofs.YtofbpbijfhfnoaaDoor.fnExactVerdictName

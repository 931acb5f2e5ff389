/- Errors of blocks, in plain words. -/
import Derived.Test.YtepaifhehlpbaaaDoorRe
namespace Go.SX
open Go.Proofs
set_option maxRecDepth 100000

def ssOk (m : Nat) (rs : List (List Int)) : Bool := leN rs.length m && rs.all fun x => leN x.length m

theorem ss_iff {m : Nat} {rs : List (List Int)} : ssOk m rs = true ↔ rs.length ≤ m ∧ ∀ x ∈ rs, x.length ≤ m := by
  simp only [ssOk, Bool.and_eq_true, leN_iff, List.all_eq_true]

/-- The error of a block, a state and arguments. -/
def codeV (k : Int) (s : ByteArray) (n a b c : Int) (ll : List (List Int)) : Int :=
  bif !blockB k s n then 1 else bif possB k n a b c && ll.all (bitsB (takesK k)) then 0 else 2

def f_slices_IndexFunc_int64_int64_q3301_l0 (y2 : Int) (b : List Int) : (Unit) → Nat ⊕ (Unit)
  | _ => (bif ((impl_stepCode_1_q3302_0 ((b)) y2)) then (.inl 0) else (.inr ()))

def st_slices_IndexFunc_int64_int64_q3301_l0 (y2 : Int) (y3 : ByteArray) (y4 : Int) (y5 : List (List Int)) (i : Nat) : (Unit) → X_slices_IndexFunc_int64_int64_q3301_l0
  | _ => ((i : Int), (↑(List.length y5) : Int), y2, y3, y4, y5)

def pr_slices_IndexFunc_int64_int64_q3301_l0 : X_slices_IndexFunc_int64_int64_q3301_l0 → Unit
  | (_, _, _, _, _, _) => ()

theorem w_slices_IndexFunc_int64_int64_q3301_l0 (y2 : Int) (y3 : ByteArray) (y4 : Int) (y5 : List (List Int))  (hn : y5.length ≤ 9223372036854775807) (hA : ∀ x ∈ y5, x.length ≤ 9223372036854775807) :
    lp_slices_IndexFunc_int64_int64_q3301_l0.fin ((0 : Int), (↑(List.length y5) : Int), y2, y3, y4, y5) = true ∧ lp_slices_IndexFunc_int64_int64_q3301_l0.res ((0 : Int), (↑(List.length y5) : Int), y2, y3, y4, y5) = ((walkL (f_slices_IndexFunc_int64_int64_q3301_l0 y2) 1 y5 0 ()).1, (st_slices_IndexFunc_int64_int64_q3301_l0 y2 y3 y4 y5) (walkL (f_slices_IndexFunc_int64_int64_q3301_l0 y2) 1 y5 0 ()).2.1 (walkL (f_slices_IndexFunc_int64_int64_q3301_l0 y2) 1 y5 0 ()).2.2) := by
  have key := lp_slices_IndexFunc_int64_int64_q3301_l0.along (st_slices_IndexFunc_int64_int64_q3301_l0 y2 y3 y4 y5) pr_slices_IndexFunc_int64_int64_q3301_l0 (f_slices_IndexFunc_int64_int64_q3301_l0 y2) 1 (fun _ _ => True) y5 () (by trivial) (by simp only [lp_slices_IndexFunc_int64_int64_q3301_l0, st_slices_IndexFunc_int64_int64_q3301_l0]; omega) (fun i b a hb hI => ?_) (fun a hI => ?_)
  · exact key
  · obtain ⟨⟩ := a
    have hlt := (List.getElem?_eq_some_iff.1 hb).1
    have hget : ∀ d, Option.getD y5[i]? d = b := fun d => by rw [hb]; rfl
    have hw := wrap64 hlt hn
    have hdec : ltI (i : Int) (y5.length : Int) = true := ltI_t (by omega)
    have hnn : leI (0 : Int) (i : Int) = true := leI_t (by omega)
    have hltd : ltN i y5.length = true := ltN_t hlt
    refine ⟨?_, ?_, ?_, ?_⟩
    · have hg2 : slices_IndexFunc_int64_int64_q3301_l0_a0 (i : Int) y5 = b := by simp only [slices_IndexFunc_int64_int64_q3301_l0_a0, Int.toNat_natCast]; exact hget _
      have h6 : leN b.length 9223372036854775807 = true := leN_t (hA b (List.mem_of_getElem? hb))
      simp [slices_IndexFunc_int64_int64_q3301_l0_0, slices_IndexFunc_int64_int64_q3301_l0_1, slices_IndexFunc_int64_int64_q3301_l0_2, slices_IndexFunc_int64_int64_q3301_l0_3, slices_IndexFunc_int64_int64_q3301_l0_4, impl_stepCode_1_q3302_1, lt_slices_IndexFunc_int64_int64_q3301_l0, lp_slices_IndexFunc_int64_int64_q3301_l0, LT.nds, allT, st_slices_IndexFunc_int64_int64_q3301_l0, hdec, hnn, hltd, hg2, h6]
    · simp [slices_IndexFunc_int64_int64_q3301_l0_a0, slices_IndexFunc_int64_int64_q3301_l0_0, slices_IndexFunc_int64_int64_q3301_l0_1, slices_IndexFunc_int64_int64_q3301_l0_2, slices_IndexFunc_int64_int64_q3301_l0_3, slices_IndexFunc_int64_int64_q3301_l0_4, slices_IndexFunc_int64_int64_q3301_l0_5, slices_IndexFunc_int64_int64_q3301_l0_6, lt_slices_IndexFunc_int64_int64_q3301_l0, lp_slices_IndexFunc_int64_int64_q3301_l0, LT.each, st_slices_IndexFunc_int64_int64_q3301_l0, pr_slices_IndexFunc_int64_int64_q3301_l0, hw]
    · have hg2 : slices_IndexFunc_int64_int64_q3301_l0_a0 (i : Int) y5 = b := by simp only [slices_IndexFunc_int64_int64_q3301_l0_a0, Int.toNat_natCast]; exact hget _
      simp only [slices_IndexFunc_int64_int64_q3301_l0_0, slices_IndexFunc_int64_int64_q3301_l0_5, lt_slices_IndexFunc_int64_int64_q3301_l0, lp_slices_IndexFunc_int64_int64_q3301_l0, LT.fn, st_slices_IndexFunc_int64_int64_q3301_l0, pr_slices_IndexFunc_int64_int64_q3301_l0, f_slices_IndexFunc_int64_int64_q3301_l0, Int.toNat_natCast, hdec, hg2, cond_true]
    · exact fun _ _ => trivial
  · obtain ⟨⟩ := a
    simp [slices_IndexFunc_int64_int64_q3301_l0_a0, slices_IndexFunc_int64_int64_q3301_l0_0, slices_IndexFunc_int64_int64_q3301_l0_1, slices_IndexFunc_int64_int64_q3301_l0_2, slices_IndexFunc_int64_int64_q3301_l0_3, slices_IndexFunc_int64_int64_q3301_l0_4, slices_IndexFunc_int64_int64_q3301_l0_5, slices_IndexFunc_int64_int64_q3301_l0_6, lt_slices_IndexFunc_int64_int64_q3301_l0, lp_slices_IndexFunc_int64_int64_q3301_l0, LT.out, st_slices_IndexFunc_int64_int64_q3301_l0]

theorem specCode_ok (k : Int) (s : ByteArray) (n a b c : Int) (l : List Int) (h : (leN s.size 9223372036854775807 && leN l.length 9223372036854775807) = true) : spec_l15Code_0 k s n a b c l = codeV k s n a b c [l] ∧ spec_l15Code_1 k s n a b c l = true := by
  simp only [Bool.and_eq_true] at h
  have e1 : spec_l15Possible_0 k n a b c = possB k n a b c := rfl
  have e2 : spec_l13Takes_0 k = takesK k := rfl
  simp only [spec_l15Code_0, spec_l15Code_1, codeV, e1, e2, h.1, h.2, allT, Bool.or_true, cond_true, List.all_cons, List.all_nil, Bool.and_true]
  refine ⟨?_, trivial⟩
  cases blockB k s n <;> cases possB k n a b c <;> cases bitsB (takesK k) l <;> rfl

theorem implCode_ok (k : Int) (s : ByteArray) (n a b c : Int) (ll : List (List Int)) (h : ssOk 9223372036854775807 ll = true) : impl_stepCode_0 k s n a b c ll = codeV k s n a b c ll ∧ impl_stepCode_1 k s n a b c ll = true := by
  obtain ⟨hn, hA⟩ := ss_iff.1 h
  obtain ⟨w1, w2⟩ := w_slices_IndexFunc_int64_int64_q3301_l0 k s n ll hn hA
  have e2 : ∀ k, impl_arguments_q3303_0 k = takesK k := fun _ => rfl
  rw [walk_stop (P := fun l => !bitsB (takesK k) l) (j := 0) (fun l => by simp only [f_slices_IndexFunc_int64_int64_q3301_l0, impl_stepCode_1_q3302_0, e2])] at w2
  have e5 : (ll.any fun l => !bitsB (takesK k) l) = !ll.all (bitsB (takesK k)) := by simp [List.all_eq_not_any_not]
  rw [e5] at w2
  have q : ∀ m : Nat, leI 0 (m : Int) = true := fun m => leI_t (by omega)
  have q2 : leI 0 (-1) = false := rfl
  simp only [impl_stepCode_0, impl_stepCode_1, slices_ContainsFunc_int64_int64_q3300_0, slices_ContainsFunc_int64_int64_q3300_4, slices_IndexFunc_int64_int64_q3301_0, slices_IndexFunc_int64_int64_q3301_4, slices_IndexFunc_int64_int64_q3301_a0, slices_IndexFunc_int64_int64_q3301_a1, w1, w2, allT, codeV, Bool.or_true, cond_true]
  refine ⟨?_, trivial⟩
  cases hB : blockB k s n with
  | false => rfl
  | true =>
    rw [poss_eq (blockB_iff hB).1]
    cases possB k n a b c <;> cases ll.all (bitsB (takesK k)) <;> simp [Nat.beq, q, q2, st_slices_IndexFunc_int64_int64_q3301_l0]

def N_spec_l15Code : List SV → List Entry → Option Out
  | [.one ⟨true, [.val (.int .i64 x0), .val (.string x1), .val (.int .i64 x2)]⟩, .one ⟨true, [.val (.int .i64 x3), .val (.int .i64 x4), .val (.int .i64 x5)]⟩, .one ⟨false, [.ref 0]⟩], [.row false 2 (.int .i64) x6] => some ⟨(.one ⟨false, [(.val (.int IntKind.i64 (codeV x0 x1 x2 x3 x4 x5 [x6])))]⟩), [(.row false 2 (CTy.int IntKind.i64) x6)], [], [leN x1.size 9223372036854775807 && leN x6.length 9223372036854775807]⟩
  | _, _ => none

def n_spec_l15Code : PF Tryd.prog := PF.alt p_spec_l15Code N_spec_l15Code (by
  intro args es o h hnd; unfold N_spec_l15Code at h; split at h
  · rename_i x0 x1 x2 x3 x4 x5 x6
    cases h
    have hnd := nd_fst hnd
    have hh := specCode_ok x0 x1 x2 x3 x4 x5 x6 hnd
    obtain ⟨e0, en⟩ := hh
    exact altok rfl (nd_one en) (by simp only [e0] <;> rfl) rfl rfl
  · cases h)

def N_impl_stepCode : List SV → List Entry → Option Out
  | [.one ⟨true, [.val (.int .i64 x0), .val (.string x1), .val (.int .i64 x2)]⟩, .one ⟨true, [.val (.int .i64 x3), .val (.int .i64 x4), .val (.int .i64 x5)]⟩, .one ⟨false, [.ref 0]⟩], [.row false 26 (.sl 2 (.int .i64)) x6] => some ⟨(.one ⟨false, [(.val (.int IntKind.i64 (codeV x0 x1 x2 x3 x4 x5 x6)))]⟩), [(.row false 26 (CTy.sl (2 : TypeId) (CTy.int IntKind.i64)) x6)], [], [ssOk 9223372036854775807 x6]⟩
  | _, _ => none

def n_impl_stepCode : PF Tryd.prog := PF.alt p_impl_stepCode N_impl_stepCode (by
  intro args es o h hnd; unfold N_impl_stepCode at h; split at h
  · rename_i x0 x1 x2 x3 x4 x5 x6
    cases h
    have hnd := nd_fst hnd
    have hh := implCode_ok x0 x1 x2 x3 x4 x5 x6 hnd
    obtain ⟨e0, en⟩ := hh
    exact altok rfl (nd_one en) (by simp only [e0] <;> rfl) rfl rfl
  · cases h)

end Go.SX

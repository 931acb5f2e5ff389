/- States and faults of blocks, in plain words. -/
import Derived.Test.YtepaifhehlpbaaaDoorNk
namespace Go.SX
open Go.Proofs
set_option maxRecDepth 100000

def fbCode (k : Int) (s : ByteArray) (n a b c : Int) : Int := codeV k s n a b c []
def fbV (k : Int) (s : ByteArray) (n a b c : Int) : Bool := fbCode k s n a b c == 0 && (k == 12 && c == 1)

theorem faultSpec (k : Int) (s : ByteArray) (n a b c : Int) (h : leN s.size 9223372036854775807 = true) : spec_IsFaulty_0 k s n a b c = fbV k s n a b c ∧ spec_IsFaulty_1 k s n a b c = fbCode k s n a b c ∧ spec_IsFaulty_2 s = true := by
  have e1 : spec_l15Possible_0 k n a b c = possB k n a b c := rfl
  refine ⟨?_, ?_, by simp only [spec_IsFaulty_2, allT, h]; rfl⟩ <;> simp only [spec_IsFaulty_0, spec_IsFaulty_1, fbV, fbCode, codeV, e1] <;> cases blockB k s n <;> cases possB k n a b c <;> simp <;> cases k == 12 <;> rfl

theorem q3702 (k : Int) (s : ByteArray) (n : Int) : lp_slices_IndexFunc_int64_int64_q3702_l0.fin (0, 0, k, s, n, []) = true ∧ lp_slices_IndexFunc_int64_int64_q3702_l0.res (0, 0, k, s, n, []) = (1, 0, 0, k, s, n, []) :=
  by
  have h1 : runL lp_slices_IndexFunc_int64_int64_q3702_l0.lt (0 + 1) (0, 0, k, s, n, []) = some (1, (0, 0, k, s, n, [])) := runL_end _ rfl
  exact lp_slices_IndexFunc_int64_int64_q3702_l0.run h1 (le_big (by omega))

theorem faultImpl (k : Int) (s : ByteArray) (n a b c : Int) : impl_IsFaulty_0 k s n a b c = fbV k s n a b c ∧ impl_IsFaulty_1 k s n a b c = fbCode k s n a b c ∧ impl_IsFaulty_2 k s n a b c = true := by
  obtain ⟨w1, w2⟩ := q3702 k s n
  have w1 : lp_slices_IndexFunc_int64_int64_q3702_l0.fin (slices_IndexFunc_int64_int64_q3702_a0 [] k s n) = true := w1
  have w2 : lp_slices_IndexFunc_int64_int64_q3702_l0.res (slices_IndexFunc_int64_int64_q3702_a0 [] k s n) = _ := w2
  have ea : impl_stepCode_q3700_a0 k n a b c = [] := by simp only [impl_stepCode_q3700_a0]; cases (!!impl_isPossible_0 k n a b c && true) <;> rfl
  have q2 : leI 0 (-1) = false := rfl
  have e0 : impl_stepCode_q3700_0 k s n a b c = fbCode k s n a b c := by
    simp only [impl_stepCode_q3700_0, impl_stepCode_q3700_1, slices_ContainsFunc_int64_int64_q3701_0, slices_ContainsFunc_int64_int64_q3701_5, slices_IndexFunc_int64_int64_q3702_0, slices_IndexFunc_int64_int64_q3702_5, slices_IndexFunc_int64_int64_q3702_a1, ea, w1, w2, fbCode, codeV]
    cases h : blockB k s n with
    | false => rfl
    | true =>
      rw [poss_eq (blockB_iff h).1]
      cases possB k n a b c <;> rfl
  refine ⟨?_, ?_, ?_⟩
  · simp only [impl_IsFaulty_0, impl_IsFaulty_a0, e0, fbV]
    cases h0 : fbCode k s n a b c == 0 with
    | false => simp [bne, h0]
    | true =>
      simp only [bne, h0, Bool.not_true, cond_false, Bool.true_and]
      simp only [fbCode, codeV] at h0
      cases hB : blockB k s n with
      | false => simp [hB] at h0
      | true =>
        cases hP : possB k n a b c with
        | false => simp [hB, hP] at h0
        | true =>
          rcases kinds (blockB_iff hB).1 with rfl | rfl | rfl | rfl | rfl | rfl <;> simp [possB, spec_l15Possible_0, Bool.cond_eq_ite] at hP ⊢ <;> simp [hP]
  · simp only [impl_IsFaulty_1, impl_IsFaulty_a0, e0]
    cases h0 : fbCode k s n a b c == 0 with
    | false => simp [bne, h0]
    | true => simp [bne, h0]; exact (by simpa using h0 : fbCode k s n a b c = 0).symm
  · simp only [impl_IsFaulty_2, impl_stepCode_q3700_0, impl_stepCode_q3700_1, slices_ContainsFunc_int64_int64_q3701_0, slices_ContainsFunc_int64_int64_q3701_5, slices_IndexFunc_int64_int64_q3702_0, slices_IndexFunc_int64_int64_q3702_5, slices_IndexFunc_int64_int64_q3702_a1, ea, w1, w2, allT]
    simp

def N_spec_IsFaulty : List SV → List Entry → Option Out
  | [.one ⟨true, [.val (.int .i64 x0), .val (.string x1), .val (.int .i64 x2)]⟩, .one ⟨true, [.val (.int .i64 x3), .val (.int .i64 x4), .val (.int .i64 x5)]⟩], [] => some ⟨(.tup [⟨false, [(.val (.bool (fbV x0 x1 x2 x3 x4 x5)))]⟩, ⟨false, [(.val (.int IntKind.i64 (fbCode x0 x1 x2 x3 x4 x5)))]⟩]), [], [], [leN x1.size 9223372036854775807]⟩
  | _, _ => none

def n_spec_IsFaulty : PF Tryd.prog := PF.alt p_spec_IsFaulty N_spec_IsFaulty (by
  intro args es o h hnd; unfold N_spec_IsFaulty at h; split at h
  · rename_i x0 x1 x2 x3 x4 x5
    cases h
    have hnd := nd_fst hnd
    have hh := faultSpec x0 x1 x2 x3 x4 x5 hnd
    obtain ⟨e0, e1, en⟩ := hh
    exact altok rfl (nd_one en) (by simp only [e0, e1] <;> rfl) rfl rfl
  · cases h)

def N_impl_IsFaulty : List SV → List Entry → Option Out
  | [.one ⟨true, [.val (.int .i64 x0), .val (.string x1), .val (.int .i64 x2)]⟩, .one ⟨true, [.val (.int .i64 x3), .val (.int .i64 x4), .val (.int .i64 x5)]⟩], [] => some ⟨(.tup [⟨false, [(.val (.bool (fbV x0 x1 x2 x3 x4 x5)))]⟩, ⟨false, [(.val (.int IntKind.i64 (fbCode x0 x1 x2 x3 x4 x5)))]⟩]), [], [], []⟩
  | _, _ => none

def n_impl_IsFaulty : PF Tryd.prog := PF.alt p_impl_IsFaulty N_impl_IsFaulty (by
  intro args es o h hnd; unfold N_impl_IsFaulty at h; split at h
  · rename_i x0 x1 x2 x3 x4 x5
    cases h
    have hh := faultImpl x0 x1 x2 x3 x4 x5
    obtain ⟨e0, e1, en⟩ := hh
    exact altok rfl (nd_one en) (by simp only [e0, e1] <;> rfl) rfl rfl
  · cases h)

end Go.SX

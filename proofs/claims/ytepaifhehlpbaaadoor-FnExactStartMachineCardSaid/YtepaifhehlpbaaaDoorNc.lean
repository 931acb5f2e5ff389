/- Terms and blocks of the safety logic language, in plain words. -/
import Derived.Test.YtepaifhehlpbaaaDoorRc
namespace Go.SX
open Go.Proofs
set_option maxRecDepth 100000

/-- Kinds of terms that have a number. -/
def countK (k : Int) : Bool := k == 7 || (k == 8 || (k == 11 || k == 12))
/-- A valid term. -/
def termB (k : Int) (s : ByteArray) (n : Int) : Bool := inR k 1 12 && (inR n 0 9999 && ((countK k || n == 0) && (bif k == 1 then nameB s else s.toList == [])))
/-- A valid block. -/
def blockB (k : Int) (s : ByteArray) (n : Int) : Bool := termB k s n && leI 7 k
/-- A possible state of a block. -/
def possB (k n a b c : Int) : Bool := spec_l15Possible_0 k n a b c

theorem nil_bytes : ByteArray.toList { data := #[] } = [] := by rw [Go.Lib.toList_data]

theorem name_ne {s : ByteArray} (h : nameB s = true) : (s.toList == []) = false := by
  simp only [nameB, wordB, Bool.and_eq_true, inR_iff] at h
  have h1 : s.size = s.toList.length := by rw [Go.Lib.size_eq, Go.Lib.toList_data]
  cases hs : s.toList with
  | nil =>
    rw [hs] at h1
    have h2 : s.size = 0 := h1
    omega
  | cons a l => rfl

theorem n0_in {n : Int} (h : (n == 0) = true) : inR n 0 9999 = true := by
  have : n = 0 := by simpa using h
  rw [this]; rfl

theorem specTerm_ok (k : Int) (s : ByteArray) (n : Int) (h : leN s.size 9223372036854775807 = true) : spec_l13Term_0 k s n = termB k s n ∧ spec_l13Term_1 k s n = true := by
  obtain ⟨e1, e2⟩ := specKey_ok s
  have e3 : spec_l13Name_0 s = nameB s := by simp only [spec_l13Name_0, e1, nameB]; cases wordB s <;> rfl
  have e4 : spec_l13Name_1 s = true := by simp only [spec_l13Name_1, e2, h, allT, Bool.or_true, cond_true]
  simp only [spec_l13Term_0, spec_l13Term_1, spec_l13Term_a0, e3, e4, spec_l13Kind_0, spec_l01In_0, inR_eq, nil_bytes, spec_l13Counts_0, termB, countK, allT, Bool.or_true, cond_true]
  refine ⟨?_, trivial⟩
  simp only [bne]
  generalize (bif k == 1 then nameB s else s.toList == []) = q
  generalize inR k 1 12 = q1
  generalize inR n 0 9999 = q2
  generalize (k == 7) = q3
  generalize (k == 8) = q4
  generalize (k == 11) = q5
  generalize (k == 12) = q6
  generalize (n == 0) = q7
  revert q q1 q2 q3 q4 q5 q6 q7
  decide

theorem implTerm_ok (k : Int) (s : ByteArray) (n : Int) : impl_isTerm_0 k s n = termB k s n := by
  have e3 : impl_isName_0 s = nameB s := by simp only [impl_isName_0, nameB]; cases wordB s <;> rfl
  simp only [impl_isTerm_0, e3, impl_within_0, inR_eq, nil_bytes, impl_isNumbered_0, termB, countK]
  by_cases h1 : k = 1
  · subst h1
    have z7 : ((1 : Int) == 7) = false := rfl
    have z8 : ((1 : Int) == 8) = false := rfl
    have z11 : ((1 : Int) == 11) = false := rfl
    have z12 : ((1 : Int) == 12) = false := rfl
    have z1 : ((1 : Int) == 1) = true := rfl
    have zn : ((1 : Int) != 1) = false := rfl
    have zr : inR (1 : Int) 1 12 = true := rfl
    rw [z7, z8, z11, z12, z1, zn, zr]
    have hs : nameB s = true → (s.toList == []) = false := name_ne
    have h0 : (n == 0) = true → inR n 0 9999 = true := n0_in
    generalize (s.toList == []) = q at hs ⊢
    generalize (n == 0) = q2 at h0 ⊢
    generalize inR n 0 9999 = q3 at h0 ⊢
    generalize nameB s = q4 at hs ⊢
    revert q q2 q3 q4
    decide
  · have z1 : (k == 1) = false := by simpa using h1
    have zn : (k != 1) = true := by simpa using h1
    rw [z1, zn]
    have h0 : (n == 0) = true → inR n 0 9999 = true := n0_in
    generalize (s.toList == []) = q
    generalize (n == 0) = q2 at h0 ⊢
    generalize inR n 0 9999 = q3 at h0 ⊢
    generalize inR k 1 12 = q1
    generalize (k == 7) = p3
    generalize (k == 8) = p4
    generalize (k == 11) = p5
    generalize (k == 12) = p6
    generalize nameB s = p7
    revert q q1 q2 q3 p3 p4 p5 p6 p7
    decide

theorem specBlock_ok (k : Int) (s : ByteArray) (n : Int) (h : leN s.size 9223372036854775807 = true) : spec_IsBlock_0 k s n = blockB k s n ∧ spec_IsBlock_1 k s n = true := by
  obtain ⟨e1, e2⟩ := specTerm_ok k s n h
  simp only [spec_IsBlock_0, spec_IsBlock_1, e1, e2, blockB, allT, cond_true]
  refine ⟨?_, trivial⟩
  cases termB k s n <;> rfl

theorem implBlock_ok (k : Int) (s : ByteArray) (n : Int) : impl_IsBlock_0 k s n = blockB k s n := by
  simp only [impl_IsBlock_0, implTerm_ok, blockB]
  cases termB k s n <;> rfl

theorem blockB_iff {k : Int} {s : ByteArray} {n : Int} (h : blockB k s n = true) : (7 ≤ k ∧ k ≤ 12) ∧ (0 ≤ n ∧ n ≤ 9999) ∧ (countK k = true ∨ n = 0) := by
  simp only [blockB, termB, Bool.and_eq_true, inR_iff, leI_iff, Bool.or_eq_true, beq_iff_eq] at h
  obtain ⟨⟨h1, h2, h3, _⟩, h4⟩ := h
  exact ⟨⟨h4, h1.2⟩, h2, h3⟩

/-- The kinds of blocks. -/
theorem kinds {k : Int} (h : 7 ≤ k ∧ k ≤ 12) : k = 7 ∨ k = 8 ∨ k = 9 ∨ k = 10 ∨ k = 11 ∨ k = 12 := by omega

theorem poss_eq {k n a b c : Int} (h : 7 ≤ k ∧ k ≤ 12) : impl_isPossible_0 k n a b c = possB k n a b c := by
  rcases kinds h with rfl | rfl | rfl | rfl | rfl | rfl <;> rfl

def N_spec_IsBlock : List SV → List Entry → Option Out
  | [.one ⟨true, [.val (.int .i64 x0), .val (.string x1), .val (.int .i64 x2)]⟩], [] => some ⟨(.one ⟨false, [(.val (.bool (blockB x0 x1 x2)))]⟩), [], [], [leN x1.size 9223372036854775807]⟩
  | _, _ => none

def n_spec_IsBlock : PF Tryd.prog := PF.alt p_spec_IsBlock N_spec_IsBlock (by
  intro args es o h hnd; unfold N_spec_IsBlock at h; split at h
  · rename_i x0 x1 x2
    cases h
    have hnd := nd_fst hnd
    have hh := specBlock_ok x0 x1 x2 hnd
    obtain ⟨e0, en⟩ := hh
    exact altok rfl (nd_one en) (by simp only [e0] <;> rfl) rfl rfl
  · cases h)

def N_impl_IsBlock : List SV → List Entry → Option Out
  | [.one ⟨true, [.val (.int .i64 x0), .val (.string x1), .val (.int .i64 x2)]⟩], [] => some ⟨(.one ⟨false, [(.val (.bool (blockB x0 x1 x2)))]⟩), [], [], []⟩
  | _, _ => none

def n_impl_IsBlock : PF Tryd.prog := PF.alt p_impl_IsBlock N_impl_IsBlock (by
  intro args es o h hnd; unfold N_impl_IsBlock at h; split at h
  · rename_i x0 x1 x2
    cases h
    have hh := implBlock_ok x0 x1 x2
    have e0 := hh
    exact altok rfl (fun _ h => by cases h) (by simp only [e0] <;> rfl) rfl rfl
  · cases h)

end Go.SX

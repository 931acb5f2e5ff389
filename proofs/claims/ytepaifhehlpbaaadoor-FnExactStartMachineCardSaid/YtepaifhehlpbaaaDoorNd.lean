/- Steps of blocks, in plain words. -/
import Derived.Test.YtepaifhehlpbaaaDoorRd
namespace Go.SX
open Go.Proofs
set_option maxRecDepth 100000

/-- So many bits. -/
def bitsB (n : Int) (l : List Int) : Bool := l.all (fun v => inR v 0 1) && ((l.length : Int) == n)
def f_spec_l22Bits_l0  (b : Int) : (Unit) → Nat ⊕ (Unit)
  | _ => (bif ((!spec_l01In_0 (b) (0 : Int) (1 : Int))) then (.inl 0) else (.inr ()))

def st_spec_l22Bits_l0 (y1 : List Int) (i : Nat) : (Unit) → X_spec_l22Bits_l0
  | _ => ((i : Int), y1)

def pr_spec_l22Bits_l0 : X_spec_l22Bits_l0 → Unit
  | (_, _) => ()

theorem w_spec_l22Bits_l0 (y1 : List Int)  (hn : y1.length ≤ 9223372036854775807)  :
    lp_spec_l22Bits_l0.fin ((0 : Int), y1) = true ∧ lp_spec_l22Bits_l0.res ((0 : Int), y1) = ((walkL (f_spec_l22Bits_l0) 1 y1 0 ()).1, (st_spec_l22Bits_l0 y1) (walkL (f_spec_l22Bits_l0) 1 y1 0 ()).2.1 (walkL (f_spec_l22Bits_l0) 1 y1 0 ()).2.2) := by
  have key := lp_spec_l22Bits_l0.along (st_spec_l22Bits_l0 y1) pr_spec_l22Bits_l0 (f_spec_l22Bits_l0) 1 (fun _ _ => True) y1 () (by trivial) (by simp only [lp_spec_l22Bits_l0, st_spec_l22Bits_l0]; omega) (fun i b a hb hI => ?_) (fun a hI => ?_)
  · exact key
  · obtain ⟨⟩ := a
    have hlt := (List.getElem?_eq_some_iff.1 hb).1
    have hget : ∀ d, Option.getD y1[i]? d = b := fun d => by rw [hb]; rfl
    have hw := wrap64 hlt hn
    have hdec : ltI (i : Int) (y1.length : Int) = true := ltI_t (by omega)
    have hnn : leI (0 : Int) (i : Int) = true := leI_t (by omega)
    have hltd : ltN i y1.length = true := ltN_t hlt
    refine ⟨?_, ?_, ?_, ?_⟩
    · simp [spec_l22Bits_l0_0, spec_l22Bits_l0_1, spec_l22Bits_l0_2, spec_l22Bits_l0_3, spec_l22Bits_l0_4, lt_spec_l22Bits_l0, lp_spec_l22Bits_l0, LT.nds, allT, st_spec_l22Bits_l0, hdec, hnn, hltd, hget]
    · simp [spec_l22Bits_l0_0, spec_l22Bits_l0_1, spec_l22Bits_l0_2, spec_l22Bits_l0_3, spec_l22Bits_l0_4, lt_spec_l22Bits_l0, lp_spec_l22Bits_l0, LT.each, st_spec_l22Bits_l0, pr_spec_l22Bits_l0, hw]
    · simp only [spec_l22Bits_l0_0, spec_l22Bits_l0_1, spec_l22Bits_l0_2, spec_l22Bits_l0_3, spec_l22Bits_l0_4, lt_spec_l22Bits_l0, lp_spec_l22Bits_l0, LT.fn, st_spec_l22Bits_l0, pr_spec_l22Bits_l0, f_spec_l22Bits_l0, Int.toNat_natCast, hdec, hnn, hltd, hget, cond_true, Bool.cond_self]
    · exact fun _ _ => trivial
  · obtain ⟨⟩ := a
    simp [spec_l22Bits_l0_0, spec_l22Bits_l0_1, spec_l22Bits_l0_2, spec_l22Bits_l0_3, spec_l22Bits_l0_4, lt_spec_l22Bits_l0, lp_spec_l22Bits_l0, LT.out, st_spec_l22Bits_l0]

def f_slices_IndexFunc_int64_int64__q3201_l0  (b : Int) : (Unit) → Nat ⊕ (Unit)
  | _ => (bif ((impl_areBits_1_q3202_0 (b))) then (.inl 0) else (.inr ()))

def st_slices_IndexFunc_int64_int64__q3201_l0 (y2 : List Int) (i : Nat) : (Unit) → X_slices_IndexFunc_int64_int64__q3201_l0
  | _ => ((i : Int), (↑(List.length y2) : Int), y2)

def pr_slices_IndexFunc_int64_int64__q3201_l0 : X_slices_IndexFunc_int64_int64__q3201_l0 → Unit
  | (_, _, _) => ()

theorem w_slices_IndexFunc_int64_int64__q3201_l0 (y2 : List Int)  (hn : y2.length ≤ 9223372036854775807)  :
    lp_slices_IndexFunc_int64_int64__q3201_l0.fin ((0 : Int), (↑(List.length y2) : Int), y2) = true ∧ lp_slices_IndexFunc_int64_int64__q3201_l0.res ((0 : Int), (↑(List.length y2) : Int), y2) = ((walkL (f_slices_IndexFunc_int64_int64__q3201_l0) 1 y2 0 ()).1, (st_slices_IndexFunc_int64_int64__q3201_l0 y2) (walkL (f_slices_IndexFunc_int64_int64__q3201_l0) 1 y2 0 ()).2.1 (walkL (f_slices_IndexFunc_int64_int64__q3201_l0) 1 y2 0 ()).2.2) := by
  have key := lp_slices_IndexFunc_int64_int64__q3201_l0.along (st_slices_IndexFunc_int64_int64__q3201_l0 y2) pr_slices_IndexFunc_int64_int64__q3201_l0 (f_slices_IndexFunc_int64_int64__q3201_l0) 1 (fun _ _ => True) y2 () (by trivial) (by simp only [lp_slices_IndexFunc_int64_int64__q3201_l0, st_slices_IndexFunc_int64_int64__q3201_l0]; omega) (fun i b a hb hI => ?_) (fun a hI => ?_)
  · exact key
  · obtain ⟨⟩ := a
    have hlt := (List.getElem?_eq_some_iff.1 hb).1
    have hget : ∀ d, Option.getD y2[i]? d = b := fun d => by rw [hb]; rfl
    have hw := wrap64 hlt hn
    have hdec : ltI (i : Int) (y2.length : Int) = true := ltI_t (by omega)
    have hnn : leI (0 : Int) (i : Int) = true := leI_t (by omega)
    have hltd : ltN i y2.length = true := ltN_t hlt
    refine ⟨?_, ?_, ?_, ?_⟩
    · simp [slices_IndexFunc_int64_int64__q3201_l0_0, slices_IndexFunc_int64_int64__q3201_l0_1, slices_IndexFunc_int64_int64__q3201_l0_2, slices_IndexFunc_int64_int64__q3201_l0_3, slices_IndexFunc_int64_int64__q3201_l0_4, slices_IndexFunc_int64_int64__q3201_l0_5, lt_slices_IndexFunc_int64_int64__q3201_l0, lp_slices_IndexFunc_int64_int64__q3201_l0, LT.nds, allT, st_slices_IndexFunc_int64_int64__q3201_l0, hdec, hnn, hltd, hget]
    · simp [slices_IndexFunc_int64_int64__q3201_l0_0, slices_IndexFunc_int64_int64__q3201_l0_1, slices_IndexFunc_int64_int64__q3201_l0_2, slices_IndexFunc_int64_int64__q3201_l0_3, slices_IndexFunc_int64_int64__q3201_l0_4, slices_IndexFunc_int64_int64__q3201_l0_5, lt_slices_IndexFunc_int64_int64__q3201_l0, lp_slices_IndexFunc_int64_int64__q3201_l0, LT.each, st_slices_IndexFunc_int64_int64__q3201_l0, pr_slices_IndexFunc_int64_int64__q3201_l0, hw]
    · simp only [slices_IndexFunc_int64_int64__q3201_l0_0, slices_IndexFunc_int64_int64__q3201_l0_1, slices_IndexFunc_int64_int64__q3201_l0_2, slices_IndexFunc_int64_int64__q3201_l0_3, slices_IndexFunc_int64_int64__q3201_l0_4, slices_IndexFunc_int64_int64__q3201_l0_5, lt_slices_IndexFunc_int64_int64__q3201_l0, lp_slices_IndexFunc_int64_int64__q3201_l0, LT.fn, st_slices_IndexFunc_int64_int64__q3201_l0, pr_slices_IndexFunc_int64_int64__q3201_l0, f_slices_IndexFunc_int64_int64__q3201_l0, Int.toNat_natCast, hdec, hnn, hltd, hget, cond_true, Bool.cond_self]
    · exact fun _ _ => trivial
  · obtain ⟨⟩ := a
    simp [slices_IndexFunc_int64_int64__q3201_l0_0, slices_IndexFunc_int64_int64__q3201_l0_1, slices_IndexFunc_int64_int64__q3201_l0_2, slices_IndexFunc_int64_int64__q3201_l0_3, slices_IndexFunc_int64_int64__q3201_l0_4, slices_IndexFunc_int64_int64__q3201_l0_5, lt_slices_IndexFunc_int64_int64__q3201_l0, lp_slices_IndexFunc_int64_int64__q3201_l0, LT.out, st_slices_IndexFunc_int64_int64__q3201_l0]

theorem specBits_ok (n : Int) (l : List Int) (h : leN l.length 9223372036854775807 = true) : spec_l22Bits_0 n l = bitsB n l ∧ spec_l22Bits_1 l = true := by
  obtain ⟨w1, w2⟩ := w_spec_l22Bits_l0 l (leN_iff.1 h)
  rw [walk_stop (P := fun v => !inR v 0 1) (j := 0) (fun v => by simp only [f_spec_l22Bits_l0, spec_l01In_0, inR_eq])] at w2
  have e5 : (l.any fun v => !inR v 0 1) = !l.all fun v => inR v 0 1 := by simp [List.all_eq_not_any_not]
  rw [e5] at w2
  simp only [spec_l22Bits_0, spec_l22Bits_1, w1, w2, allT, bitsB]
  cases (l.all fun v => inR v 0 1) <;> simp [Nat.beq]

theorem bit_in (v : Int) : (bif v != 0 then v != 1 else false) = !inR v 0 1 := by
  have : inR v 0 1 = (v == 0 || v == 1) := by rw [Bool.eq_iff_iff, inR_iff]; simp; omega
  rw [this]
  cases h0 : v == 0 <;> simp [bne, h0]

theorem implBits_ok (n : Int) (l : List Int) (h : leN l.length 9223372036854775807 = true) : impl_areBits_0 n l = bitsB n l ∧ impl_areBits_1 n l = true := by
  obtain ⟨w1, w2⟩ := w_slices_IndexFunc_int64_int64__q3201_l0 l (leN_iff.1 h)
  rw [walk_stop (P := fun v => !inR v 0 1) (j := 0) (fun v => by simp only [f_slices_IndexFunc_int64_int64__q3201_l0, impl_areBits_1_q3202_0, bit_in])] at w2
  have e5 : (l.any fun v => !inR v 0 1) = !l.all fun v => inR v 0 1 := by simp [List.all_eq_not_any_not]
  rw [e5] at w2
  have q : ∀ m : Nat, leI 0 (m : Int) = true := fun m => leI_t (by omega)
  have q2 : leI 0 (-1) = false := rfl
  simp only [impl_areBits_0, impl_areBits_1, slices_ContainsFunc_int64_int64__q3200_0, slices_ContainsFunc_int64_int64__q3200_1, slices_IndexFunc_int64_int64__q3201_0, slices_IndexFunc_int64_int64__q3201_1, slices_IndexFunc_int64_int64__q3201_a0, w1, w2, allT, bitsB, st_slices_IndexFunc_int64_int64__q3201_l0]
  cases (l.all fun v => inR v 0 1) <;> cases ((l.length : Int) == n) <;> simp [Nat.beq, q, q2]

def N_spec_l22Bits : List SV → List Entry → Option Out
  | [.one ⟨false, [.ref 0]⟩, .one ⟨false, [.val (.int .i64 x0)]⟩], [.row false 2 (.int .i64) x1] => some ⟨(.one ⟨false, [(.val (.bool (bitsB x0 x1)))]⟩), [(.row false 2 (CTy.int IntKind.i64) x1)], [], [leN x1.length 9223372036854775807]⟩
  | _, _ => none

def n_spec_l22Bits : PF Tryd.prog := PF.alt p_spec_l22Bits N_spec_l22Bits (by
  intro args es o h hnd; unfold N_spec_l22Bits at h; split at h
  · rename_i x0 x1
    cases h
    have hnd := nd_fst hnd
    have hh := specBits_ok x0 x1 hnd
    obtain ⟨e0, en⟩ := hh
    exact altok rfl (nd_one en) (by simp only [e0] <;> rfl) rfl rfl
  · cases h)

def N_impl_areBits : List SV → List Entry → Option Out
  | [.one ⟨false, [.ref 0]⟩, .one ⟨false, [.val (.int .i64 x0)]⟩], [.row false 2 (.int .i64) x1] => some ⟨(.one ⟨false, [(.val (.bool (bitsB x0 x1)))]⟩), [(.row false 2 (CTy.int IntKind.i64) x1)], [], [leN x1.length 9223372036854775807]⟩
  | _, _ => none

def n_impl_areBits : PF Tryd.prog := PF.alt p_impl_areBits N_impl_areBits (by
  intro args es o h hnd; unfold N_impl_areBits at h; split at h
  · rename_i x0 x1
    cases h
    have hnd := nd_fst hnd
    have hh := implBits_ok x0 x1 hnd
    obtain ⟨e0, en⟩ := hh
    exact altok rfl (nd_one en) (by simp only [e0] <;> rfl) rfl rfl
  · cases h)

end Go.SX

/- Memories that suit codes, in plain words. -/
import Derived.Test.YtepaifhehlpbaaaDoorNo
namespace Go.SX
open Go.Proofs
set_option maxRecDepth 100000

def termAt (bs : List TM) (k : Nat) : TM := Option.getD bs[k]? ((0 : Int), ByteArray.empty, (0 : Int))
def stAt (ss : List BS3) (k : Nat) : BS3 := Option.getD ss[k]? ((0 : Int), (0 : Int), (0 : Int))
def possAt (bs : List TM) (ss : List BS3) (k : Nat) : Bool := possB (termAt bs k).1 (termAt bs k).2.2 (stAt ss k).1 (stAt ss k).2.1 (stAt ss k).2.2
/-- A memory suits a code. -/
def suitB (v : Int) (bs : List TM) (xs : List Int) (ss : List BS3) : Bool := ((ss.length : Int) == (bs.length : Int)) && (bitsB v xs && (List.range bs.length).all fun k => possAt bs ss k)

def f_spec_l18Suits_l0 (y4 : List (Int × (ByteArray × Int))) (y7 : List (Int × (Int × Int))) (b : Nat) : (Unit) → Nat ⊕ (Unit)
  | _ => (bif ((!spec_l15Possible_0 (Prod.fst ((Option.getD y4[b]? ((0 : Int), ByteArray.empty, (0 : Int))))) (Prod.snd (Prod.snd ((Option.getD y4[b]? ((0 : Int), ByteArray.empty, (0 : Int)))))) (Prod.fst ((Option.getD y7[b]? ((0 : Int), (0 : Int), (0 : Int))))) (Prod.fst (Prod.snd ((Option.getD y7[b]? ((0 : Int), (0 : Int), (0 : Int)))))) (Prod.snd (Prod.snd ((Option.getD y7[b]? ((0 : Int), (0 : Int), (0 : Int)))))))) then (.inl 0) else (.inr ()))

def st_spec_l18Suits_l0 (y1 : Int) (y2 : Int) (y3 : Int) (y4 : List (Int × (ByteArray × Int))) (y5 : List (Int × Int)) (y6 : List Int) (y7 : List (Int × (Int × Int))) (i : Nat) : (Unit) → X_spec_l18Suits_l0
  | _ => ((i : Int), y1, y2, y3, y4, y5, y6, y7)

def pr_spec_l18Suits_l0 : X_spec_l18Suits_l0 → Unit
  | (_, _, _, _, _, _, _, _) => ()

theorem w_spec_l18Suits_l0 (y1 : Int) (y2 : Int) (y3 : Int) (y4 : List (Int × (ByteArray × Int))) (y5 : List (Int × Int)) (y6 : List Int) (y7 : List (Int × (Int × Int)))  (hn : y4.length ≤ 9223372036854775807) (he : y7.length = y4.length) :
    lp_spec_l18Suits_l0.fin ((0 : Int), y1, y2, y3, y4, y5, y6, y7) = true ∧ lp_spec_l18Suits_l0.res ((0 : Int), y1, y2, y3, y4, y5, y6, y7) = ((walkL (f_spec_l18Suits_l0 y4 y7) 1 (List.range y4.length) 0 ()).1, (st_spec_l18Suits_l0 y1 y2 y3 y4 y5 y6 y7) (walkL (f_spec_l18Suits_l0 y4 y7) 1 (List.range y4.length) 0 ()).2.1 (walkL (f_spec_l18Suits_l0 y4 y7) 1 (List.range y4.length) 0 ()).2.2) := by
  have key := lp_spec_l18Suits_l0.along (st_spec_l18Suits_l0 y1 y2 y3 y4 y5 y6 y7) pr_spec_l18Suits_l0 (f_spec_l18Suits_l0 y4 y7) 1 (fun _ _ => True) (List.range y4.length) () (by trivial) (by simp only [lp_spec_l18Suits_l0, st_spec_l18Suits_l0, List.length_range]; omega) (fun i b a hb hI => ?_) (fun a hI => ?_)
  · exact key
  · obtain ⟨⟩ := a
    obtain ⟨rfl, hlt⟩ := range_get hb
    have hw : IntKind.i64.wrap ((b : Int) + 1) = ((b + 1 : Nat) : Int) := by rw [wrap_i64 (by omega) (by omega)]; omega
    have hdec : ltI (b : Int) (y4.length : Int) = true := ltI_t (by omega)
    have hnn : leI (0 : Int) (b : Int) = true := leI_t (by omega)
    have hltd : ltN b y4.length = true := ltN_t (by omega)
    refine ⟨?_, ?_, ?_, ?_⟩
    · simp [spec_l18Suits_l0_a0, spec_l18Suits_l0_a1, spec_l18Suits_l0_0, spec_l18Suits_l0_1, spec_l18Suits_l0_2, spec_l18Suits_l0_3, spec_l18Suits_l0_4, spec_l18Suits_l0_5, spec_l18Suits_l0_6, lt_spec_l18Suits_l0, lp_spec_l18Suits_l0, LT.nds, allT, st_spec_l18Suits_l0, hdec, hnn, hltd, he]
    · simp [spec_l18Suits_l0_a0, spec_l18Suits_l0_a1, spec_l18Suits_l0_0, spec_l18Suits_l0_1, spec_l18Suits_l0_2, spec_l18Suits_l0_3, spec_l18Suits_l0_4, spec_l18Suits_l0_5, spec_l18Suits_l0_6, lt_spec_l18Suits_l0, lp_spec_l18Suits_l0, LT.each, st_spec_l18Suits_l0, pr_spec_l18Suits_l0, hw, he]
    · simp only [spec_l18Suits_l0_a0, spec_l18Suits_l0_a1, spec_l18Suits_l0_0, spec_l18Suits_l0_1, spec_l18Suits_l0_2, spec_l18Suits_l0_3, spec_l18Suits_l0_4, spec_l18Suits_l0_5, spec_l18Suits_l0_6, lt_spec_l18Suits_l0, lp_spec_l18Suits_l0, LT.fn, st_spec_l18Suits_l0, pr_spec_l18Suits_l0, f_spec_l18Suits_l0, Int.toNat_natCast, hdec, cond_true]
    · exact fun _ _ => trivial
  · obtain ⟨⟩ := a
    simp [spec_l18Suits_l0_a0, spec_l18Suits_l0_a1, spec_l18Suits_l0_0, spec_l18Suits_l0_1, spec_l18Suits_l0_2, spec_l18Suits_l0_3, spec_l18Suits_l0_4, spec_l18Suits_l0_5, spec_l18Suits_l0_6, lt_spec_l18Suits_l0, lp_spec_l18Suits_l0, LT.out, st_spec_l18Suits_l0, List.length_range]

def f_loop_example_g00916_impl_Memory_suits_l0 (y2 : List (Int × (ByteArray × Int))) (y4 : List (Int × (Int × Int))) (b : Nat) : (Unit) → Nat ⊕ (Unit)
  | _ => (bif ((!impl_isPossible_0 (Prod.fst ((Option.getD y2[b]? ((0 : Int), ByteArray.empty, (0 : Int))))) (Prod.snd (Prod.snd ((Option.getD y2[b]? ((0 : Int), ByteArray.empty, (0 : Int)))))) (Prod.fst ((Option.getD y4[b]? ((0 : Int), (0 : Int), (0 : Int))))) (Prod.fst (Prod.snd ((Option.getD y4[b]? ((0 : Int), (0 : Int), (0 : Int)))))) (Prod.snd (Prod.snd ((Option.getD y4[b]? ((0 : Int), (0 : Int), (0 : Int)))))))) then (.inl 0) else (.inr ()))

def st_loop_example_g00916_impl_Memory_suits_l0 (y2 : List (Int × (ByteArray × Int))) (y3 : List Int) (y4 : List (Int × (Int × Int))) (i : Nat) : (Unit) → X_loop_example_g00916_impl_Memory_suits_l0
  | _ => ((i : Int), (↑(List.length y2) : Int), y2, y3, y4)

def pr_loop_example_g00916_impl_Memory_suits_l0 : X_loop_example_g00916_impl_Memory_suits_l0 → Unit
  | (_, _, _, _, _) => ()

theorem w_loop_example_g00916_impl_Memory_suits_l0 (y2 : List (Int × (ByteArray × Int))) (y3 : List Int) (y4 : List (Int × (Int × Int)))  (hn : y2.length ≤ 9223372036854775807) (he : y4.length = y2.length) :
    lp_loop_example_g00916_impl_Memory_suits_l0.fin ((0 : Int), (↑(List.length y2) : Int), y2, y3, y4) = true ∧ lp_loop_example_g00916_impl_Memory_suits_l0.res ((0 : Int), (↑(List.length y2) : Int), y2, y3, y4) = ((walkL (f_loop_example_g00916_impl_Memory_suits_l0 y2 y4) 1 (List.range y2.length) 0 ()).1, (st_loop_example_g00916_impl_Memory_suits_l0 y2 y3 y4) (walkL (f_loop_example_g00916_impl_Memory_suits_l0 y2 y4) 1 (List.range y2.length) 0 ()).2.1 (walkL (f_loop_example_g00916_impl_Memory_suits_l0 y2 y4) 1 (List.range y2.length) 0 ()).2.2) := by
  have key := lp_loop_example_g00916_impl_Memory_suits_l0.along (st_loop_example_g00916_impl_Memory_suits_l0 y2 y3 y4) pr_loop_example_g00916_impl_Memory_suits_l0 (f_loop_example_g00916_impl_Memory_suits_l0 y2 y4) 1 (fun _ _ => True) (List.range y2.length) () (by trivial) (by simp only [lp_loop_example_g00916_impl_Memory_suits_l0, st_loop_example_g00916_impl_Memory_suits_l0, List.length_range]; omega) (fun i b a hb hI => ?_) (fun a hI => ?_)
  · exact key
  · obtain ⟨⟩ := a
    obtain ⟨rfl, hlt⟩ := range_get hb
    have hw : IntKind.i64.wrap ((b : Int) + 1) = ((b + 1 : Nat) : Int) := by rw [wrap_i64 (by omega) (by omega)]; omega
    have hdec : ltI (b : Int) (y2.length : Int) = true := ltI_t (by omega)
    have hnn : leI (0 : Int) (b : Int) = true := leI_t (by omega)
    have hltd : ltN b y2.length = true := ltN_t (by omega)
    refine ⟨?_, ?_, ?_, ?_⟩
    · simp [loop_example_g00916_impl_Memory_suits_l0_a0, loop_example_g00916_impl_Memory_suits_l0_a1, loop_example_g00916_impl_Memory_suits_l0_0, loop_example_g00916_impl_Memory_suits_l0_1, loop_example_g00916_impl_Memory_suits_l0_2, loop_example_g00916_impl_Memory_suits_l0_3, loop_example_g00916_impl_Memory_suits_l0_4, loop_example_g00916_impl_Memory_suits_l0_5, loop_example_g00916_impl_Memory_suits_l0_6, loop_example_g00916_impl_Memory_suits_l0_7, lt_loop_example_g00916_impl_Memory_suits_l0, lp_loop_example_g00916_impl_Memory_suits_l0, LT.nds, allT, st_loop_example_g00916_impl_Memory_suits_l0, hdec, hnn, hltd, he]
    · simp [loop_example_g00916_impl_Memory_suits_l0_a0, loop_example_g00916_impl_Memory_suits_l0_a1, loop_example_g00916_impl_Memory_suits_l0_0, loop_example_g00916_impl_Memory_suits_l0_1, loop_example_g00916_impl_Memory_suits_l0_2, loop_example_g00916_impl_Memory_suits_l0_3, loop_example_g00916_impl_Memory_suits_l0_4, loop_example_g00916_impl_Memory_suits_l0_5, loop_example_g00916_impl_Memory_suits_l0_6, loop_example_g00916_impl_Memory_suits_l0_7, lt_loop_example_g00916_impl_Memory_suits_l0, lp_loop_example_g00916_impl_Memory_suits_l0, LT.each, st_loop_example_g00916_impl_Memory_suits_l0, pr_loop_example_g00916_impl_Memory_suits_l0, hw, he]
    · simp only [loop_example_g00916_impl_Memory_suits_l0_a0, loop_example_g00916_impl_Memory_suits_l0_a1, loop_example_g00916_impl_Memory_suits_l0_0, loop_example_g00916_impl_Memory_suits_l0_1, loop_example_g00916_impl_Memory_suits_l0_2, loop_example_g00916_impl_Memory_suits_l0_3, loop_example_g00916_impl_Memory_suits_l0_4, loop_example_g00916_impl_Memory_suits_l0_5, loop_example_g00916_impl_Memory_suits_l0_6, loop_example_g00916_impl_Memory_suits_l0_7, lt_loop_example_g00916_impl_Memory_suits_l0, lp_loop_example_g00916_impl_Memory_suits_l0, LT.fn, st_loop_example_g00916_impl_Memory_suits_l0, pr_loop_example_g00916_impl_Memory_suits_l0, f_loop_example_g00916_impl_Memory_suits_l0, Int.toNat_natCast, hdec, cond_true]
    · exact fun _ _ => trivial
  · obtain ⟨⟩ := a
    simp [loop_example_g00916_impl_Memory_suits_l0_a0, loop_example_g00916_impl_Memory_suits_l0_a1, loop_example_g00916_impl_Memory_suits_l0_0, loop_example_g00916_impl_Memory_suits_l0_1, loop_example_g00916_impl_Memory_suits_l0_2, loop_example_g00916_impl_Memory_suits_l0_3, loop_example_g00916_impl_Memory_suits_l0_4, loop_example_g00916_impl_Memory_suits_l0_5, loop_example_g00916_impl_Memory_suits_l0_6, loop_example_g00916_impl_Memory_suits_l0_7, lt_loop_example_g00916_impl_Memory_suits_l0, lp_loop_example_g00916_impl_Memory_suits_l0, LT.out, st_loop_example_g00916_impl_Memory_suits_l0, List.length_range]

theorem any_all {α : Type} {g h : α → Bool} : ∀ (l : List α), (∀ k ∈ l, g k = h k) → (l.any fun b => !g b) = !l.all h
  | [], _ => rfl
  | a :: l, hg => by
    rw [List.any_cons, List.all_cons, hg a (by simp), any_all l (fun k hk => hg k (by simp [hk]))]
    cases h a <;> simp

theorem specSuits (i v o : Int) (bs : List TM) (st : List IN) (xs : List Int) (ss : List BS3) (h : (leN xs.length 9223372036854775807 && leN bs.length 9223372036854775807) = true) :
    spec_l18Suits_0 i v o bs st xs ss = suitB v bs xs ss ∧ spec_l18Suits_1 i v o bs st xs ss = true := by
  simp only [Bool.and_eq_true] at h
  have hn := leN_iff.1 h.2
  by_cases hl : ss.length = bs.length
  · obtain ⟨w1, w2⟩ := w_spec_l18Suits_l0 i v o bs st xs ss hn hl
    rw [walk_stop (P := fun k => !possAt bs ss k) (j := 0) (fun k => rfl), any_all (g := possAt bs ss) (h := possAt bs ss) _ (fun k _ => rfl)] at w2
    have a0 : spec_l18Suits_a0 bs ss = false := by simp [spec_l18Suits_a0, hl]
    simp only [spec_l18Suits_0, spec_l18Suits_1, spec_l18Suits_a1, a0, w1, w2, h.1, allT, suitB, hl]
    cases bitsB v xs <;> cases (List.range bs.length).all (possAt bs ss) <;> simp [Nat.beq]
  · have hl2 : ¬ ((ss.length : Int) = (bs.length : Int)) := by omega
    have a0 : spec_l18Suits_a0 bs ss = true := by simp [spec_l18Suits_a0, hl2]
    have e : ((ss.length : Int) == (bs.length : Int)) = false := by simpa using hl2
    simp [spec_l18Suits_0, spec_l18Suits_1, a0, allT, suitB, e]

theorem implSuits (v : Int) (bs : List TM) (xs : List Int) (ss : List BS3) (h : (leN xs.length 9223372036854775807 && (leN bs.length 9223372036854775807 && blksB bs)) = true) :
    loop_example_g00916_impl_Memory_suits_0 v xs ss bs = suitB v bs xs ss ∧ loop_example_g00916_impl_Memory_suits_1 v xs ss bs = true := by
  simp only [Bool.and_eq_true] at h
  have hn := leN_iff.1 h.2.1
  have hB : ∀ t ∈ bs, blockB t.1 t.2.1 t.2.2 = true := List.all_eq_true.1 h.2.2
  by_cases hl : ss.length = bs.length
  · obtain ⟨w1, w2⟩ := w_loop_example_g00916_impl_Memory_suits_l0 bs xs ss hn hl
    rw [walk_stop (P := fun k => !impl_isPossible_0 (termAt bs k).1 (termAt bs k).2.2 (stAt ss k).1 (stAt ss k).2.1 (stAt ss k).2.2) (j := 0) (fun k => rfl),
      any_all (g := fun k => impl_isPossible_0 (termAt bs k).1 (termAt bs k).2.2 (stAt ss k).1 (stAt ss k).2.1 (stAt ss k).2.2) (h := possAt bs ss) _ (fun k hk => by
        have hk : k < bs.length := List.mem_range.1 hk
        have hg : termAt bs k = bs[k] := by simp only [termAt, List.getElem?_eq_getElem hk]; rfl
        have := hB _ (List.getElem_mem hk)
        rw [← hg] at this
        exact poss_eq (blockB_iff this).1)] at w2
    have a0 : loop_example_g00916_impl_Memory_suits_a0 v xs ss bs = !bitsB v xs := by simp only [loop_example_g00916_impl_Memory_suits_a0, hl]; cases bitsB v xs <;> simp
    simp only [loop_example_g00916_impl_Memory_suits_0, loop_example_g00916_impl_Memory_suits_1, loop_example_g00916_impl_Memory_suits_a1, a0, w1, w2, h.1, allT, suitB, hl]
    cases bitsB v xs <;> cases (List.range bs.length).all (possAt bs ss) <;> simp [Nat.beq]
  · have hl2 : ¬ ((ss.length : Int) = (bs.length : Int)) := by omega
    have a0 : loop_example_g00916_impl_Memory_suits_a0 v xs ss bs = true := by simp only [loop_example_g00916_impl_Memory_suits_a0]; cases bitsB v xs <;> simp [hl2]
    have e : ((ss.length : Int) == (bs.length : Int)) = false := by simpa using hl2
    simp [loop_example_g00916_impl_Memory_suits_0, loop_example_g00916_impl_Memory_suits_1, a0, allT, suitB, e, h.1]

def N_spec_l18Suits : List SV → List Entry → Option Out
  | [.one ⟨true, [.val (.int .i64 x0), .val (.int .i64 x1), .val (.int .i64 x2), .ref 0, .ref 1]⟩, .one ⟨true, [.ref 2, .ref 3]⟩], [.row false 31 (.pair (.int .i64) (.pair (.str) (.int .i64))) x3, .row false 144 (.pair (.int .i64) (.int .i64)) x4, .row false 2 (.int .i64) x5, .row false 28 (.pair (.int .i64) (.pair (.int .i64) (.int .i64))) x6] => some ⟨(.one ⟨false, [(.val (.bool (suitB x1 x3 x5 x6)))]⟩), [(.row false 31 (CTy.pair (CTy.int IntKind.i64) (CTy.pair CTy.str (CTy.int IntKind.i64))) x3), (.row false 144 (CTy.pair (CTy.int IntKind.i64) (CTy.int IntKind.i64)) x4), (.row false 2 (CTy.int IntKind.i64) x5), (.row false 28 (CTy.pair (CTy.int IntKind.i64) (CTy.pair (CTy.int IntKind.i64) (CTy.int IntKind.i64))) x6)], [], [leN x5.length 9223372036854775807 && leN x3.length 9223372036854775807]⟩
  | _, _ => none

def n_spec_l18Suits : PF Tryd.prog := PF.alt p_spec_l18Suits N_spec_l18Suits (by
  intro args es o h hnd; unfold N_spec_l18Suits at h; split at h
  · rename_i x0 x1 x2 x3 x4 x5 x6
    cases h
    have hnd := nd_fst hnd
    have hh := specSuits x0 x1 x2 x3 x4 x5 x6 hnd
    obtain ⟨e0, en⟩ := hh
    exact altok rfl (nd_one en) (by simp only [e0] <;> rfl) rfl rfl
  · cases h)

def N_loop_example_g00916_impl_Memory_suits : List SV → List Entry → Option Out
  | [.one ⟨true, [.ref 0, .ref 1]⟩, .one ⟨false, [.val (.int .i64 x0)]⟩, .one ⟨false, [.ref 2]⟩], [.row false 2 (.int .i64) x1, .row false 28 (.pair (.int .i64) (.pair (.int .i64) (.int .i64))) x2, .row false 31 (.pair (.int .i64) (.pair (.str) (.int .i64))) x3] => some ⟨(.one ⟨false, [(.val (.bool (suitB x0 x3 x1 x2)))]⟩), [(.row false 2 (CTy.int IntKind.i64) x1), (.row false 28 (CTy.pair (CTy.int IntKind.i64) (CTy.pair (CTy.int IntKind.i64) (CTy.int IntKind.i64))) x2), (.row false 31 (CTy.pair (CTy.int IntKind.i64) (CTy.pair CTy.str (CTy.int IntKind.i64))) x3)], [], [leN x1.length 9223372036854775807 && (leN x3.length 9223372036854775807 && blksB x3)]⟩
  | _, _ => none

def n_loop_example_g00916_impl_Memory_suits : PF Tryd.prog := PF.alt p_loop_example_g00916_impl_Memory_suits N_loop_example_g00916_impl_Memory_suits (by
  intro args es o h hnd; unfold N_loop_example_g00916_impl_Memory_suits at h; split at h
  · rename_i x0 x1 x2 x3
    cases h
    have hnd := nd_fst hnd
    have hh := implSuits x0 x3 x1 x2 hnd
    obtain ⟨e0, en⟩ := hh
    exact altok rfl (nd_one en) (by simp only [e0] <;> rfl) rfl rfl
  · cases h)

end Go.SX

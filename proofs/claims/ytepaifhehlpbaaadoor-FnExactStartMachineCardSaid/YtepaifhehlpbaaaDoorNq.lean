/- Machines that start, in plain words. -/
import Derived.Test.YtepaifhehlpbaaaDoorRm
namespace Go.SX
open Go.Proofs
set_option maxRecDepth 100000

def smCode (i v o : Int) (bs : List TM) (st : List IN) (xs : List Int) (ss : List BS3) : Int := bif !codeB i v o bs st then 1 else bif !suitB v bs xs ss then 2 else 0
def smV (i v o : Int) (bs : List TM) (st : List IN) (xs : List Int) (ss : List BS3) : List Int := bif smCode i v o bs st xs ss == 0 then xs else []
def smO (i v o : Int) (bs : List TM) (st : List IN) (xs : List Int) (ss : List BS3) : List Int := bif smCode i v o bs st xs ss == 0 then List.replicate o.toNat 0 else []
def smS (i v o : Int) (bs : List TM) (st : List IN) (xs : List Int) (ss : List BS3) : List BS3 := bif smCode i v o bs st xs ss == 0 then ss else []
def smNd (bs : List TM) (xs : List Int) (ss : List BS3) : Bool := tsOk bs && (leN xs.length 1048576 && leN ss.length 1048576)

theorem code_rng {i v o : Int} {bs : List TM} {st : List IN} (h : codeB i v o bs st = true) : ((0 ≤ i ∧ i ≤ 20) ∧ (0 ≤ v ∧ v ≤ 20) ∧ (0 ≤ o ∧ o ≤ 20) ∧ bs.length ≤ 2000 ∧ st.length ≤ 2000) ∧ blksB bs = true ∧ hgtOk i v o bs st = true := by
  simp only [codeB, Bool.and_eq_true] at h
  exact ⟨rngC_iff.1 h.1, h.2.1, h.2.2⟩

theorem q4105 (i v o : Int) (bs : List TM) (st : List IN) : lp_slices_IndexFunc_int64_int64_q4105_l0.fin (slices_IndexFunc_int64_int64_q4105_a0 [] i v o bs st) = true ∧ lp_slices_IndexFunc_int64_int64_q4105_l0.res (slices_IndexFunc_int64_int64_q4105_a0 [] i v o bs st) = (1, (0, 0, i, v, o, [], bs, st)) := by
  have h1 : runL lp_slices_IndexFunc_int64_int64_q4105_l0.lt (0 + 1) (slices_IndexFunc_int64_int64_q4105_a0 [] i v o bs st) = some (1, (0, 0, i, v, o, [], bs, st)) := runL_end _ rfl
  exact lp_slices_IndexFunc_int64_int64_q4105_l0.run h1 (le_big (by omega))

theorem memCode (i v o : Int) (bs : List TM) (st : List IN) (xs : List Int) (ss : List BS3) (h : smNd bs xs ss = true) : impl_memoryCode_q4103_0 i v o bs st xs ss = smCode i v o bs st xs ss ∧ impl_memoryCode_q4103_1 i v o bs st xs ss = true := by
  simp only [smNd, Bool.and_eq_true] at h
  have hx := leN_iff.1 h.2.1
  have hn := (tsOk_iff.1 h.1).1
  obtain ⟨w1, w2⟩ := q4105 i v o bs st
  have ea : impl_memoryCode_q4103_a0 v bs xs ss = [] := by simp only [impl_memoryCode_q4103_a0]; cases (!!suitB v bs xs ss && true) <;> rfl
  have t1 : leN xs.length 9223372036854775807 = true := leN_t (by omega)
  have t2 : leN bs.length 9223372036854775807 = true := leN_t hn
  simp only [impl_memoryCode_q4103_0, impl_memoryCode_q4103_1, slices_ContainsFunc_int64_int64_q4104_0, slices_ContainsFunc_int64_int64_q4104_5, slices_IndexFunc_int64_int64_q4105_0, slices_IndexFunc_int64_int64_q4105_5, slices_IndexFunc_int64_int64_q4105_a1, ea, w1, w2, smCode, t1, t2, allT]
  cases hc : codeB i v o bs st with
  | false => exact ⟨rfl, rfl⟩
  | true =>
    have hb := (code_rng hc).2.1
    rw [hb]
    cases suitB v bs xs ss <;> exact ⟨rfl, rfl⟩

theorem startImpl (i v o : Int) (bs : List TM) (st : List IN) (xs : List Int) (ss : List BS3) (h : smNd bs xs ss = true) :
    impl_StartMachine_0 i v o bs st xs ss = 0 ∧ impl_StartMachine_1 i v o bs st xs ss = smCode i v o bs st xs ss ∧ impl_StartMachine_2 i v o bs st xs ss = [] ∧ impl_StartMachine_3 i v o bs st xs ss = smV i v o bs st xs ss ∧
    impl_StartMachine_4 i v o bs st xs ss = smO i v o bs st xs ss ∧ impl_StartMachine_5 i v o bs st xs ss = smS i v o bs st xs ss ∧ impl_StartMachine_6 i v o bs st xs ss = true := by
  obtain ⟨m0, m1⟩ := memCode i v o bs st xs ss h
  simp only [smNd, Bool.and_eq_true] at h
  simp only [impl_StartMachine_0, impl_StartMachine_1, impl_StartMachine_2, impl_StartMachine_3, impl_StartMachine_4, impl_StartMachine_5, impl_StartMachine_6, impl_StartMachine_a0, impl_start_0, impl_start_1, impl_start_2, loop_example_g00916_impl_Memory_clone_0, m0, m1, h.2.1, h.2.2, smV, smO, smS, bne, allT]
  cases hz : smCode i v o bs st xs ss == 0 with
  | false => simp
  | true =>
    have hc : codeB i v o bs st = true := by
      have hz := (by simpa using hz : smCode i v o bs st xs ss = 0)
      simp only [smCode] at hz
      cases hc : codeB i v o bs st with
      | true => rfl
      | false => rw [hc] at hz; cases hz
    have ho := (code_rng hc).1.2.2.1
    have t1 : leI 0 o = true := leI_t ho.1
    have t2 : leI o o = true := leI_t (by omega)
    have t3 : leI (((8 : Nat) : Int) * o) 281474976710656 = true := leI_t (by omega)
    have t4 : leI o 9223372036854775807 = true := leI_t (by omega)
    have hz := (by simpa using hz : smCode i v o bs st xs ss = 0)
    rw [t3]
    simp [t1, t2, t4, hz]

theorem startSpec (i v o : Int) (bs : List TM) (st : List IN) (xs : List Int) (ss : List BS3) (h : smNd bs xs ss = true) :
    spec_StartMachine_0 i v o bs st xs ss = 0 ∧ spec_StartMachine_1 i v o bs st xs ss = smCode i v o bs st xs ss ∧ spec_StartMachine_2 i v o bs st xs ss = [] ∧ spec_StartMachine_3 i v o bs st xs ss = smV i v o bs st xs ss ∧
    spec_StartMachine_4 i v o bs st xs ss = smO i v o bs st xs ss ∧ spec_StartMachine_5 i v o bs st xs ss = smS i v o bs st xs ss ∧ spec_StartMachine_6 i v o bs st xs ss = true := by
  simp only [smNd, Bool.and_eq_true] at h
  have hx := leN_iff.1 h.2.1
  have hs := leN_iff.1 h.2.2
  have hn := (tsOk_iff.1 h.1).1
  have t1 : leN xs.length 9223372036854775807 = true := leN_t (by omega)
  have t2 : leN bs.length 9223372036854775807 = true := leN_t hn
  have t3 : leN (0 + ss.length) 9223372036854775807 = true := leN_t (by omega)
  have t4 : leN ((0 + ss.length) * 24) 140737488355328 = true := leN_t (by omega)
  simp only [spec_StartMachine_0, spec_StartMachine_1, spec_StartMachine_2, spec_StartMachine_3, spec_StartMachine_4, spec_StartMachine_5, spec_StartMachine_6, spec_l18Start_0, spec_l18Start_1, spec_l18Start_2, smV, smO, smS, smCode, t1, t2, t3, t4, h.1, h.2.1, allT]
  cases hc : codeB i v o bs st with
  | false => simp
  | true =>
    have ho := (code_rng hc).1.2.2.1
    have u1 : leI 0 o = true := leI_t ho.1
    have u2 : leI o o = true := leI_t (by omega)
    have u3 : leI (((8 : Nat) : Int) * o) 281474976710656 = true := leI_t (by omega)
    have u4 : leI o 9223372036854775807 = true := leI_t (by omega)
    rw [u3]
    cases suitB v bs xs ss <;> simp [u1, u2, u4]

def N_impl_StartMachine : List SV → List Entry → Option Out
  | [.one ⟨true, [.val (.int .i64 x0), .val (.int .i64 x1), .val (.int .i64 x2), .ref 0, .ref 1]⟩, .one ⟨true, [.ref 2, .ref 3]⟩], [.row false 31 (.pair (.int .i64) (.pair (.str) (.int .i64))) x3, .row false 144 (.pair (.int .i64) (.int .i64)) x4, .row false 2 (.int .i64) x5, .row false 28 (.pair (.int .i64) (.pair (.int .i64) (.int .i64))) x6] => some ⟨(.tup [⟨true, [(.val (.int IntKind.i64 ((0 : Int)))), (.ref 4), (.ref 5), (.ref 6), (.ref 7)]⟩, ⟨false, [(.val (.int IntKind.i64 (smCode x0 x1 x2 x3 x4 x5 x6)))]⟩]), [(.row false 31 (CTy.pair (CTy.int IntKind.i64) (CTy.pair CTy.str (CTy.int IntKind.i64))) x3), (.row false 144 (CTy.pair (CTy.int IntKind.i64) (CTy.int IntKind.i64)) x4), (.row false 2 (CTy.int IntKind.i64) x5), (.row false 28 (CTy.pair (CTy.int IntKind.i64) (CTy.pair (CTy.int IntKind.i64) (CTy.int IntKind.i64))) x6)], [(.row true 2 (CTy.int IntKind.i64) (([] : List Int))), (.row true 2 (CTy.int IntKind.i64) (smV x0 x1 x2 x3 x4 x5 x6)), (.row true 2 (CTy.int IntKind.i64) (smO x0 x1 x2 x3 x4 x5 x6)), (.row true 28 (CTy.pair (CTy.int IntKind.i64) (CTy.pair (CTy.int IntKind.i64) (CTy.int IntKind.i64))) (smS x0 x1 x2 x3 x4 x5 x6))], [smNd x3 x5 x6]⟩
  | _, _ => none

def n_impl_StartMachine : PF Tryd.prog := PF.alt p_impl_StartMachine N_impl_StartMachine (by
  intro args es o h hnd; unfold N_impl_StartMachine at h; split at h
  · rename_i x0 x1 x2 x3 x4 x5 x6
    cases h
    have hnd := nd_fst hnd
    have hh := startImpl x0 x1 x2 x3 x4 x5 x6 hnd
    obtain ⟨e0, e1, e2, e3, e4, e5, en⟩ := hh
    exact altok rfl (nd_one en) (by simp only [e0, e1] <;> rfl) rfl (by simp only [e2, e3, e4, e5] <;> rfl)
  · cases h)

def N_spec_StartMachine : List SV → List Entry → Option Out
  | [.one ⟨true, [.val (.int .i64 x0), .val (.int .i64 x1), .val (.int .i64 x2), .ref 0, .ref 1]⟩, .one ⟨true, [.ref 2, .ref 3]⟩], [.row false 31 (.pair (.int .i64) (.pair (.str) (.int .i64))) x3, .row false 144 (.pair (.int .i64) (.int .i64)) x4, .row false 2 (.int .i64) x5, .row false 28 (.pair (.int .i64) (.pair (.int .i64) (.int .i64))) x6] => some ⟨(.tup [⟨true, [(.val (.int IntKind.i64 ((0 : Int)))), (.ref 4), (.ref 5), (.ref 6), (.ref 7)]⟩, ⟨false, [(.val (.int IntKind.i64 (smCode x0 x1 x2 x3 x4 x5 x6)))]⟩]), [(.row false 31 (CTy.pair (CTy.int IntKind.i64) (CTy.pair CTy.str (CTy.int IntKind.i64))) x3), (.row false 144 (CTy.pair (CTy.int IntKind.i64) (CTy.int IntKind.i64)) x4), (.row false 2 (CTy.int IntKind.i64) x5), (.row false 28 (CTy.pair (CTy.int IntKind.i64) (CTy.pair (CTy.int IntKind.i64) (CTy.int IntKind.i64))) x6)], [(.row true 2 (CTy.int IntKind.i64) (([] : List Int))), (.row true 2 (CTy.int IntKind.i64) (smV x0 x1 x2 x3 x4 x5 x6)), (.row true 2 (CTy.int IntKind.i64) (smO x0 x1 x2 x3 x4 x5 x6)), (.row true 28 (CTy.pair (CTy.int IntKind.i64) (CTy.pair (CTy.int IntKind.i64) (CTy.int IntKind.i64))) (smS x0 x1 x2 x3 x4 x5 x6))], [smNd x3 x5 x6]⟩
  | _, _ => none

def n_spec_StartMachine : PF Tryd.prog := PF.alt p_spec_StartMachine N_spec_StartMachine (by
  intro args es o h hnd; unfold N_spec_StartMachine at h; split at h
  · rename_i x0 x1 x2 x3 x4 x5 x6
    cases h
    have hnd := nd_fst hnd
    have hh := startSpec x0 x1 x2 x3 x4 x5 x6 hnd
    obtain ⟨e0, e1, e2, e3, e4, e5, en⟩ := hh
    exact altok rfl (nd_one en) (by simp only [e0, e1] <;> rfl) rfl (by simp only [e2, e3, e4, e5] <;> rfl)
  · cases h)

end Go.SX

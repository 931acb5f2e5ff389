/- Traffic, in plain words: moves and counts. -/
import Derived.Test.YtjhgiognlkmehaaRb
namespace Go.SX
open Go.Proofs
set_option maxRecDepth 100000

/-! ### Traffics copied, compared, marked -/

theorem toT_ok (ps : List Int) (h : leN ps.length 1048576 = true) : laws_toTraffic_0 ps = true := by simp only [laws_toTraffic_0, allT, h, cond_true]

def N_laws_toTraffic : List SV → List Entry → Option Out
  | [.one ⟨true, [.val (.int .i64 x0), .ref 0]⟩], [.row false 2 (.int .i64) x1] => some ⟨(.one ⟨true, [(.val (.int IntKind.i64 x0)), (.ref 1)]⟩), [(.row false 2 (CTy.int IntKind.i64) x1)], [(.row true 2 (CTy.int IntKind.i64) x1)], [leN x1.length 1048576]⟩
  | _, _ => none

def n_laws_toTraffic : PF Try.prog := PF.alt p_laws_toTraffic N_laws_toTraffic (by
  intro args es o h hnd; unfold N_laws_toTraffic at h; split at h
  · rename_i x0 x1
    cases h
    have hnd := nd_fst hnd
    have hh := toT_ok x1 hnd
    have en := hh
    exact altok rfl (nd_one en) rfl rfl rfl
  · cases h)

def eqT (n m : Int) (ps qs : List Int) : Bool := n == m && eqL ps qs

theorem eqT_ok (n m : Int) (ps qs : List Int) (h : leN ps.length 9223372036854775807 = true) : laws_eqTraffic_0 n m ps qs = eqT n m ps qs ∧ laws_eqTraffic_1 n m ps = true := by
  simp only [laws_eqTraffic_0, laws_eqTraffic_1, allT, h, eqT, bne]
  cases n == m <;> cases eqL ps qs <;> simp

def N_laws_eqTraffic : List SV → List Entry → Option Out
  | [.one ⟨true, [.val (.int .i64 x0), .ref 0]⟩, .one ⟨true, [.val (.int .i64 x1), .ref 1]⟩], [.row false 2 (.int .i64) x2, .row false 2 (.int .i64) x3] => some ⟨(.one ⟨false, [(.val (.bool (eqT x0 x1 x2 x3)))]⟩), [(.row false 2 (CTy.int IntKind.i64) x2), (.row false 2 (CTy.int IntKind.i64) x3)], [], [leN x2.length 9223372036854775807]⟩
  | _, _ => none

def n_laws_eqTraffic : PF Try.prog := PF.alt p_laws_eqTraffic N_laws_eqTraffic (by
  intro args es o h hnd; unfold N_laws_eqTraffic at h; split at h
  · rename_i x0 x1 x2 x3
    cases h
    have hnd := nd_fst hnd
    have hh := eqT_ok x0 x1 x2 x3 hnd
    obtain ⟨e0, en⟩ := hh
    exact altok rfl (nd_one en) (by simp only [e0] <;> rfl) rfl rfl
  · cases h)

theorem szT_ok (k : Int) (ps : List Int) (h : (leN ps.length 9223372036854775807 && (leI (-1) k && leI k 1048576)) = true) : laws_szTraffic_0 k ps = szV k ps ∧ laws_szTraffic_1 k ps = true := by
  simp only [laws_szTraffic_0, laws_szTraffic_1, allT, h, cond_true, and_true]
  cases hs : ltI (szV k ps) 0 with
  | false => rfl
  | true =>
    simp only [szV] at hs ⊢
    cases hq : ltI (k - (ps.length : Int)) 0 with
    | true => rfl
    | false => rw [hq, cond_false] at hs; rw [hs] at hq; cases hq

def N_laws_szTraffic : List SV → List Entry → Option Out
  | [.one ⟨true, [.val (.int .i64 _x0), .ref 0]⟩, .one ⟨false, [.val (.int .i64 x1)]⟩], [.row false 2 (.int .i64) x2] => some ⟨(.one ⟨false, [(.val (.int IntKind.i64 (szV x1 x2)))]⟩), [(.row false 2 (CTy.int IntKind.i64) x2)], [], [leN x2.length 9223372036854775807 && (leI (-1) x1 && leI x1 1048576)]⟩
  | _, _ => none

def n_laws_szTraffic : PF Try.prog := PF.alt p_laws_szTraffic N_laws_szTraffic (by
  intro args es o h hnd; unfold N_laws_szTraffic at h; split at h
  · rename_i _x0 x1 x2
    cases h
    have hnd := nd_fst hnd
    have hh := szT_ok x1 x2 hnd
    obtain ⟨e0, en⟩ := hh
    exact altok rfl (nd_one en) (by simp only [e0] <;> rfl) rfl rfl
  · cases h)

/-! ### Counts -/

end Go.SX

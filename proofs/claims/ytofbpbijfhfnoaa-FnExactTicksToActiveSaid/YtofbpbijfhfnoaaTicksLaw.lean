import Derived.Test.YtofbpbijfhfnoaaTicks
namespace Go.SX
open Go.Proofs Go.RowKit
set_option maxRecDepth 100000

def impl_TicksToActive_0 (x0 : Int) (x1 : Int) (x2 : Int) (x3 : Int) : Int :=
  bif !impl_IsPair_0 x0 x1 x2 x3 then 0
else
  bif bif !impl_Controller_isUp_0 x0 then !impl_Controller_isUp_0 x2 else false then -1
  else ((whileN c14 s14 20 (x0, x1, x2, x3, 0)).getD (x0, x1, x2, x3, 0)).snd.snd.snd.snd

def impl_TicksToActive_1 (x0 : Int) (x1 : Int) (x2 : Int) (x3 : Int) : Int :=
  bif !impl_IsPair_0 x0 x1 x2 x3 then 1 else bif bif !impl_Controller_isUp_0 x0 then !impl_Controller_isUp_0 x2 else false then 0 else 0

def impl_TicksToActive_2 (x0 : Int) (x1 : Int) (x2 : Int) (x3 : Int) : Bool :=
  !impl_IsPair_0 x0 x1 x2 x3 ||
  (fun n => (bif !impl_Controller_isUp_0 x0 then !impl_Controller_isUp_0 x2 else false) || n) (whileN c14 s14 20 (x0, x1, x2, x3, 0)).isSome

def F_impl_TicksToActive : List Value → Option (Value × List Bool)
  | [.agg ⟨[.int .i64 x0, .int .i64 x1, .int .i64 x2, .int .i64 x3]⟩] => some ((.tuple ⟨[(.int IntKind.i64 (impl_TicksToActive_0 x0 x1 x2 x3)), (.int IntKind.i64 (impl_TicksToActive_1 x0 x1 x2 x3))]⟩), [(impl_TicksToActive_2 x0 x1 x2 x3)])
  | _ => none

def p_impl_TicksToActive : PF Try.prog := PF.ofL Try.prog t14 [F14] hmix 14 Try.f14 Try.func14 hl14 F_impl_TicksToActive (by
  intro vs r h; unfold F_impl_TicksToActive at h; split at h
  · cases h; exact ⟨Nat.le_of_ble_eq_true (by kernel_rfl), by kernel_rfl⟩
  · cases h)

def spec_TicksToActive_0 (x0 : Int) (x1 : Int) (x2 : Int) (x3 : Int) : Int :=
  bif !spec_IsPair_0 x0 x1 x2 x3 then 0
else
  bif bif !spec_l31Up_0 x0 then !spec_l31Up_0 x2 else false then -1
  else ((whileN c12 s12 20 (x0, x1, x2, x3, 0)).getD (x0, x1, x2, x3, 0)).snd.snd.snd.snd

def spec_TicksToActive_1 (x0 : Int) (x1 : Int) (x2 : Int) (x3 : Int) : Int :=
  bif !spec_IsPair_0 x0 x1 x2 x3 then 1 else bif bif !spec_l31Up_0 x0 then !spec_l31Up_0 x2 else false then 0 else 0

def spec_TicksToActive_2 (x0 : Int) (x1 : Int) (x2 : Int) (x3 : Int) : Bool :=
  !spec_IsPair_0 x0 x1 x2 x3 || (fun n => (bif !spec_l31Up_0 x0 then !spec_l31Up_0 x2 else false) || n) (whileN c12 s12 20 (x0, x1, x2, x3, 0)).isSome

def F_spec_TicksToActive : List Value → Option (Value × List Bool)
  | [.agg ⟨[.int .i64 x0, .int .i64 x1, .int .i64 x2, .int .i64 x3]⟩] => some ((.tuple ⟨[(.int IntKind.i64 (spec_TicksToActive_0 x0 x1 x2 x3)), (.int IntKind.i64 (spec_TicksToActive_1 x0 x1 x2 x3))]⟩), [(spec_TicksToActive_2 x0 x1 x2 x3)])
  | _ => none

def p_spec_TicksToActive : PF Try.prog := PF.ofL Try.prog t12 [F12] hmix 12 Try.f12 Try.func12 hl12 F_spec_TicksToActive (by
  intro vs r h; unfold F_spec_TicksToActive at h; split at h
  · cases h; exact ⟨Nat.le_of_ble_eq_true (by kernel_rfl), by kernel_rfl⟩
  · cases h)

def laws_FnExactTicksToActive_0 (x0 : Int) (x1 : Int) (x2 : Int) (x3 : Int) : Bool :=
  bif
    bif impl_TicksToActive_0 x0 x1 x2 x3 != spec_TicksToActive_0 x0 x1 x2 x3 then true
    else impl_TicksToActive_1 x0 x1 x2 x3 != spec_TicksToActive_1 x0 x1 x2 x3 then
  false
else true

def laws_FnExactTicksToActive_1 (x0 : Int) (x1 : Int) (x2 : Int) (x3 : Int) : Bool :=
  spec_TicksToActive_2 x0 x1 x2 x3

def laws_FnExactTicksToActive_2 (x0 : Int) (x1 : Int) (x2 : Int) (x3 : Int) : Bool :=
  impl_TicksToActive_2 x0 x1 x2 x3

def F_laws_FnExactTicksToActive : List Value → Option (Value × List Bool)
  | [.agg ⟨[.int .i64 x0, .int .i64 x1, .int .i64 x2, .int .i64 x3]⟩] => some ((.bool (laws_FnExactTicksToActive_0 x0 x1 x2 x3)), [(laws_FnExactTicksToActive_1 x0 x1 x2 x3), (laws_FnExactTicksToActive_2 x0 x1 x2 x3)])
  | _ => none

def p_laws_FnExactTicksToActive : PF Try.prog := PF.ofV Try.prog [p_impl_TicksToActive, p_spec_TicksToActive, p_laws_toPair] hmix 3 Try.f3 Try.func3 F_laws_FnExactTicksToActive (by
  intro vs r h; unfold F_laws_FnExactTicksToActive at h; split at h
  · cases h; exact ⟨Nat.le_of_ble_eq_true (by kernel_rfl), by kernel_rfl⟩
  · cases h)


theorem isPair_eq (a b c d : Int) : spec_IsPair_0 a b c d = impl_IsPair_0 a b c d := by
  simp only [spec_IsPair_0, impl_IsPair_0, spec_l31Is_0, impl_isController_0, spec_l01In_0, impl_within_0, impl_Controller_isUp_0]

theorem range_of (a b c d : Int) (h : impl_IsPair_0 a b c d = true) : (0 ≤ a ∧ a ≤ 2) ∧ (0 ≤ b ∧ b ≤ 6) ∧ (0 ≤ c ∧ c ≤ 2) ∧ (0 ≤ d ∧ d ≤ 6) := by
  simp only [impl_IsPair_0, impl_isController_0, impl_within_0, Bool.cond_eq_ite] at h
  simp at h
  omega

def upTo (n : Nat) : List Int := (List.range n).map Int.ofNat

theorem mem_upTo {n : Nat} {a : Int} (h0 : 0 ≤ a) (h1 : a < n) : a ∈ upTo n := by
  unfold upTo
  rw [List.mem_map]
  exact ⟨a.toNat, by rw [List.mem_range]; omega, Int.toNat_of_nonneg h0⟩

def tickChk (a b c d : Int) : Bool := laws_FnExactTicksToActive_0 a b c d && laws_FnExactTicksToActive_1 a b c d && laws_FnExactTicksToActive_2 a b c d

theorem tickAll : ((upTo 3).all fun a => (upTo 7).all fun b => (upTo 3).all fun c => (upTo 7).all fun d => tickChk a b c d) = true := by kernel_rfl

theorem ticks_law (a b c d : Int) : tickChk a b c d = true := by
  cases h : impl_IsPair_0 a b c d with
  | true =>
    obtain ⟨⟨h1, h2⟩, ⟨h3, h4⟩, ⟨h5, h6⟩, h7, h8⟩ := range_of a b c d h
    have t := tickAll
    simp only [List.all_eq_true] at t
    exact t a (mem_upTo h1 (by omega)) b (mem_upTo h3 (by omega)) c (mem_upTo h5 (by omega)) d (mem_upTo h7 (by omega))
  | false =>
    have h' : spec_IsPair_0 a b c d = false := by rw [isPair_eq, h]
    simp [tickChk, laws_FnExactTicksToActive_0, laws_FnExactTicksToActive_1, laws_FnExactTicksToActive_2, impl_TicksToActive_0, impl_TicksToActive_1, impl_TicksToActive_2, spec_TicksToActive_0, spec_TicksToActive_1, spec_TicksToActive_2, h, h']

theorem ticks_calls (a b c d : Int) (w : World) : Calls Try.prog 3 #[.agg ⟨[.int .i64 a, .int .i64 b, .int .i64 c, .int .i64 d]⟩] w fun e w' => e = .returned (.bool true) ∧ Below w.heap.size w w' := by
  have h := ticks_law a b c d
  simp only [tickChk, Bool.and_eq_true] at h
  have := p_laws_FnExactTicksToActive.ok [.agg ⟨[.int .i64 a, .int .i64 b, .int .i64 c, .int .i64 d]⟩] _ _ rfl (by
    intro b hb
    simp only [List.mem_cons, List.not_mem_nil, or_false] at hb
    rcases hb with rfl | rfl
    · exact h.1.2
    · exact h.2) w
  rw [h.1.1] at this
  exact this

end Go.SX

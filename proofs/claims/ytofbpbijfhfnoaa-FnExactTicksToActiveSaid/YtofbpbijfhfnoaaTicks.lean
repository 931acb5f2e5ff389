import Derived.Test.YtofbpbijfhfnoaaFns
namespace Go.SX
open Go.Proofs
set_option maxRecDepth 100000

def iv (t : Int) : SV := .one ⟨false, [.val (.int .i64 t)]⟩
abbrev X5 := Int × Int × Int × Int × Int
def pairE (x : X5) : Entry := .box 30 [.val (.int .i64 x.1), .val (.int .i64 x.2.1), .val (.int .i64 x.2.2.1), .val (.int .i64 x.2.2.2.1)]
def J5 (x : X5) : St := mkSt [(1, ptrV 0 0), (4, iv x.2.2.2.2)] [(0, pairE x)] 1
def c14 (x : X5) : Bool := impl_Pair_active_0 x.1 x.2.2.1 == 0
def s14 (x : X5) : X5 := (impl_Pair_step_0 x.1 x.2.1 x.2.2.1 x.2.2.2.1 0 0 false, impl_Pair_step_1 x.1 x.2.1 x.2.2.1 x.2.2.2.1 0 0 false,
  impl_Pair_step_2 x.1 x.2.1 x.2.2.1 x.2.2.2.1 0 0 false, impl_Pair_step_3 x.1 x.2.1 x.2.2.1 x.2.2.2.1 0 0 false, IntKind.i64.wrap (x.2.2.2.2 + 1))
def D14 : List Nat := [20, 21, 22, 24, 25, 26, 23, 27, 28, 29, 30, 4]
def t14 : List (PF Try.prog) := [p_impl_IsPair, p_impl_Controller_isUp, p_impl_Pair_active, p_impl_Pair_step]

theorem v14 (x : X5) : (exec Try.prog t14 (memN D14) [] (loopAt Try.f14 0) (J5 x)).view [1, 4] [0] =
    .ite (c14 x) (.done .normal [some ⟨none, ptrV 0 0⟩, some ⟨none, iv (s14 x).2.2.2.2⟩] [some (pairE (s14 x))])
      (.done (.exit 1) [some ⟨none, ptrV 0 0⟩, some ⟨none, iv x.2.2.2.2⟩] [some (pairE x)]) := by kernel_rfl

/-- A loop 'while c do s': by rounds. -/
def whileN {X : Type} (c : X → Bool) (s : X → X) : Nat → X → Option X
  | 0, _ => none
  | n + 1, x => bif c x then whileN c s n (s x) else some x

theorem whileN_uniq {X : Type} {c : X → Bool} {s : X → X} : ∀ {m n : Nat} {x y z : X}, whileN c s m x = some y → whileN c s n x = some z → y = z
  | 0, _, _, _, _, h, _ => by cases h
  | _ + 1, 0, _, _, _, _, h => by cases h
  | m + 1, n + 1, x, y, z, h, h' => by
    simp only [whileN] at h h'
    cases hc : c x with
    | true => simp only [hc, cond_true] at h h'; exact whileN_uniq h h'
    | false => simp only [hc, cond_false, Option.some.injEq] at h h'; rw [← h, ← h']

def F14 (s : St) : R :=
  match s.look 1, s.look 4, s.ent 0 with
  | some ⟨none, .one ⟨false, [.ptr 0 0]⟩⟩, some ⟨none, .one ⟨false, [.val (.int .i64 t)]⟩⟩, some (.box 30 [.val (.int .i64 a), .val (.int .i64 b), .val (.int .i64 c), .val (.int .i64 d)]) =>
    .need [(whileN c14 s14 20 (a, b, c, d, t)).isSome] (.done (.exit 1) (encL D14 [0] (J5 ((whileN c14 s14 20 (a, b, c, d, t)).getD (a, b, c, d, t))) s))
  | _, _, _ => .none

theorem l14 : LoopOk Try.prog (fun k => Nat.blt k Try.f14.ntmps) F14 (loopAt Try.f14 0) := by
  refine LoopOk.mk' (tbl := t14) (lf := []) (D := D14) (ids := [0]) (J := J5) (Jx := fun _ => J5) hmix (by
      have : D14.all (fun k => Nat.blt k Try.f14.ntmps) = true := by kernel_rfl
      exact fun k hk => List.all_eq_true.1 this k hk) (LOk.nil _)
    (fun m x => (whileN c14 s14 m x).isSome = true) (fun x q z => q = .exit 1 ∧ ∃ m, whileN c14 s14 m x = some z) (fun x => mkSt_hJ rfl) (fun _ x => mkSt_hJ rfl) ?_ F14 ?_
  · intro m x hI
    refine sat_of_view (v14 x) ⟨fun hb s' h1 h2 => ?_, fun hb s' h1 h2 => ?_⟩
    · cases m with
      | zero => cases hI
      | succ m =>
        simp only [whileN, hb, cond_true] at hI
        refine ⟨m, s14 x, by omega, hI, fun q z ⟨e, k, hk⟩ => ⟨e, k + 1, by simp only [whileN, hb, cond_true]; exact hk⟩, sub_mk h1 h2 rfl rfl⟩
    · exact ⟨x, ⟨rfl, 1, by simp only [whileN, hb, cond_false]⟩, sub_mk h1 h2 rfl rfl⟩
  · intro s
    unfold F14
    split
    · rename_i t a b c d h1 h4 h0
      refine .inr ⟨_, (a, b, c, d, t), _, rfl, encL_unch _ _ _ _, sub_mk (by simp [h1, h4, ptrV, iv]) (by simp [h0, pairE]) rfl rfl, fun hn => ?_⟩
      have hs := hn _ (List.mem_singleton.2 rfl)
      refine ⟨⟨20, hs⟩, ?_⟩
      rintro q z ⟨rfl, k, hk⟩ post hp
      obtain ⟨y, hy⟩ := Option.isSome_iff_exists.1 hs
      rw [whileN_uniq hk hy]
      simpa [hy, R.sat] using hp
    · exact .inl rfl


def c12 (x : X5) : Bool := bif spec_l31Active_0 x.1 x.2.2.1 == 0 then decide (x.2.2.2.2 ≤ 6) else false
def s12 (x : X5) : X5 := (spec_l31Step_0 x.1 x.2.1 x.2.2.1 x.2.2.2.1 0 0 false, spec_l31Step_1 x.1 x.2.1 x.2.2.1 0 0 false,
  spec_l31Step_2 x.1 x.2.1 x.2.2.1 x.2.2.2.1 0 0 false, spec_l31Step_3 x.1 x.2.2.1 x.2.2.2.1 0 0 false, IntKind.i64.wrap (x.2.2.2.2 + 1))
def D12 : List Nat := [18, 19, 20, 21, 22, 23, 24, 26, 27, 28, 25, 29, 30, 31, 32, 4]
def t12 : List (PF Try.prog) := [p_spec_IsPair, p_spec_l31Up, p_spec_l31Active, p_spec_l31Step]

theorem v12 (x : X5) : (exec Try.prog t12 (memN D12) [] (loopAt Try.f12 0) (J5 x)).view [1, 4] [0] =
    .ite (c12 x) (.done .normal [some ⟨none, ptrV 0 0⟩, some ⟨none, iv (s12 x).2.2.2.2⟩] [some (pairE (s12 x))])
      (.done (.exit 0) [some ⟨none, ptrV 0 0⟩, some ⟨none, iv x.2.2.2.2⟩] [some (pairE x)]) := by kernel_rfl

def F12 (s : St) : R :=
  match s.look 1, s.look 4, s.ent 0 with
  | some ⟨none, .one ⟨false, [.ptr 0 0]⟩⟩, some ⟨none, .one ⟨false, [.val (.int .i64 t)]⟩⟩, some (.box 30 [.val (.int .i64 a), .val (.int .i64 b), .val (.int .i64 c), .val (.int .i64 d)]) =>
    .need [(whileN c12 s12 20 (a, b, c, d, t)).isSome] (.done (.exit 0) (encL D12 [0] (J5 ((whileN c12 s12 20 (a, b, c, d, t)).getD (a, b, c, d, t))) s))
  | _, _, _ => .none

theorem l12 : LoopOk Try.prog (fun k => Nat.blt k Try.f12.ntmps) F12 (loopAt Try.f12 0) := by
  refine LoopOk.mk' (tbl := t12) (lf := []) (D := D12) (ids := [0]) (J := J5) (Jx := fun _ => J5) hmix (by
      have : D12.all (fun k => Nat.blt k Try.f12.ntmps) = true := by kernel_rfl
      exact fun k hk => List.all_eq_true.1 this k hk) (LOk.nil _)
    (fun m x => (whileN c12 s12 m x).isSome = true) (fun x q z => q = .exit 0 ∧ ∃ m, whileN c12 s12 m x = some z) (fun x => mkSt_hJ rfl) (fun _ x => mkSt_hJ rfl) ?_ F12 ?_
  · intro m x hI
    refine sat_of_view (v12 x) ⟨fun hb s' h1 h2 => ?_, fun hb s' h1 h2 => ?_⟩
    · cases m with
      | zero => cases hI
      | succ m =>
        simp only [whileN, hb, cond_true] at hI
        refine ⟨m, s12 x, by omega, hI, fun q z ⟨e, k, hk⟩ => ⟨e, k + 1, by simp only [whileN, hb, cond_true]; exact hk⟩, sub_mk h1 h2 rfl rfl⟩
    · exact ⟨x, ⟨rfl, 1, by simp only [whileN, hb, cond_false]⟩, sub_mk h1 h2 rfl rfl⟩
  · intro s
    unfold F12
    split
    · rename_i t a b c d h1 h4 h0
      refine .inr ⟨_, (a, b, c, d, t), _, rfl, encL_unch _ _ _ _, sub_mk (by simp [h1, h4, ptrV, iv]) (by simp [h0, pairE]) rfl rfl, fun hn => ?_⟩
      have hs := hn _ (List.mem_singleton.2 rfl)
      refine ⟨⟨20, hs⟩, ?_⟩
      rintro q z ⟨rfl, k, hk⟩ post hp
      obtain ⟨y, hy⟩ := Option.isSome_iff_exists.1 hs
      rw [whileN_uniq hk hy]
      simpa [hy, R.sat] using hp
    · exact .inl rfl


theorem hl14 : ∀ c, Try.f14.body = some c → LOk Try.prog (fun k => Nat.blt k Try.f14.ntmps) [F14] c := LOk.fn1 (by kernel_rfl) l14

theorem hl12 : ∀ c, Try.f12.body = some c → LOk Try.prog (fun k => Nat.blt k Try.f12.ntmps) [F12] c := LOk.fn1 (by kernel_rfl) l12

end Go.SX

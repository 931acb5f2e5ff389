/- What functions of the program come to, row by row (made by a program of the workplace). -/
import Derived.Test.YtjncnnpdaeociaaTXh
import Derived.Test.YtjncnnpdaeociaaProg
import Derived.Test.YtjncnnpdaeociaaNu
namespace Go.SX
open Go.Proofs
set_option maxRecDepth 100000

def impl_IsSafeTraffic_0 (x0 : Int) (x1 : List Int) : Bool :=
  bif isT x0 x1 then safeL x0 x1 else false

def impl_IsSafeTraffic_1 (x0 : Int) (x1 : List Int) : Bool :=
  allT [!(isT x0 x1 && true) || isT x0 x1]

def F_impl_IsSafeTraffic : List SV → List Entry → Option Out
  | [.one ⟨true, [.val (.int .i64 x0), .ref 0]⟩], [.row false 2 (.int .i64) x1] => some ⟨(.one ⟨false, [(.val (.bool (impl_IsSafeTraffic_0 x0 x1)))]⟩), [(.row false 2 (CTy.int IntKind.i64) x1)], [], [(impl_IsSafeTraffic_1 x0 x1)]⟩
  | _, _ => none

def p_impl_IsSafeTraffic : PF Try.prog := PF.ofG Try.prog [n_impl_IsTraffic, PF.lend n_impl_IsTraffic, PF.fz n_impl_IsTraffic, n_loop_example_g00916_impl_Traffic_isSafe, PF.lend n_loop_example_g00916_impl_Traffic_isSafe, PF.fz n_loop_example_g00916_impl_Traffic_isSafe] [] hmix 44 Try.f44 Try.func44 (fun c _ => LOk.nil c) F_impl_IsSafeTraffic (by
  intro vs es r h; unfold F_impl_IsSafeTraffic at h; split at h
  · cases h; kernel_rfl
  · cases h)

abbrev X_laws_FnTrafficMoves_l0 := Int × Int × List Int × List Int

def laws_FnTrafficMoves_l0_a0 (y0 : Int) (y1 : Int) (y3 : List Int) : Bool :=
  mvCode y1 y3 y0 != (0 : Int)

def laws_FnTrafficMoves_l0_a1 (y0 : Int) (y1 : Int) (y3 : List Int) : Bool :=
  bif laws_FnTrafficMoves_l0_a0 y0 y1 y3 then true else !eqT (mvN y1 y3 y0) (mvN y1 y3 y0) (mvP y1 y3 y0) (mvP y1 y3 y0)

def laws_FnTrafficMoves_l0_a2 (y0 : Int) (y1 : Int) (y3 : List Int) : List Int :=
  bif !laws_FnTrafficMoves_l0_a0 y0 y1 y3 && true then mvP y1 y3 y0 else mvP y1 y3 y0

def laws_FnTrafficMoves_l0_0 (y0 : Int) (y3 : List Int) : Bool :=
  ltI y0 (↑(List.length y3) : Int)

def laws_FnTrafficMoves_l0_1 (y3 : List Int) : Bool :=
  leN (List.length y3) (9223372036854775807 : Nat)

def laws_FnTrafficMoves_l0_2 (y0 : Int) (y1 : Int) (y3 : List Int) : Bool :=
  !(!laws_FnTrafficMoves_l0_a0 y0 y1 y3 && true) || leN (List.length (mvP y1 y3 y0)) (9223372036854775807 : Nat)

def laws_FnTrafficMoves_l0_3 (y0 : Int) (y1 : Int) (y3 : List Int) : Bool :=
  !(!laws_FnTrafficMoves_l0_a1 y0 y1 y3 && true) || impl_IsSafeTraffic_1 (mvN y1 y3 y0) (laws_FnTrafficMoves_l0_a2 y0 y1 y3)

def laws_FnTrafficMoves_l0_4 (y0 : Int) (y1 : Int) (y2 : List Int) (y3 : List Int) : Bool :=
  !(!laws_FnTrafficMoves_l0_a1 y0 y1 y3 && true) || leN (List.length y2) (9223372036854775807 : Nat)

def laws_FnTrafficMoves_l0_5 (y0 : Int) (y1 : Int) (y2 : List Int) (y3 : List Int) : Bool :=
  bif laws_FnTrafficMoves_l0_a1 y0 y1 y3 then true else !impl_IsSafeTraffic_0 (mvN y1 y3 y0) (laws_FnTrafficMoves_l0_a2 y0 y1 y3) == hasI y0 y2

def laws_FnTrafficMoves_l0_6 (y0 : Int) (y1 : Int) (y2 : List Int) (y3 : List Int) : List Int :=
  bif !laws_FnTrafficMoves_l0_a1 y0 y1 y3 && true then y2 else y2

def laws_FnTrafficMoves_l0_7 (y0 : Int) : Int :=
  IntKind.wrap IntKind.i64 (y0 + (1 : Int))

def JL_laws_FnTrafficMoves_l0 : X_laws_FnTrafficMoves_l0 → List (Nat × SV)
  | (y0, _, _, _) => [(8, (.one ⟨false, [(.val (.int IntKind.i64 y0))]⟩)), (3, (.one ⟨false, [(.ptr 0 0)]⟩)), (6, (.one ⟨false, [(.ref 1)]⟩))]

def JE_laws_FnTrafficMoves_l0 : X_laws_FnTrafficMoves_l0 → List (Nat × Entry)
  | (_, y1, y2, y3) => [(0, (.box 26 [(.val (.int IntKind.i64 y1)), (.ref 2)])), (1, (.row true 2 (CTy.int IntKind.i64) y2)), (2, (.row true 2 (CTy.int IntKind.i64) y3))]

def XL_laws_FnTrafficMoves_l0 : Nat → X_laws_FnTrafficMoves_l0 → List (Nat × SV)
  | 0, (_, _, _, _) => [(2, (.one ⟨false, [(.val (.bool false))]⟩))]
  | _, (_, _, _, _) => []

def XE_laws_FnTrafficMoves_l0 : Nat → X_laws_FnTrafficMoves_l0 → List (Nat × Entry)
  | 0, (y0, y1, y2, y3) => [(0, (.box 26 [(.val (.int IntKind.i64 y1)), (.ref 2)])), (1, (.row true 2 (CTy.int IntKind.i64) (laws_FnTrafficMoves_l0_6 y0 y1 y2 y3))), (2, (.row true 2 (CTy.int IntKind.i64) y3))]
  | _, (_, y1, y2, y3) => [(0, (.box 26 [(.val (.int IntKind.i64 y1)), (.ref 2)])), (1, (.row true 2 (CTy.int IntKind.i64) y2)), (2, (.row true 2 (CTy.int IntKind.i64) y3))]

def lt_laws_FnTrafficMoves_l0 : X_laws_FnTrafficMoves_l0 → LT X_laws_FnTrafficMoves_l0
  | (y0, y1, y2, y3) => .ite (laws_FnTrafficMoves_l0_0 y0 y3) (.need [(laws_FnTrafficMoves_l0_1 y3)] (.need [(laws_FnTrafficMoves_l0_2 y0 y1 y3), (laws_FnTrafficMoves_l0_3 y0 y1 y3), (laws_FnTrafficMoves_l0_4 y0 y1 y2 y3)] (.ite (laws_FnTrafficMoves_l0_5 y0 y1 y2 y3) (.ext 0 [(0, 0), (1, 1), (2, 2)]) (.nrm ((laws_FnTrafficMoves_l0_7 y0), y1, (laws_FnTrafficMoves_l0_6 y0 y1 y2 y3), y3) [(0, 0), (1, 1), (2, 2)])))) (.ext 1 [(0, 0), (1, 1), (2, 2)])

def rd_laws_FnTrafficMoves_l0 (s : St) : Option X_laws_FnTrafficMoves_l0 :=
  (match s.look 8 with
  | some ⟨none, (.one ⟨false, [(.val (.int IntKind.i64 y0))]⟩)⟩ =>
  (match s.look 3 with
  | some ⟨none, (.one ⟨false, [(.ptr 448 0)]⟩)⟩ =>
  (match s.look 6 with
  | some ⟨none, (.one ⟨false, [(.ref 1088)]⟩)⟩ =>
  (match s.ent 448 with
  | some (.box 26 [(.val (.int IntKind.i64 y1)), (.ref 384)]) =>
  (match s.ent 1088 with
  | some (.row true 2 (CTy.int IntKind.i64) y2) =>
  (match s.ent 384 with
  | some (.row true 2 (CTy.int IntKind.i64) y3) =>
  some (y0, y1, y2, y3)
  | _ => none)
  | _ => none)
  | _ => none)
  | _ => none)
  | _ => none)
  | _ => none)

def lp_laws_FnTrafficMoves_l0 : Lp X_laws_FnTrafficMoves_l0 where
  h := ⟨[52, 53, 54, 55, 56, 60, 61, 62, 59, 63, 64, 9, 10, 66, 67, 68, 65, 69, 70, 11, 12, 71, 72, 73, 74, 75, 76, 77, 78, 79, 80, 81, 82, 83, 84, 85, 86, 2, 57, 58, 8], [0, 1, 2], [], []⟩
  JL := JL_laws_FnTrafficMoves_l0
  JE := JE_laws_FnTrafficMoves_l0
  XL := XL_laws_FnTrafficMoves_l0
  XE := XE_laws_FnTrafficMoves_l0
  q := fun j => match j with | 0 => .ret | _ => .exit 0
  tags := [0, 1]
  lt := lt_laws_FnTrafficMoves_l0
  fuel := fun (y0, y1, y2, y3) => y0.natAbs + y1.natAbs + y2.length + y3.length
  fix := fun (_, y1, _, y3) (y0, _, y2, _) => (y0, y1, y2, y3)
  σ := [(0, 448), (1, 1088), (2, 384)]
  rd := rd_laws_FnTrafficMoves_l0

theorem lpok_laws_FnTrafficMoves_l0 : LoopOk Try.prog (fun k => Nat.blt k Try.f7.ntmps) lp_laws_FnTrafficMoves_l0.F (loopAt Try.f7 0) := by
  refine Lp.ok (tbl := [n_spec_MovedTrain, PF.lend n_spec_MovedTrain, PF.fz n_spec_MovedTrain, n_impl_MovedTrain, PF.lend n_impl_MovedTrain, PF.fz n_impl_MovedTrain, p_laws_big, PF.lend p_laws_big, PF.fz p_laws_big, n_laws_likeInts, PF.lend n_laws_likeInts, PF.fz n_laws_likeInts, n_spec_AllowedMoves, PF.lend n_spec_AllowedMoves, PF.fz n_spec_AllowedMoves, n_impl_AllowedMoves, PF.lend n_impl_AllowedMoves, PF.fz n_impl_AllowedMoves, n_spec_DrawAllowedMoves, PF.lend n_spec_DrawAllowedMoves, PF.fz n_spec_DrawAllowedMoves, n_impl_IsTraffic, PF.lend n_impl_IsTraffic, PF.fz n_impl_IsTraffic, n_spec_IsTraffic, PF.lend n_spec_IsTraffic, PF.fz n_spec_IsTraffic, p_impl_IsSafeTraffic, PF.lend p_impl_IsSafeTraffic, PF.fz p_impl_IsSafeTraffic, n_spec_IsSafeTraffic, PF.lend n_spec_IsSafeTraffic, PF.fz n_spec_IsSafeTraffic, n_laws_likeTraffic9, PF.lend n_laws_likeTraffic9, PF.fz n_laws_likeTraffic9, n_laws_hasInt, PF.lend n_laws_hasInt, PF.fz n_laws_hasInt]) (lf := []) hmix lp_laws_FnTrafficMoves_l0 (by kernel_rfl) (LOk.nil _) (fun _ => rfl) (fun j _ => by unfold lp_laws_FnTrafficMoves_l0; match j with | 0 => rfl | _ + 1 => rfl) ?_ ?_ ?_ ?_ (fun _ => rfl) ?_
  · intro x; obtain ⟨y0, y1, y2, y3⟩ := x; kernel_rfl
  · intro x; obtain ⟨y0, y1, y2, y3⟩ := x; kernel_rfl
  · intro s x h
    have h : rd_laws_FnTrafficMoves_l0 s = some x := h
    unfold rd_laws_FnTrafficMoves_l0 at h
    repeat' split at h
    all_goals cases h
    exact ⟨absS_cons (by assumption) rfl (absS_cons (by assumption) rfl (absS_cons (by assumption) rfl (rfl))), absE_cons rfl (by assumption) rfl (absE_cons rfl (by assumption) rfl (absE_cons rfl (by assumption) rfl (rfl)))⟩
  · intro x; obtain ⟨y0, y1, y2, y3⟩ := x; kernel_rfl
  · intro x z; obtain ⟨y0, y1, y2, y3⟩ := x; exact (And.intro (And.intro trivial rfl) trivial)

def laws_FnTrafficMoves_a0 (x0 : List Int) : Bool :=
  alCode (spec_DrawAllowedMoves_0 x0) (spec_DrawAllowedMoves_1 x0) != alCode (spec_DrawAllowedMoves_0 x0) (spec_DrawAllowedMoves_1 x0)

def laws_FnTrafficMoves_a1 (x0 : List Int) : Bool :=
  bif laws_FnTrafficMoves_a0 x0 then true
  else !eqL (alList (spec_DrawAllowedMoves_0 x0) (spec_DrawAllowedMoves_1 x0)) (alList (spec_DrawAllowedMoves_0 x0) (spec_DrawAllowedMoves_1 x0))

def laws_FnTrafficMoves_a2 (x0 : List Int) : Bool :=
  bif laws_FnTrafficMoves_a1 x0 then true
  else
  !isT (spec_DrawAllowedMoves_0 x0) (spec_DrawAllowedMoves_1 x0) ==
      isT (spec_DrawAllowedMoves_0 x0) (bif !laws_FnTrafficMoves_a1 x0 && true then spec_DrawAllowedMoves_1 x0 else spec_DrawAllowedMoves_1 x0)

def laws_FnTrafficMoves_a3 (x0 : List Int) : List Int :=
  bif !laws_FnTrafficMoves_a1 x0 && true then bif !laws_FnTrafficMoves_a1 x0 && true then spec_DrawAllowedMoves_1 x0 else spec_DrawAllowedMoves_1 x0
  else bif !laws_FnTrafficMoves_a1 x0 && true then spec_DrawAllowedMoves_1 x0 else spec_DrawAllowedMoves_1 x0

def laws_FnTrafficMoves_a4 (x0 : List Int) : Bool :=
  bif laws_FnTrafficMoves_a2 x0 then true
  else
  !impl_IsSafeTraffic_0 (spec_DrawAllowedMoves_0 x0) (laws_FnTrafficMoves_a3 x0) ==
      isSf (spec_DrawAllowedMoves_0 x0) (bif !laws_FnTrafficMoves_a2 x0 && true then laws_FnTrafficMoves_a3 x0 else laws_FnTrafficMoves_a3 x0)

def laws_FnTrafficMoves_a5 (x0 : List Int) : Bool :=
  alCode (spec_DrawAllowedMoves_0 x0) (spec_DrawAllowedMoves_1 x0) != (0 : Int)

def laws_FnTrafficMoves_a6 (x0 : List Int) : List Int :=
  bif !laws_FnTrafficMoves_a0 x0 && true then alList (spec_DrawAllowedMoves_0 x0) (spec_DrawAllowedMoves_1 x0)
  else alList (spec_DrawAllowedMoves_0 x0) (spec_DrawAllowedMoves_1 x0)

def laws_FnTrafficMoves_a7 (x0 : List Int) : List Int :=
  bif !laws_FnTrafficMoves_a2 x0 && true then bif !laws_FnTrafficMoves_a2 x0 && true then laws_FnTrafficMoves_a3 x0 else laws_FnTrafficMoves_a3 x0
  else bif !laws_FnTrafficMoves_a2 x0 && true then laws_FnTrafficMoves_a3 x0 else laws_FnTrafficMoves_a3 x0

def laws_FnTrafficMoves_a8 (x0 : List Int) : Int × Int × List Int × List Int :=
  ((0 : Int), spec_DrawAllowedMoves_0 x0, laws_FnTrafficMoves_a6 x0, laws_FnTrafficMoves_a7 x0)

def laws_FnTrafficMoves_0 (x0 : List Int) : Bool :=
  bif laws_big_0 x0 then true
  else
  bif laws_FnTrafficMoves_a4 x0 then false
  else
    bif laws_FnTrafficMoves_a5 x0 then true
    else
      bif Nat.beq (Prod.fst (Lp.res lp_laws_FnTrafficMoves_l0 (laws_FnTrafficMoves_a8 x0))) (0 : Nat) then false
      else
        bif ltI (0 : Int) (↑(List.length (laws_FnTrafficMoves_a6 x0)) : Int) then true
        else leI (spec_DrawAllowedMoves_0 x0) (↑(List.length (laws_FnTrafficMoves_a7 x0)) : Int)

def laws_FnTrafficMoves_1 (x0 : List Int) : Bool :=
  allT
  [laws_big_0 x0 || srcOk (0 : Int) (0 : Int) x0,
    laws_big_0 x0 ||
      (!(!laws_FnTrafficMoves_a0 x0 && true) ||
        leN (List.length (alList (spec_DrawAllowedMoves_0 x0) (spec_DrawAllowedMoves_1 x0))) (9223372036854775807 : Nat)),
    laws_big_0 x0 || (!(!laws_FnTrafficMoves_a2 x0 && true) || impl_IsSafeTraffic_1 (spec_DrawAllowedMoves_0 x0) (laws_FnTrafficMoves_a3 x0)),
    laws_big_0 x0 || (laws_FnTrafficMoves_a4 x0 || (laws_FnTrafficMoves_a5 x0 || Lp.fin lp_laws_FnTrafficMoves_l0 (laws_FnTrafficMoves_a8 x0)))]

def F_laws_FnTrafficMoves : List SV → List Entry → Option Out
  | [.one ⟨false, [.ref 0]⟩], [.row false 5 (.int .u8) x0] => some ⟨(.one ⟨false, [(.val (.bool (laws_FnTrafficMoves_0 x0)))]⟩), [(.row false 5 (CTy.int IntKind.u8) x0)], [], [(laws_FnTrafficMoves_1 x0)]⟩
  | _, _ => none

def p_laws_FnTrafficMoves : PF Try.prog := PF.ofG Try.prog [n_spec_MovedTrain, PF.lend n_spec_MovedTrain, PF.fz n_spec_MovedTrain, n_impl_MovedTrain, PF.lend n_impl_MovedTrain, PF.fz n_impl_MovedTrain, p_laws_big, PF.lend p_laws_big, PF.fz p_laws_big, n_laws_likeInts, PF.lend n_laws_likeInts, PF.fz n_laws_likeInts, n_spec_AllowedMoves, PF.lend n_spec_AllowedMoves, PF.fz n_spec_AllowedMoves, n_impl_AllowedMoves, PF.lend n_impl_AllowedMoves, PF.fz n_impl_AllowedMoves, n_spec_DrawAllowedMoves, PF.lend n_spec_DrawAllowedMoves, PF.fz n_spec_DrawAllowedMoves, n_impl_IsTraffic, PF.lend n_impl_IsTraffic, PF.fz n_impl_IsTraffic, n_spec_IsTraffic, PF.lend n_spec_IsTraffic, PF.fz n_spec_IsTraffic, p_impl_IsSafeTraffic, PF.lend p_impl_IsSafeTraffic, PF.fz p_impl_IsSafeTraffic, n_spec_IsSafeTraffic, PF.lend n_spec_IsSafeTraffic, PF.fz n_spec_IsSafeTraffic, n_laws_likeTraffic9, PF.lend n_laws_likeTraffic9, PF.fz n_laws_likeTraffic9, n_laws_hasInt, PF.lend n_laws_hasInt, PF.fz n_laws_hasInt] [lp_laws_FnTrafficMoves_l0.F] hmix 7 Try.f7 Try.func7 (LOk.fnT (l := [loopAt Try.f7 0]) (by kernel_rfl) (.cons lpok_laws_FnTrafficMoves_l0 (.nil _))) F_laws_FnTrafficMoves (by
  intro vs es r h; unfold F_laws_FnTrafficMoves at h; split at h
  · cases h; kernel_rfl
  · cases h)


end Go.SX

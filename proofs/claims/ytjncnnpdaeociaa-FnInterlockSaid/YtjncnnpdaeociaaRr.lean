/- What functions of the program come to, row by row (made by a program of the workplace). -/
import Derived.Test.YtjncnnpdaeociaaTXh
import Derived.Test.YtjncnnpdaeociaaProg
import Derived.Test.YtjncnnpdaeociaaNq
namespace Go.SX
open Go.Proofs
set_option maxRecDepth 100000

def laws_big_0 (x0 : List Int) : Bool :=
  ltI (4096 : Int) (↑(List.length x0) : Int)

def F_laws_big : List SV → List Entry → Option Out
  | [.one ⟨false, [.ref 0]⟩], [.row false 5 (.int .u8) x0] => some ⟨(.one ⟨false, [(.val (.bool (laws_big_0 x0)))]⟩), [(.row false 5 (CTy.int IntKind.u8) x0)], [], []⟩
  | _, _ => none

def p_laws_big : PF Try.prog := PF.ofG Try.prog [] [] hmix 22 Try.f22 Try.func22 (fun c _ => LOk.nil c) F_laws_big (by
  intro vs es r h; unfold F_laws_big at h; split at h
  · cases h; kernel_rfl
  · cases h)

def laws_likeTraffic9_0 (x0 : Int) (x1 : Int) (x2 : List Int) (x3 : List Int) : Bool :=
  bif x0 == x1 then eqL x2 x3 else false

def laws_likeTraffic9_1 (x0 : Int) (x1 : Int) (x2 : List Int) : Bool :=
  allT [!(x0 == x1 && true) || leN (List.length x2) (9223372036854775807 : Nat)]

def F_laws_likeTraffic9 : List SV → List Entry → Option Out
  | [.one ⟨true, [.val (.int .i64 x0), .ref 0]⟩, .one ⟨true, [.val (.int .i64 x1), .ref 1]⟩], [.row false 2 (.int .i64) x2, .row false 2 (.int .i64) x3] => some ⟨(.one ⟨false, [(.val (.bool (laws_likeTraffic9_0 x0 x1 x2 x3)))]⟩), [(.row false 2 (CTy.int IntKind.i64) x2), (.row false 2 (CTy.int IntKind.i64) x3)], [], [(laws_likeTraffic9_1 x0 x1 x2)]⟩
  | _, _ => none

def p_laws_likeTraffic9 : PF Try.prog := PF.ofG Try.prog [n_laws_likeInts, PF.lend n_laws_likeInts, PF.fz n_laws_likeInts] [] hmix 46 Try.f46 Try.func46 (fun c _ => LOk.nil c) F_laws_likeTraffic9 (by
  intro vs es r h; unfold F_laws_likeTraffic9 at h; split at h
  · cases h; kernel_rfl
  · cases h)

def spec_ControlledRun_0 (x0 : Int) (x1 : List Int) (x2 : List (Int × Int × Int)) (x3 : List Int) : Int :=
  ctN x0 x1 x2 x3

def spec_ControlledRun_1 (x0 : Int) (x1 : List Int) (x2 : List (Int × Int × Int)) (x3 : List Int) : Int :=
  ctCode x0 x1 x2 x3

def spec_ControlledRun_2 (x0 : Int) (x1 : List Int) (x2 : List (Int × Int × Int)) (x3 : List Int) : List Int :=
  ctP x0 x1 x2 x3

def spec_ControlledRun_3 (x2 : List (Int × Int × Int)) : Bool :=
  allT [leN (List.length x2) (9223372036854775807 : Nat)]

def F_spec_ControlledRun : List SV → List Entry → Option Out
  | [.one ⟨true, [.val (.int .i64 x0), .ref 0]⟩, .one ⟨false, [.ref 1]⟩, .one ⟨false, [.ref 2]⟩], [.row false 2 (.int .i64) x1, .row false 118 (.pair (.int .i64) (.pair (.int .i64) (.int .i64))) x2, .row false 2 (.int .i64) x3] => some ⟨(.tup [⟨true, [(.val (.int IntKind.i64 (spec_ControlledRun_0 x0 x1 x2 x3))), (.ref 3)]⟩, ⟨false, [(.val (.int IntKind.i64 (spec_ControlledRun_1 x0 x1 x2 x3)))]⟩]), [(.row false 2 (CTy.int IntKind.i64) x1), (.row false 118 (CTy.pair (CTy.int IntKind.i64) (CTy.pair (CTy.int IntKind.i64) (CTy.int IntKind.i64))) x2), (.row false 2 (CTy.int IntKind.i64) x3)], [(.row true 2 (CTy.int IntKind.i64) (spec_ControlledRun_2 x0 x1 x2 x3))], [(spec_ControlledRun_3 x2)]⟩
  | _, _ => none

def p_spec_ControlledRun : PF Try.prog := PF.ofG Try.prog [n_spec_l11Run, PF.lend n_spec_l11Run, PF.fz n_spec_l11Run] [] hmix 56 Try.f56 Try.func56 (fun c _ => LOk.nil c) F_spec_ControlledRun (by
  intro vs es r h; unfold F_spec_ControlledRun at h; split at h
  · cases h; kernel_rfl
  · cases h)

def impl_ControlledRun_a0 (x0 : Int) (x1 : List Int) (x2 : List (Int × Int × Int)) (x3 : List Int) : Bool :=
  ctCode x0 x1 x2 x3 != (0 : Int)

def impl_ControlledRun_a1 (x0 : Int) (x1 : List Int) (x2 : List (Int × Int × Int)) (x3 : List Int) : Int × List Int :=
  Option.getD (ctL x0 x1 x2 x3)[Int.toNat (↑(List.length x3) : Int)]? (dflt (CTy.pair (CTy.int IntKind.i64) (CTy.sl (2 : Nat) (CTy.int IntKind.i64))))

def impl_ControlledRun_0 (x0 : Int) (x1 : List Int) (x2 : List (Int × Int × Int)) (x3 : List Int) : Int :=
  bif impl_ControlledRun_a0 x0 x1 x2 x3 then (0 : Int) else Prod.fst (impl_ControlledRun_a1 x0 x1 x2 x3)

def impl_ControlledRun_1 (x0 : Int) (x1 : List Int) (x2 : List (Int × Int × Int)) (x3 : List Int) : Int :=
  bif impl_ControlledRun_a0 x0 x1 x2 x3 then ctCode x0 x1 x2 x3 else (0 : Int)

def impl_ControlledRun_2 (x0 : Int) (x1 : List Int) (x2 : List (Int × Int × Int)) (x3 : List Int) : List Int :=
  bif impl_ControlledRun_a0 x0 x1 x2 x3 then [] else Prod.snd (impl_ControlledRun_a1 x0 x1 x2 x3)

def impl_ControlledRun_3 (x0 : Int) (x1 : List Int) (x2 : List (Int × Int × Int)) (x3 : List Int) : Bool :=
  allT
  [leN (List.length x2) (9223372036854775807 : Nat), impl_ControlledRun_a0 x0 x1 x2 x3 || leI (0 : Int) (↑(List.length x3) : Int),
    impl_ControlledRun_a0 x0 x1 x2 x3 || ltI (↑(List.length x3) : Int) (↑(List.length (ctL x0 x1 x2 x3)) : Int),
    impl_ControlledRun_a0 x0 x1 x2 x3 || ltN (Int.toNat (↑(List.length x3) : Int)) (List.length (ctL x0 x1 x2 x3))]

def F_impl_ControlledRun : List SV → List Entry → Option Out
  | [.one ⟨true, [.val (.int .i64 x0), .ref 0]⟩, .one ⟨false, [.ref 1]⟩, .one ⟨false, [.ref 2]⟩], [.row false 2 (.int .i64) x1, .row false 118 (.pair (.int .i64) (.pair (.int .i64) (.int .i64))) x2, .row false 2 (.int .i64) x3] => some ⟨(.tup [⟨true, [(.val (.int IntKind.i64 (impl_ControlledRun_0 x0 x1 x2 x3))), (.ref 3)]⟩, ⟨false, [(.val (.int IntKind.i64 (impl_ControlledRun_1 x0 x1 x2 x3)))]⟩]), [(.row false 2 (CTy.int IntKind.i64) x1), (.row false 118 (CTy.pair (CTy.int IntKind.i64) (CTy.pair (CTy.int IntKind.i64) (CTy.int IntKind.i64))) x2), (.row false 2 (CTy.int IntKind.i64) x3)], [(.row false 2 (CTy.int IntKind.i64) (impl_ControlledRun_2 x0 x1 x2 x3))], [(impl_ControlledRun_3 x0 x1 x2 x3)]⟩
  | _, _ => none

def p_impl_ControlledRun : PF Try.prog := PF.ofG Try.prog [n_impl_controlled, PF.lend n_impl_controlled, PF.fz n_impl_controlled] [] hmix 57 Try.f57 Try.func57 (fun c _ => LOk.nil c) F_impl_ControlledRun (by
  intro vs es r h; unfold F_impl_ControlledRun at h; split at h
  · cases h; kernel_rfl
  · cases h)

def impl_AreFaults_0 (x0 : Int) (x1 : List (Int × Int × Int)) : Bool :=
  bif impl_isBlockCount_0 x0 then okFs x0 x1 else false

def impl_AreFaults_1 (x0 : Int) (x1 : List (Int × Int × Int)) : Bool :=
  allT [!(impl_isBlockCount_0 x0 && true) || leN (List.length x1) (9223372036854775807 : Nat)]

def F_impl_AreFaults : List SV → List Entry → Option Out
  | [.one ⟨false, [.val (.int .i64 x0)]⟩, .one ⟨false, [.ref 0]⟩], [.row false 118 (.pair (.int .i64) (.pair (.int .i64) (.int .i64))) x1] => some ⟨(.one ⟨false, [(.val (.bool (impl_AreFaults_0 x0 x1)))]⟩), [(.row false 118 (CTy.pair (CTy.int IntKind.i64) (CTy.pair (CTy.int IntKind.i64) (CTy.int IntKind.i64))) x1)], [], [(impl_AreFaults_1 x0 x1)]⟩
  | _, _ => none

def p_impl_AreFaults : PF Try.prog := PF.ofG Try.prog [n_impl_areFaults, PF.lend n_impl_areFaults, PF.fz n_impl_areFaults, p_impl_isBlockCount] [] hmix 116 Try.f116 Try.func116 (fun c _ => LOk.nil c) F_impl_AreFaults (by
  intro vs es r h; unfold F_impl_AreFaults at h; split at h
  · cases h; kernel_rfl
  · cases h)

abbrev X_slices_Index_int64_int64_l0 := Int × Int × Int × List Int

def slices_Index_int64_int64_l0_0 (y0 : Int) (y1 : Int) : Bool :=
  ltI y0 y1

def slices_Index_int64_int64_l0_1 (y0 : Int) : Bool :=
  leI (0 : Int) y0

def slices_Index_int64_int64_l0_2 (y0 : Int) (y3 : List Int) : Bool :=
  ltI y0 (↑(List.length y3) : Int)

def slices_Index_int64_int64_l0_3 (y0 : Int) (y3 : List Int) : Bool :=
  ltN (Int.toNat y0) (List.length y3)

def slices_Index_int64_int64_l0_4 (y0 : Int) (y2 : Int) (y3 : List Int) : Bool :=
  y2 == Option.getD y3[Int.toNat y0]? (0 : Int)

def slices_Index_int64_int64_l0_5 (y0 : Int) : Int :=
  IntKind.wrap IntKind.i64 (y0 + (1 : Int))

def JL_slices_Index_int64_int64_l0 : X_slices_Index_int64_int64_l0 → List (Nat × SV)
  | (y0, y1, y2, _) => [(8, (.one ⟨false, [(.val (.int IntKind.i64 y0))]⟩)), (7, (.one ⟨false, [(.val (.int IntKind.i64 y1))]⟩)), (1, (.one ⟨false, [(.val (.int IntKind.i64 y2))]⟩)), (0, (.one ⟨false, [(.ref 0)]⟩))]

def JE_slices_Index_int64_int64_l0 : X_slices_Index_int64_int64_l0 → List (Nat × Entry)
  | (_, _, _, y3) => [(0, (.row false 2 (CTy.int IntKind.i64) y3))]

def XL_slices_Index_int64_int64_l0 : Nat → X_slices_Index_int64_int64_l0 → List (Nat × SV)
  | 0, (y0, _, _, _) => [(4, (.one ⟨false, [(.val (.int IntKind.i64 y0))]⟩))]
  | _, (_, _, _, _) => []

def XE_slices_Index_int64_int64_l0 : Nat → X_slices_Index_int64_int64_l0 → List (Nat × Entry)
  | 0, (_, _, _, y3) => [(0, (.row false 2 (CTy.int IntKind.i64) y3))]
  | _, (_, _, _, y3) => [(0, (.row false 2 (CTy.int IntKind.i64) y3))]

def lt_slices_Index_int64_int64_l0 : X_slices_Index_int64_int64_l0 → LT X_slices_Index_int64_int64_l0
  | (y0, y1, y2, y3) => .ite (slices_Index_int64_int64_l0_0 y0 y1) (.need [(slices_Index_int64_int64_l0_1 y0), (slices_Index_int64_int64_l0_2 y0 y3), (slices_Index_int64_int64_l0_3 y0 y3)] (.ite (slices_Index_int64_int64_l0_4 y0 y2 y3) (.ext 0 [(0, 0)]) (.nrm ((slices_Index_int64_int64_l0_5 y0), y1, y2, y3) [(0, 0)]))) (.ext 1 [(0, 0)])

def rd_slices_Index_int64_int64_l0 (s : St) : Option X_slices_Index_int64_int64_l0 :=
  (match s.look 8 with
  | some ⟨none, (.one ⟨false, [(.val (.int IntKind.i64 y0))]⟩)⟩ =>
  (match s.look 7 with
  | some ⟨none, (.one ⟨false, [(.val (.int IntKind.i64 y1))]⟩)⟩ =>
  (match s.look 1 with
  | some ⟨none, (.one ⟨false, [(.val (.int IntKind.i64 y2))]⟩)⟩ =>
  (match s.look 0 with
  | some ⟨none, (.one ⟨false, [(.ref 0)]⟩)⟩ =>
  (match s.ent 0 with
  | some (.row false 2 (CTy.int IntKind.i64) y3) =>
  some (y0, y1, y2, y3)
  | _ => none)
  | _ => none)
  | _ => none)
  | _ => none)
  | _ => none)

def lp_slices_Index_int64_int64_l0 : Lp X_slices_Index_int64_int64_l0 where
  h := ⟨[9, 10, 5, 11, 12, 13, 14, 15, 16, 17, 4, 18, 8], [0], [], []⟩
  JL := JL_slices_Index_int64_int64_l0
  JE := JE_slices_Index_int64_int64_l0
  XL := XL_slices_Index_int64_int64_l0
  XE := XE_slices_Index_int64_int64_l0
  q := fun j => match j with | 0 => .ret | _ => .exit 0
  tags := [0, 1]
  lt := lt_slices_Index_int64_int64_l0
  fuel := fun (y0, y1, y2, y3) => y0.natAbs + y1.natAbs + y2.natAbs + y3.length
  fix := fun (_, y1, y2, y3) (y0, _, _, _) => (y0, y1, y2, y3)
  σ := [(0, 0)]
  rd := rd_slices_Index_int64_int64_l0

theorem lpok_slices_Index_int64_int64_l0 : LoopOk Try.prog (fun k => Nat.blt k Try.f172.ntmps) lp_slices_Index_int64_int64_l0.F (loopAt Try.f172 0) := by
  refine Lp.ok (tbl := []) (lf := []) hmix lp_slices_Index_int64_int64_l0 (by kernel_rfl) (LOk.nil _) (fun _ => rfl) (fun j _ => by unfold lp_slices_Index_int64_int64_l0; match j with | 0 => rfl | _ + 1 => rfl) ?_ ?_ ?_ ?_ (fun _ => rfl) ?_
  · intro x; obtain ⟨y0, y1, y2, y3⟩ := x; kernel_rfl
  · intro x; obtain ⟨y0, y1, y2, y3⟩ := x; kernel_rfl
  · intro s x h
    have h : rd_slices_Index_int64_int64_l0 s = some x := h
    unfold rd_slices_Index_int64_int64_l0 at h
    repeat' split at h
    all_goals cases h
    exact ⟨absS_cons (by assumption) rfl (absS_cons (by assumption) rfl (absS_cons (by assumption) rfl (absS_cons (by assumption) rfl (rfl)))), absE_cons rfl (by assumption) rfl (rfl)⟩
  · intro x; obtain ⟨y0, y1, y2, y3⟩ := x; kernel_rfl
  · intro x z; obtain ⟨y0, y1, y2, y3⟩ := x; exact (And.intro (And.intro trivial rfl) trivial)

def slices_Index_int64_int64_a0 (x0 : Int) (x1 : List Int) : Int × Int × Int × List Int :=
  ((0 : Int), (↑(List.length x1) : Int), x0, x1)

def slices_Index_int64_int64_0 (x0 : Int) (x1 : List Int) : Int :=
  bif Nat.beq (Prod.fst (Lp.res lp_slices_Index_int64_int64_l0 (slices_Index_int64_int64_a0 x0 x1))) (0 : Nat) then
  Prod.fst (Prod.snd (Lp.res lp_slices_Index_int64_int64_l0 (slices_Index_int64_int64_a0 x0 x1)))
  else (-1 : Int)

def slices_Index_int64_int64_1 (x0 : Int) (x1 : List Int) : Bool :=
  allT [Lp.fin lp_slices_Index_int64_int64_l0 (slices_Index_int64_int64_a0 x0 x1)]

def F_slices_Index_int64_int64 : List SV → List Entry → Option Out
  | [.one ⟨false, [.ref 0]⟩, .one ⟨false, [.val (.int .i64 x0)]⟩], [.row false 2 (.int .i64) x1] => some ⟨(.one ⟨false, [(.val (.int IntKind.i64 (slices_Index_int64_int64_0 x0 x1)))]⟩), [(.row false 2 (CTy.int IntKind.i64) x1)], [], [(slices_Index_int64_int64_1 x0 x1)]⟩
  | _, _ => none

def p_slices_Index_int64_int64 : PF Try.prog := PF.ofG Try.prog [] [lp_slices_Index_int64_int64_l0.F] hmix 172 Try.f172 Try.func172 (LOk.fnT (l := [loopAt Try.f172 0]) (by kernel_rfl) (.cons lpok_slices_Index_int64_int64_l0 (.nil _))) F_slices_Index_int64_int64 (by
  intro vs es r h; unfold F_slices_Index_int64_int64 at h; split at h
  · cases h; kernel_rfl
  · cases h)

def slices_Contains_int64_int64_0 (x0 : Int) (x1 : List Int) : Bool :=
  leI (0 : Int) (slices_Index_int64_int64_0 x0 x1)

def slices_Contains_int64_int64_1 (x0 : Int) (x1 : List Int) : Bool :=
  allT [slices_Index_int64_int64_1 x0 x1]

def F_slices_Contains_int64_int64 : List SV → List Entry → Option Out
  | [.one ⟨false, [.ref 0]⟩, .one ⟨false, [.val (.int .i64 x0)]⟩], [.row false 2 (.int .i64) x1] => some ⟨(.one ⟨false, [(.val (.bool (slices_Contains_int64_int64_0 x0 x1)))]⟩), [(.row false 2 (CTy.int IntKind.i64) x1)], [], [(slices_Contains_int64_int64_1 x0 x1)]⟩
  | _, _ => none

def p_slices_Contains_int64_int64 : PF Try.prog := PF.ofG Try.prog [p_slices_Index_int64_int64, PF.lend p_slices_Index_int64_int64, PF.fz p_slices_Index_int64_int64] [] hmix 148 Try.f148 Try.func148 (fun c _ => LOk.nil c) F_slices_Contains_int64_int64 (by
  intro vs es r h; unfold F_slices_Contains_int64_int64 at h; split at h
  · cases h; kernel_rfl
  · cases h)

abbrev X_impl_areTolerated_l0 := Int × Int × List (Int × (Int × Int)) × List Int

def impl_areTolerated_l0_a0 (y0 : Int) (y2 : List (Int × (Int × Int))) : Int × Int × Int :=
  Option.getD y2[Int.toNat y0]? ((0 : Int), (0 : Int), (0 : Int))

def impl_areTolerated_l0_a1 (y0 : Int) (y2 : List (Int × (Int × Int))) : Bool :=
  Prod.snd (Prod.snd (impl_areTolerated_l0_a0 y0 y2)) == (0 : Int)

def impl_areTolerated_l0_0 (y0 : Int) (y1 : Int) : Bool :=
  ltI y0 y1

def impl_areTolerated_l0_1 (y0 : Int) : Bool :=
  leI (0 : Int) y0

def impl_areTolerated_l0_2 (y0 : Int) (y2 : List (Int × (Int × Int))) : Bool :=
  ltI y0 (↑(List.length y2) : Int)

def impl_areTolerated_l0_3 (y0 : Int) (y2 : List (Int × (Int × Int))) : Bool :=
  ltN (Int.toNat y0) (List.length y2)

def impl_areTolerated_l0_4 (y0 : Int) (y2 : List (Int × (Int × Int))) (y3 : List Int) : Bool :=
  !impl_areTolerated_l0_a1 y0 y2 || slices_Contains_int64_int64_1 (Prod.fst (impl_areTolerated_l0_a0 y0 y2)) y3

def impl_areTolerated_l0_5 (y0 : Int) (y2 : List (Int × (Int × Int))) : Bool :=
  impl_areTolerated_l0_a1 y0 y2

def impl_areTolerated_l0_6 (y0 : Int) (y2 : List (Int × (Int × Int))) (y3 : List Int) : Bool :=
  slices_Contains_int64_int64_0 (Prod.fst (impl_areTolerated_l0_a0 y0 y2)) y3

def impl_areTolerated_l0_7 (y0 : Int) (y2 : List (Int × (Int × Int))) (y3 : List Int) : Bool :=
  leN (List.length y3 + List.length [Prod.fst (impl_areTolerated_l0_a0 y0 y2)]) (9223372036854775807 : Nat)

def impl_areTolerated_l0_8 (y0 : Int) (y2 : List (Int × (Int × Int))) (y3 : List Int) : Bool :=
  leN ((List.length y3 + List.length [Prod.fst (impl_areTolerated_l0_a0 y0 y2)]) * (8 : Nat)) (140737488355328 : Nat)

def impl_areTolerated_l0_9 (y0 : Int) : Int :=
  IntKind.wrap IntKind.i64 (y0 + (1 : Int))

def impl_areTolerated_l0_10 (y0 : Int) (y2 : List (Int × (Int × Int))) (y3 : List Int) : List Int :=
  y3 ++ [Prod.fst (impl_areTolerated_l0_a0 y0 y2)]

def JL_impl_areTolerated_l0 : X_impl_areTolerated_l0 → List (Nat × SV)
  | (y0, y1, _, _) => [(8, (.one ⟨false, [(.val (.int IntKind.i64 y0))]⟩)), (7, (.one ⟨false, [(.val (.int IntKind.i64 y1))]⟩)), (6, (.one ⟨false, [(.ref 0)]⟩)), (3, (.one ⟨false, [(.ref 1)]⟩))]

def JE_impl_areTolerated_l0 : X_impl_areTolerated_l0 → List (Nat × Entry)
  | (_, _, y2, y3) => [(0, (.row false 118 (CTy.pair (CTy.int IntKind.i64) (CTy.pair (CTy.int IntKind.i64) (CTy.int IntKind.i64))) y2)), (1, (.row true 2 (CTy.int IntKind.i64) y3))]

def XL_impl_areTolerated_l0 : Nat → X_impl_areTolerated_l0 → List (Nat × SV)
  | 0, (_, _, _, _) => [(2, (.one ⟨false, [(.val (.bool false))]⟩))]
  | _, (_, _, _, _) => []

def XE_impl_areTolerated_l0 : Nat → X_impl_areTolerated_l0 → List (Nat × Entry)
  | 0, (_, _, y2, y3) => [(0, (.row false 118 (CTy.pair (CTy.int IntKind.i64) (CTy.pair (CTy.int IntKind.i64) (CTy.int IntKind.i64))) y2)), (1, (.row true 2 (CTy.int IntKind.i64) y3))]
  | _, (_, _, y2, y3) => [(0, (.row false 118 (CTy.pair (CTy.int IntKind.i64) (CTy.pair (CTy.int IntKind.i64) (CTy.int IntKind.i64))) y2)), (1, (.row true 2 (CTy.int IntKind.i64) y3))]

def lt_impl_areTolerated_l0 : X_impl_areTolerated_l0 → LT X_impl_areTolerated_l0
  | (y0, y1, y2, y3) => .ite (impl_areTolerated_l0_0 y0 y1) (.need [(impl_areTolerated_l0_1 y0), (impl_areTolerated_l0_2 y0 y2), (impl_areTolerated_l0_3 y0 y2)] (.need [(impl_areTolerated_l0_4 y0 y2 y3)] (.ite (impl_areTolerated_l0_5 y0 y2) (.ite (impl_areTolerated_l0_6 y0 y2 y3) (.ext 0 [(0, 0), (1, 1)]) (.need [(impl_areTolerated_l0_7 y0 y2 y3), (impl_areTolerated_l0_8 y0 y2 y3)] (.nrm ((impl_areTolerated_l0_9 y0), y1, y2, (impl_areTolerated_l0_10 y0 y2 y3)) [(0, 0), (1, 1088)]))) (.nrm ((impl_areTolerated_l0_9 y0), y1, y2, y3) [(0, 0), (1, 1)])))) (.ext 1 [(0, 0), (1, 1)])

def rd_impl_areTolerated_l0 (s : St) : Option X_impl_areTolerated_l0 :=
  (match s.look 8 with
  | some ⟨none, (.one ⟨false, [(.val (.int IntKind.i64 y0))]⟩)⟩ =>
  (match s.look 7 with
  | some ⟨none, (.one ⟨false, [(.val (.int IntKind.i64 y1))]⟩)⟩ =>
  (match s.look 6 with
  | some ⟨none, (.one ⟨false, [(.ref 0)]⟩)⟩ =>
  (match s.look 3 with
  | some ⟨none, (.one ⟨false, [(.ref 192)]⟩)⟩ =>
  (match s.ent 0 with
  | some (.row false 118 (CTy.pair (CTy.int IntKind.i64) (CTy.pair (CTy.int IntKind.i64) (CTy.int IntKind.i64))) y2) =>
  (match s.ent 192 with
  | some (.row true 2 (CTy.int IntKind.i64) y3) =>
  some (y0, y1, y2, y3)
  | _ => none)
  | _ => none)
  | _ => none)
  | _ => none)
  | _ => none)
  | _ => none)

def lp_impl_areTolerated_l0 : Lp X_impl_areTolerated_l0 where
  h := ⟨[9, 10, 11, 5, 12, 13, 14, 15, 16, 17, 18, 2, 19, 20, 21, 22, 23, 3, 24, 8], [0], [1], []⟩
  JL := JL_impl_areTolerated_l0
  JE := JE_impl_areTolerated_l0
  XL := XL_impl_areTolerated_l0
  XE := XE_impl_areTolerated_l0
  q := fun j => match j with | 0 => .ret | _ => .exit 0
  tags := [0, 1]
  lt := lt_impl_areTolerated_l0
  fuel := fun (y0, y1, y2, y3) => y0.natAbs + y1.natAbs + y2.length + y3.length
  fix := fun (_, y1, y2, _) (y0, _, _, y3) => (y0, y1, y2, y3)
  σ := [(0, 0), (1, 192)]
  rd := rd_impl_areTolerated_l0

theorem lpok_impl_areTolerated_l0 : LoopOk Try.prog (fun k => Nat.blt k Try.f117.ntmps) lp_impl_areTolerated_l0.F (loopAt Try.f117 0) := by
  refine Lp.ok (tbl := [p_slices_Contains_int64_int64, PF.lend p_slices_Contains_int64_int64, PF.fz p_slices_Contains_int64_int64]) (lf := []) hmix lp_impl_areTolerated_l0 (by kernel_rfl) (LOk.nil _) (fun _ => rfl) (fun j _ => by unfold lp_impl_areTolerated_l0; match j with | 0 => rfl | _ + 1 => rfl) ?_ ?_ ?_ ?_ (fun _ => rfl) ?_
  · intro x; obtain ⟨y0, y1, y2, y3⟩ := x; kernel_rfl
  · intro x; obtain ⟨y0, y1, y2, y3⟩ := x; kernel_rfl
  · intro s x h
    have h : rd_impl_areTolerated_l0 s = some x := h
    unfold rd_impl_areTolerated_l0 at h
    repeat' split at h
    all_goals cases h
    exact ⟨absS_cons (by assumption) rfl (absS_cons (by assumption) rfl (absS_cons (by assumption) rfl (absS_cons (by assumption) rfl (rfl)))), absE_cons rfl (by assumption) rfl (absE_cons rfl (by assumption) rfl (rfl))⟩
  · intro x; obtain ⟨y0, y1, y2, y3⟩ := x; kernel_rfl
  · intro x z; obtain ⟨y0, y1, y2, y3⟩ := x; exact (And.intro (And.intro (And.intro trivial rfl) rfl) trivial)

def impl_areTolerated_a0 (x0 : List (Int × Int × Int)) : Int × Int × List (Int × Int × Int) × List Int :=
  ((0 : Int), (↑(List.length x0) : Int), x0, [])

def impl_areTolerated_0 (x0 : List (Int × Int × Int)) : Bool :=
  bif Nat.beq (Prod.fst (Lp.res lp_impl_areTolerated_l0 (impl_areTolerated_a0 x0))) (0 : Nat) then false else true

def impl_areTolerated_1 (x0 : List (Int × Int × Int)) : Bool :=
  allT [Lp.fin lp_impl_areTolerated_l0 (impl_areTolerated_a0 x0)]

def F_impl_areTolerated : List SV → List Entry → Option Out
  | [.one ⟨false, [.ref 0]⟩], [.row false 118 (.pair (.int .i64) (.pair (.int .i64) (.int .i64))) x0] => some ⟨(.one ⟨false, [(.val (.bool (impl_areTolerated_0 x0)))]⟩), [(.row false 118 (CTy.pair (CTy.int IntKind.i64) (CTy.pair (CTy.int IntKind.i64) (CTy.int IntKind.i64))) x0)], [], [(impl_areTolerated_1 x0)]⟩
  | _, _ => none

def p_impl_areTolerated : PF Try.prog := PF.ofG Try.prog [p_slices_Contains_int64_int64, PF.lend p_slices_Contains_int64_int64, PF.fz p_slices_Contains_int64_int64] [lp_impl_areTolerated_l0.F] hmix 117 Try.f117 Try.func117 (LOk.fnT (l := [loopAt Try.f117 0]) (by kernel_rfl) (.cons lpok_impl_areTolerated_l0 (.nil _))) F_impl_areTolerated (by
  intro vs es r h; unfold F_impl_areTolerated at h; split at h
  · cases h; kernel_rfl
  · cases h)

def impl_AreTolerated_0 (x0 : Int) (x1 : List (Int × Int × Int)) : Bool :=
  bif impl_AreFaults_0 x0 x1 then impl_areTolerated_0 x1 else false

def impl_AreTolerated_1 (x0 : Int) (x1 : List (Int × Int × Int)) : Bool :=
  allT [impl_AreFaults_1 x0 x1, !(impl_AreFaults_0 x0 x1 && true) || impl_areTolerated_1 x1]

def F_impl_AreTolerated : List SV → List Entry → Option Out
  | [.one ⟨false, [.val (.int .i64 x0)]⟩, .one ⟨false, [.ref 0]⟩], [.row false 118 (.pair (.int .i64) (.pair (.int .i64) (.int .i64))) x1] => some ⟨(.one ⟨false, [(.val (.bool (impl_AreTolerated_0 x0 x1)))]⟩), [(.row false 118 (CTy.pair (CTy.int IntKind.i64) (CTy.pair (CTy.int IntKind.i64) (CTy.int IntKind.i64))) x1)], [], [(impl_AreTolerated_1 x0 x1)]⟩
  | _, _ => none

def p_impl_AreTolerated : PF Try.prog := PF.ofG Try.prog [p_impl_AreFaults, PF.lend p_impl_AreFaults, PF.fz p_impl_AreFaults, p_impl_areTolerated, PF.lend p_impl_areTolerated, PF.fz p_impl_areTolerated] [] hmix 65 Try.f65 Try.func65 (fun c _ => LOk.nil c) F_impl_AreTolerated (by
  intro vs es r h; unfold F_impl_AreTolerated at h; split at h
  · cases h; kernel_rfl
  · cases h)

end Go.SX

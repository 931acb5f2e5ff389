/- What functions of the program come to, row by row (made by a program of the workplace). -/
import Derived.Test.YtjhgiognlkmehaaGreatTXh
import Derived.Test.YtjhgiognlkmehaaGreatProg
import Derived.Test.YtjhgiognlkmehaaGreatNb
namespace Go.SX
open Go.Proofs
set_option maxRecDepth 100000

abbrev X_spec_IsSafeTraffic_l0 := Int × Int × List Int

def spec_IsSafeTraffic_l0_0 (y0 : Int) (y1 : Int) : Bool :=
  ltI y0 y1

def spec_IsSafeTraffic_l0_1 (y1 : Int) (y2 : List Int) : Bool :=
  isT y1 y2

def spec_IsSafeTraffic_l0_2 (y0 : Int) (y1 : Int) (y2 : List Int) : Bool :=
  ltI (1 : Int) (↑(cntB y1 y2 y0) : Int)

def spec_IsSafeTraffic_l0_3 (y0 : Int) : Int :=
  IntKind.wrap IntKind.i64 (y0 + (1 : Int))

def JL_spec_IsSafeTraffic_l0 : X_spec_IsSafeTraffic_l0 → List (Nat × SV)
  | (y0, _, _) => [(3, (.one ⟨false, [(.val (.int IntKind.i64 y0))]⟩)), (1, (.one ⟨false, [(.ptr 0 0)]⟩))]

def JE_spec_IsSafeTraffic_l0 : X_spec_IsSafeTraffic_l0 → List (Nat × Entry)
  | (_, y1, y2) => [(0, (.box 34 [(.val (.int IntKind.i64 y1)), (.ref 1)])), (1, (.row false 2 (CTy.int IntKind.i64) y2))]

def XL_spec_IsSafeTraffic_l0 : Nat → X_spec_IsSafeTraffic_l0 → List (Nat × SV)
  | 0, (_, _, _) => [(2, (.one ⟨false, [(.val (.bool false))]⟩))]
  | _, (_, _, _) => []

def XE_spec_IsSafeTraffic_l0 : Nat → X_spec_IsSafeTraffic_l0 → List (Nat × Entry)
  | 0, (_, y1, y2) => [(0, (.box 34 [(.val (.int IntKind.i64 y1)), (.ref 1)])), (1, (.row false 2 (CTy.int IntKind.i64) y2))]
  | _, (_, y1, y2) => [(0, (.box 34 [(.val (.int IntKind.i64 y1)), (.ref 1)])), (1, (.row false 2 (CTy.int IntKind.i64) y2))]

def lt_spec_IsSafeTraffic_l0 : X_spec_IsSafeTraffic_l0 → LT X_spec_IsSafeTraffic_l0
  | (y0, y1, y2) => .ite (spec_IsSafeTraffic_l0_0 y0 y1) (.need [(spec_IsSafeTraffic_l0_1 y1 y2)] (.ite (spec_IsSafeTraffic_l0_2 y0 y1 y2) (.ext 0 [(0, 0), (1, 1)]) (.nrm ((spec_IsSafeTraffic_l0_3 y0), y1, y2) [(0, 0), (1, 1)]))) (.ext 1 [(0, 0), (1, 1)])

def rd_spec_IsSafeTraffic_l0 (s : St) : Option X_spec_IsSafeTraffic_l0 :=
  (match s.look 3 with
  | some ⟨none, (.one ⟨false, [(.val (.int IntKind.i64 y0))]⟩)⟩ =>
  (match s.look 1 with
  | some ⟨none, (.one ⟨false, [(.ptr 128 0)]⟩)⟩ =>
  (match s.ent 128 with
  | some (.box 34 [(.val (.int IntKind.i64 y1)), (.ref 0)]) =>
  (match s.ent 0 with
  | some (.row false 2 (CTy.int IntKind.i64) y2) =>
  some (y0, y1, y2)
  | _ => none)
  | _ => none)
  | _ => none)
  | _ => none)

def lp_spec_IsSafeTraffic_l0 : Lp X_spec_IsSafeTraffic_l0 where
  h := ⟨[7, 8, 9, 10, 13, 14, 15, 16, 2, 11, 12, 3], [0, 1], [], []⟩
  JL := JL_spec_IsSafeTraffic_l0
  JE := JE_spec_IsSafeTraffic_l0
  XL := XL_spec_IsSafeTraffic_l0
  XE := XE_spec_IsSafeTraffic_l0
  q := fun j => match j with | 0 => .ret | _ => .exit 0
  tags := [0, 1]
  lt := lt_spec_IsSafeTraffic_l0
  fuel := fun (y0, y1, y2) => y0.natAbs + y1.natAbs + y2.length
  fix := fun (_, y1, y2) (y0, _, _) => (y0, y1, y2)
  σ := [(0, 128), (1, 0)]
  rd := rd_spec_IsSafeTraffic_l0

theorem lpok_spec_IsSafeTraffic_l0 : LoopOk Tryz.prog (fun k => Nat.blt k Tryz.f16.ntmps) lp_spec_IsSafeTraffic_l0.F (loopAt Tryz.f16 0) := by
  refine Lp.ok (tbl := [n_spec_IsTraffic, PF.lend n_spec_IsTraffic, PF.fz n_spec_IsTraffic, n_spec_l10Count, PF.lend n_spec_l10Count, PF.fz n_spec_l10Count]) (lf := []) hmix lp_spec_IsSafeTraffic_l0 (by kernel_rfl) (LOk.nil _) (fun _ => rfl) (fun j _ => by unfold lp_spec_IsSafeTraffic_l0; match j with | 0 => rfl | _ + 1 => rfl) ?_ ?_ ?_ ?_ (fun _ => rfl) ?_
  · intro x; obtain ⟨y0, y1, y2⟩ := x; kernel_rfl
  · intro x; obtain ⟨y0, y1, y2⟩ := x; kernel_rfl
  · intro s x h
    have h : rd_spec_IsSafeTraffic_l0 s = some x := h
    unfold rd_spec_IsSafeTraffic_l0 at h
    repeat' split at h
    all_goals cases h
    exact ⟨absS_cons (by assumption) rfl (absS_cons (by assumption) rfl (rfl)), absE_cons rfl (by assumption) rfl (absE_cons rfl (by assumption) rfl (rfl))⟩
  · intro x; obtain ⟨y0, y1, y2⟩ := x; kernel_rfl
  · intro x z; obtain ⟨y0, y1, y2⟩ := x; exact (And.intro (And.intro trivial rfl) trivial)

def spec_IsSafeTraffic_a0 (x0 : Int) (x1 : List Int) : Int × Int × List Int :=
  ((0 : Int), x0, x1)

def spec_IsSafeTraffic_0 (x0 : Int) (x1 : List Int) : Bool :=
  bif !isT x0 x1 then false else bif Nat.beq (Prod.fst (Lp.res lp_spec_IsSafeTraffic_l0 (spec_IsSafeTraffic_a0 x0 x1))) (0 : Nat) then false else true

def spec_IsSafeTraffic_1 (x0 : Int) (x1 : List Int) : Bool :=
  allT [!isT x0 x1 || Lp.fin lp_spec_IsSafeTraffic_l0 (spec_IsSafeTraffic_a0 x0 x1)]

def F_spec_IsSafeTraffic : List SV → List Entry → Option Out
  | [.one ⟨true, [.val (.int .i64 x0), .ref 0]⟩], [.row false 2 (.int .i64) x1] => some ⟨(.one ⟨false, [(.val (.bool (spec_IsSafeTraffic_0 x0 x1)))]⟩), [(.row false 2 (CTy.int IntKind.i64) x1)], [], [(spec_IsSafeTraffic_1 x0 x1)]⟩
  | _, _ => none

def p_spec_IsSafeTraffic : PF Tryz.prog := PF.ofG Tryz.prog [n_spec_IsTraffic, PF.lend n_spec_IsTraffic, PF.fz n_spec_IsTraffic, n_spec_l10Count, PF.lend n_spec_l10Count, PF.fz n_spec_l10Count] [lp_spec_IsSafeTraffic_l0.F] hmix 16 Tryz.f16 Tryz.func16 (LOk.fnT (l := [loopAt Tryz.f16 0]) (by kernel_rfl) (.cons lpok_spec_IsSafeTraffic_l0 (.nil _))) F_spec_IsSafeTraffic (by
  intro vs es r h; unfold F_spec_IsSafeTraffic at h; split at h
  · cases h; kernel_rfl
  · cases h)

end Go.SX

/- What functions of the program come to, row by row (made by a program of the workplace). -/
import Derived.Test.YtjhgiognlkmehaaGreatTXh
import Derived.Test.YtjhgiognlkmehaaGreatProg
import Derived.Test.YtjhgiognlkmehaaGreatNa
namespace Go.SX
open Go.Proofs
set_option maxRecDepth 100000

def laws_szTraffic_0 (x1 : Int) (x2 : List Int) : Int :=
  bif ltI (szV x1 x2) (0 : Int) then (-1 : Int) else szV x1 x2

def laws_szTraffic_1 (x1 : Int) (x2 : List Int) : Bool :=
  allT [leN (List.length x2) (9223372036854775807 : Nat) && (leI (-1 : Int) x1 && leI x1 (1048576 : Int))]

def F_laws_szTraffic : List SV → List Entry → Option Out
  | [.one ⟨true, [.val (.int .i64 _x0), .ref 0]⟩, .one ⟨false, [.val (.int .i64 x1)]⟩], [.row false 2 (.int .i64) x2] => some ⟨(.one ⟨false, [(.val (.int IntKind.i64 (laws_szTraffic_0 x1 x2)))]⟩), [(.row false 2 (CTy.int IntKind.i64) x2)], [], [(laws_szTraffic_1 x1 x2)]⟩
  | _, _ => none

def p_laws_szTraffic : PF Tryz.prog := PF.ofG Tryz.prog [n_laws_szInt64S, PF.lend n_laws_szInt64S, PF.fz n_laws_szInt64S] [] hmix 9 Tryz.f9 Tryz.func9 (fun c _ => LOk.nil c) F_laws_szTraffic (by
  intro vs es r h; unfold F_laws_szTraffic at h; split at h
  · cases h; kernel_rfl
  · cases h)

abbrev X_spec_l10Count_l0 := Int × Int × Int × Int × List Int

def spec_l10Count_l0_a0 (y0 : Int) (y4 : List Int) : Int :=
  Option.getD y4[Int.toNat y0]? (0 : Int)

def spec_l10Count_l0_0 (y0 : Int) (y4 : List Int) : Bool :=
  ltI y0 (↑(List.length y4) : Int)

def spec_l10Count_l0_1 (y0 : Int) : Bool :=
  leI (0 : Int) y0

def spec_l10Count_l0_2 (y0 : Int) (y4 : List Int) : Bool :=
  ltN (Int.toNat y0) (List.length y4)

def spec_l10Count_l0_3 (y0 : Int) (y3 : Int) (y4 : List Int) : Bool :=
  okP y3 (spec_l10Count_l0_a0 y0 y4)

def spec_l10Count_l0_4 (y0 : Int) : Int :=
  IntKind.wrap IntKind.i64 (y0 + (1 : Int))

def spec_l10Count_l0_5 (y0 : Int) (y1 : Int) (y2 : Int) (y3 : Int) (y4 : List Int) : Int :=
  bif usesB y3 (spec_l10Count_l0_a0 y0 y4) y1 then IntKind.wrap IntKind.i64 (y2 + (1 : Int)) else y2

def JL_spec_l10Count_l0 : X_spec_l10Count_l0 → List (Nat × SV)
  | (y0, y1, y2, _, _) => [(6, (.one ⟨false, [(.val (.int IntKind.i64 y0))]⟩)), (2, (.one ⟨false, [(.ptr 0 0)]⟩)), (1, (.one ⟨false, [(.val (.int IntKind.i64 y1))]⟩)), (5, (.one ⟨false, [(.val (.int IntKind.i64 y2))]⟩))]

def JE_spec_l10Count_l0 : X_spec_l10Count_l0 → List (Nat × Entry)
  | (_, _, _, y3, y4) => [(0, (.box 34 [(.val (.int IntKind.i64 y3)), (.ref 1)])), (1, (.row false 2 (CTy.int IntKind.i64) y4))]

def XL_spec_l10Count_l0 : Nat → X_spec_l10Count_l0 → List (Nat × SV)
  | _, (_, _, y2, _, _) => [(5, (.one ⟨false, [(.val (.int IntKind.i64 y2))]⟩))]

def XE_spec_l10Count_l0 : Nat → X_spec_l10Count_l0 → List (Nat × Entry)
  | _, (_, _, _, y3, y4) => [(0, (.box 34 [(.val (.int IntKind.i64 y3)), (.ref 1)])), (1, (.row false 2 (CTy.int IntKind.i64) y4))]

def lt_spec_l10Count_l0 : X_spec_l10Count_l0 → LT X_spec_l10Count_l0
  | (y0, y1, y2, y3, y4) => .ite (spec_l10Count_l0_0 y0 y4) (.need [(spec_l10Count_l0_1 y0), (spec_l10Count_l0_0 y0 y4), (spec_l10Count_l0_2 y0 y4), (spec_l10Count_l0_3 y0 y3 y4)] (.nrm ((spec_l10Count_l0_4 y0), y1, (spec_l10Count_l0_5 y0 y1 y2 y3 y4), y3, y4) [(0, 0), (1, 1)])) (.ext 0 [(0, 0), (1, 1)])

def rd_spec_l10Count_l0 (s : St) : Option X_spec_l10Count_l0 :=
  (match s.look 6 with
  | some ⟨none, (.one ⟨false, [(.val (.int IntKind.i64 y0))]⟩)⟩ =>
  (match s.look 2 with
  | some ⟨none, (.one ⟨false, [(.ptr 128 0)]⟩)⟩ =>
  (match s.look 1 with
  | some ⟨none, (.one ⟨false, [(.val (.int IntKind.i64 y1))]⟩)⟩ =>
  (match s.look 5 with
  | some ⟨none, (.one ⟨false, [(.val (.int IntKind.i64 y2))]⟩)⟩ =>
  (match s.ent 128 with
  | some (.box 34 [(.val (.int IntKind.i64 y3)), (.ref 0)]) =>
  (match s.ent 0 with
  | some (.row false 2 (CTy.int IntKind.i64) y4) =>
  some (y0, y1, y2, y3, y4)
  | _ => none)
  | _ => none)
  | _ => none)
  | _ => none)
  | _ => none)
  | _ => none)

def lp_spec_l10Count_l0 : Lp X_spec_l10Count_l0 where
  h := ⟨[7, 8, 9, 10, 11, 14, 15, 16, 17, 18, 19, 20, 21, 22, 23, 24, 5, 12, 13, 6], [0, 1], [], []⟩
  JL := JL_spec_l10Count_l0
  JE := JE_spec_l10Count_l0
  XL := XL_spec_l10Count_l0
  XE := XE_spec_l10Count_l0
  q := fun j => match j with | _ => .exit 0
  tags := [0]
  lt := lt_spec_l10Count_l0
  fuel := fun (y0, y1, y2, y3, y4) => y0.natAbs + y1.natAbs + y2.natAbs + y3.natAbs + y4.length
  fix := fun (_, y1, _, y3, y4) (y0, _, y2, _, _) => (y0, y1, y2, y3, y4)
  σ := [(0, 128), (1, 0)]
  rd := rd_spec_l10Count_l0

theorem lpok_spec_l10Count_l0 : LoopOk Tryz.prog (fun k => Nat.blt k Tryz.f45.ntmps) lp_spec_l10Count_l0.F (loopAt Tryz.f45 0) := by
  refine Lp.ok (tbl := [n_spec_l10Uses]) (lf := []) hmix lp_spec_l10Count_l0 (by kernel_rfl) (LOk.nil _) (fun _ => rfl) (fun _ _ => rfl) ?_ ?_ ?_ ?_ (fun _ => rfl) ?_
  · intro x; obtain ⟨y0, y1, y2, y3, y4⟩ := x; kernel_rfl
  · intro x; obtain ⟨y0, y1, y2, y3, y4⟩ := x; kernel_rfl
  · intro s x h
    have h : rd_spec_l10Count_l0 s = some x := h
    unfold rd_spec_l10Count_l0 at h
    repeat' split at h
    all_goals cases h
    exact ⟨absS_cons (by assumption) rfl (absS_cons (by assumption) rfl (absS_cons (by assumption) rfl (absS_cons (by assumption) rfl (rfl)))), absE_cons rfl (by assumption) rfl (absE_cons rfl (by assumption) rfl (rfl))⟩
  · intro x; obtain ⟨y0, y1, y2, y3, y4⟩ := x; kernel_rfl
  · intro x z; obtain ⟨y0, y1, y2, y3, y4⟩ := x; exact (And.intro rfl trivial)

def spec_l10Count_a0 (x0 : Int) (x1 : Int) (x2 : List Int) : Int × Int × Int × Int × List Int :=
  ((0 : Int), x1, (0 : Int), x0, x2)

def spec_l10Count_0 (x0 : Int) (x1 : Int) (x2 : List Int) : Int :=
  Prod.fst (Prod.snd (Prod.snd (Prod.snd (Lp.res lp_spec_l10Count_l0 (spec_l10Count_a0 x0 x1 x2)))))

def spec_l10Count_1 (x0 : Int) (x1 : Int) (x2 : List Int) : Bool :=
  allT [Lp.fin lp_spec_l10Count_l0 (spec_l10Count_a0 x0 x1 x2)]

def F_spec_l10Count : List SV → List Entry → Option Out
  | [.one ⟨true, [.val (.int .i64 x0), .ref 0]⟩, .one ⟨false, [.val (.int .i64 x1)]⟩], [.row false 2 (.int .i64) x2] => some ⟨(.one ⟨false, [(.val (.int IntKind.i64 (spec_l10Count_0 x0 x1 x2)))]⟩), [(.row false 2 (CTy.int IntKind.i64) x2)], [], [(spec_l10Count_1 x0 x1 x2)]⟩
  | _, _ => none

def p_spec_l10Count : PF Tryz.prog := PF.ofG Tryz.prog [n_spec_l10Uses] [lp_spec_l10Count_l0.F] hmix 45 Tryz.f45 Tryz.func45 (LOk.fnT (l := [loopAt Tryz.f45 0]) (by kernel_rfl) (.cons lpok_spec_l10Count_l0 (.nil _))) F_spec_l10Count (by
  intro vs es r h; unfold F_spec_l10Count at h; split at h
  · cases h; kernel_rfl
  · cases h)

def laws_toTraffic_0 (x1 : List Int) : Bool :=
  allT [leN (List.length x1) (1048576 : Nat)]

def F_laws_toTraffic : List SV → List Entry → Option Out
  | [.one ⟨true, [.val (.int .i64 x0), .ref 0]⟩], [.row false 2 (.int .i64) x1] => some ⟨(.one ⟨true, [(.val (.int IntKind.i64 x0)), (.ref 1)]⟩), [(.row false 2 (CTy.int IntKind.i64) x1)], [(.row true 2 (CTy.int IntKind.i64) x1)], [(laws_toTraffic_0 x1)]⟩
  | _, _ => none

def p_laws_toTraffic : PF Tryz.prog := PF.ofG Tryz.prog [n_laws_toInt64S, PF.lend n_laws_toInt64S, PF.fz n_laws_toInt64S] [] hmix 19 Tryz.f19 Tryz.func19 (fun c _ => LOk.nil c) F_laws_toTraffic (by
  intro vs es r h; unfold F_laws_toTraffic at h; split at h
  · cases h; kernel_rfl
  · cases h)

def laws_eqTraffic_0 (x0 : Int) (x1 : Int) (x2 : List Int) (x3 : List Int) : Bool :=
  bif x0 != x1 then false else bif !eqL x2 x3 then false else true

def laws_eqTraffic_1 (x0 : Int) (x1 : Int) (x2 : List Int) : Bool :=
  allT [x0 != x1 || leN (List.length x2) (9223372036854775807 : Nat)]

def F_laws_eqTraffic : List SV → List Entry → Option Out
  | [.one ⟨true, [.val (.int .i64 x0), .ref 0]⟩, .one ⟨true, [.val (.int .i64 x1), .ref 1]⟩], [.row false 2 (.int .i64) x2, .row false 2 (.int .i64) x3] => some ⟨(.one ⟨false, [(.val (.bool (laws_eqTraffic_0 x0 x1 x2 x3)))]⟩), [(.row false 2 (CTy.int IntKind.i64) x2), (.row false 2 (CTy.int IntKind.i64) x3)], [], [(laws_eqTraffic_1 x0 x1 x2)]⟩
  | _, _ => none

def p_laws_eqTraffic : PF Tryz.prog := PF.ofG Tryz.prog [n_laws_eqInt64S, PF.lend n_laws_eqInt64S, PF.fz n_laws_eqInt64S] [] hmix 29 Tryz.f29 Tryz.func29 (fun c _ => LOk.nil c) F_laws_eqTraffic (by
  intro vs es r h; unfold F_laws_eqTraffic at h; split at h
  · cases h; kernel_rfl
  · cases h)

end Go.SX

/- What functions of the program come to, row by row (made by a program of the workplace). -/
import Derived.Test.YtepaifhehlpbaaaDoorTXh
import Derived.Test.YtepaifhehlpbaaaDoorProg
import Derived.Test.YtepaifhehlpbaaaDoorNa
namespace Go.SX
open Go.Proofs
set_option maxRecDepth 100000

abbrev X_spec_l01From_l0 := Int × List Int × Int × Int

def spec_l01From_l0_0 (y0 : Int) (y1 : List Int) : Bool :=
  bif ltI y0 (↑(List.length y1) : Int) then ltI y0 (64 : Int) else false

def spec_l01From_l0_1 (y0 : Int) : Bool :=
  leI (0 : Int) y0

def spec_l01From_l0_2 (y0 : Int) (y1 : List Int) : Bool :=
  ltI y0 (↑(List.length y1) : Int)

def spec_l01From_l0_3 (y0 : Int) (y1 : List Int) : Bool :=
  ltN (Int.toNat y0) (List.length y1)

def spec_l01From_l0_4  : Bool :=
  neI (2147483647 : Int) (0 : Int)

def spec_l01From_l0_5 (y0 : Int) : Int :=
  IntKind.wrap IntKind.i64 (y0 + (1 : Int))

def spec_l01From_l0_6 (y0 : Int) (y1 : List Int) (y3 : Int) : Int :=
  Int.tmod (IntKind.wrap IntKind.i64 (IntKind.wrap IntKind.i64 (y3 * (59 : Int)) + IntKind.wrap IntKind.i64 (Option.getD y1[Int.toNat y0]? (0 : Int))))
  (2147483647 : Int)

def JL_spec_l01From_l0 : X_spec_l01From_l0 → List (Nat × SV)
  | (y0, _, _, _) => [(4, (.one ⟨false, [(.val (.int IntKind.i64 y0))]⟩)), (0, (.one ⟨false, [(.ref 0)]⟩)), (3, (.one ⟨false, [(.ptr 1 0)]⟩))]

def JE_spec_l01From_l0 : X_spec_l01From_l0 → List (Nat × Entry)
  | (_, y1, y2, y3) => [(0, (.row false 5 (CTy.int IntKind.u8) y1)), (1, (.box 134 [(.ref 0), (.val (.int IntKind.i64 y2)), (.val (.int IntKind.i64 y3))]))]

def XL_spec_l01From_l0 : Nat → X_spec_l01From_l0 → List (Nat × SV)
  | _, (_, _, _, _) => []

def XE_spec_l01From_l0 : Nat → X_spec_l01From_l0 → List (Nat × Entry)
  | _, (_, y1, y2, y3) => [(0, (.row false 5 (CTy.int IntKind.u8) y1)), (1, (.box 134 [(.ref 0), (.val (.int IntKind.i64 y2)), (.val (.int IntKind.i64 y3))]))]

def lt_spec_l01From_l0 : X_spec_l01From_l0 → LT X_spec_l01From_l0
  | (y0, y1, y2, y3) => .ite (spec_l01From_l0_0 y0 y1) (.need [(spec_l01From_l0_1 y0), (spec_l01From_l0_2 y0 y1), (spec_l01From_l0_3 y0 y1), (spec_l01From_l0_4)] (.nrm ((spec_l01From_l0_5 y0), y1, y2, (spec_l01From_l0_6 y0 y1 y3)) [(0, 0), (1, 1)])) (.ext 0 [(0, 0), (1, 1)])

def rd_spec_l01From_l0 (s : St) : Option X_spec_l01From_l0 :=
  (match s.look 4 with
  | some ⟨none, (.one ⟨false, [(.val (.int IntKind.i64 y0))]⟩)⟩ =>
  (match s.look 0 with
  | some ⟨none, (.one ⟨false, [(.ref 0)]⟩)⟩ =>
  (match s.look 3 with
  | some ⟨none, (.one ⟨false, [(.ptr 320 0)]⟩)⟩ =>
  (match s.ent 0 with
  | some (.row false 5 (CTy.int IntKind.u8) y1) =>
  (match s.ent 320 with
  | some (.box 134 [(.ref 0), (.val (.int IntKind.i64 y2)), (.val (.int IntKind.i64 y3))]) =>
  some (y0, y1, y2, y3)
  | _ => none)
  | _ => none)
  | _ => none)
  | _ => none)
  | _ => none)

def lp_spec_l01From_l0 : Lp X_spec_l01From_l0 where
  h := ⟨[8, 9, 10, 11, 12, 13, 14, 15, 18, 19, 20, 21, 22, 23, 24, 25, 26, 27, 28, 29, 30, 31, 32, 16, 17, 4], [0, 1], [], []⟩
  JL := JL_spec_l01From_l0
  JE := JE_spec_l01From_l0
  XL := XL_spec_l01From_l0
  XE := XE_spec_l01From_l0
  q := fun j => match j with | _ => .exit 0
  tags := [0]
  lt := lt_spec_l01From_l0
  fuel := fun (y0, y1, y2, y3) => y0.natAbs + y1.length + y2.natAbs + y3.natAbs
  fix := fun (_, y1, y2, _) (y0, _, _, y3) => (y0, y1, y2, y3)
  σ := [(0, 0), (1, 320)]
  rd := rd_spec_l01From_l0

theorem lpok_spec_l01From_l0 : LoopOk Tryd.prog (fun k => Nat.blt k Tryd.f59.ntmps) lp_spec_l01From_l0.F (loopAt Tryd.f59 0) := by
  refine Lp.ok (tbl := []) (lf := []) hmix lp_spec_l01From_l0 (by kernel_rfl) (LOk.nil _) (fun _ => rfl) (fun _ _ => rfl) ?_ ?_ ?_ ?_ (fun _ => rfl) ?_
  · intro x; obtain ⟨y0, y1, y2, y3⟩ := x; kernel_rfl
  · intro x; obtain ⟨y0, y1, y2, y3⟩ := x; kernel_rfl
  · intro s x h
    have h : rd_spec_l01From_l0 s = some x := h
    unfold rd_spec_l01From_l0 at h
    repeat' split at h
    all_goals cases h
    exact ⟨absS_cons (by assumption) rfl (absS_cons (by assumption) rfl (absS_cons (by assumption) rfl (rfl))), absE_cons rfl (by assumption) rfl (absE_cons rfl (by assumption) rfl (rfl))⟩
  · intro x; obtain ⟨y0, y1, y2, y3⟩ := x; kernel_rfl
  · intro x z; obtain ⟨y0, y1, y2, y3⟩ := x; exact (And.intro rfl trivial)

def spec_l01From_a0 (x0 : List Int) : Int × List Int × Int × Int :=
  ((0 : Int), x0, (0 : Int), (52021 : Int))

def spec_l01From_0 (x0 : List Int) : Int :=
  Prod.snd (Prod.snd (Prod.snd (Prod.snd (Lp.res lp_spec_l01From_l0 (spec_l01From_a0 x0)))))

def spec_l01From_1 (x0 : List Int) : Bool :=
  allT [Lp.fin lp_spec_l01From_l0 (spec_l01From_a0 x0)]

def F_spec_l01From : List SV → List Entry → Option Out
  | [.one ⟨false, [.ref 0]⟩], [.row false 5 (.int .u8) x0] => some ⟨(.one ⟨false, [(.ptr 1 0)]⟩), [(.row false 5 (CTy.int IntKind.u8) x0)], [(.box 134 [(.ref 0), (.val (.int IntKind.i64 (0 : Int))), (.val (.int IntKind.i64 (spec_l01From_0 x0)))])], [(spec_l01From_1 x0)]⟩
  | _, _ => none

def p_spec_l01From : PF Tryd.prog := PF.ofG Tryd.prog [] [lp_spec_l01From_l0.F] hmix 59 Tryd.f59 Tryd.func59 (LOk.fnT (l := [loopAt Tryd.f59 0]) (by kernel_rfl) (.cons lpok_spec_l01From_l0 (.nil _))) F_spec_l01From (by
  intro vs es r h; unfold F_spec_l01From at h; split at h
  · cases h; kernel_rfl
  · cases h)

def spec_l01Next_a0 (x1 : Int) : Int :=
  IntKind.wrap IntKind.i64 (x1 + (1 : Int))

def spec_l01Next_a1 (x0 : Int) (x1 : Int) : Bool :=
  bif leI x0 (256 : Int) then Int.tmod (spec_l01Next_a0 x1) (2 : Int) == (0 : Int) else false

def spec_l01Next_a2 (x1 : Int) : Int :=
  IntKind.wrap IntKind.i64 (spec_l01Next_a0 x1 - (1 : Int))

def spec_l01Next_a3 (x2 : Int) : Int :=
  Int.tmod (IntKind.wrap IntKind.i64 (IntKind.wrap IntKind.i64 (x2 * (48271 : Int)) + (29 : Int))) (2147483647 : Int)

def spec_l01Next_0 (x0 : Int) (x1 : Int) (x2 : Int) (x3 : List Int) : Int :=
  bif leI x0 (1 : Int) then (0 : Int)
  else
  Int.tmod
    (bif ltI x1 (↑(List.length x3) : Int) then
      bif spec_l01Next_a1 x0 x1 then IntKind.wrap IntKind.i64 (Option.getD x3[Int.toNat (spec_l01Next_a2 x1)]? (0 : Int))
      else
        IntKind.wrap IntKind.i64
          (IntKind.wrap IntKind.i64 (Int.tdiv (spec_l01Next_a3 x2) (31 : Int)) + IntKind.wrap IntKind.i64 (Option.getD x3[Int.toNat x1]? (0 : Int)))
    else IntKind.wrap IntKind.i64 (Int.tdiv (spec_l01Next_a3 x2) (31 : Int)))
    x0

def spec_l01Next_1 (x0 : Int) (x1 : Int) (x3 : List Int) : Int :=
  bif leI x0 (1 : Int) then x1 else bif ltI x1 (↑(List.length x3) : Int) then spec_l01Next_a0 x1 else x1

def spec_l01Next_2 (x0 : Int) (x1 : Int) (x2 : Int) (x3 : List Int) : Int :=
  bif leI x0 (1 : Int) then x2 else bif ltI x1 (↑(List.length x3) : Int) then spec_l01Next_a3 x2 else spec_l01Next_a3 x2

def spec_l01Next_3 (x0 : Int) (x1 : Int) (x3 : List Int) : Bool :=
  allT
  [leI x0 (1 : Int) || neI (2147483647 : Int) (0 : Int), leI x0 (1 : Int) || neI (31 : Int) (0 : Int),
    leI x0 (1 : Int) || (!ltI x1 (↑(List.length x3) : Int) || leI (0 : Int) x1),
    leI x0 (1 : Int) || (!ltI x1 (↑(List.length x3) : Int) || ltI x1 (↑(List.length x3) : Int)),
    leI x0 (1 : Int) || (!ltI x1 (↑(List.length x3) : Int) || ltN (Int.toNat x1) (List.length x3)),
    leI x0 (1 : Int) || (!ltI x1 (↑(List.length x3) : Int) || (!(leI x0 (256 : Int) && true) || neI (2 : Int) (0 : Int))),
    leI x0 (1 : Int) || (!ltI x1 (↑(List.length x3) : Int) || (!spec_l01Next_a1 x0 x1 || leI (0 : Int) (spec_l01Next_a2 x1))),
    leI x0 (1 : Int) || (!ltI x1 (↑(List.length x3) : Int) || (!spec_l01Next_a1 x0 x1 || ltI (spec_l01Next_a2 x1) (↑(List.length x3) : Int))),
    leI x0 (1 : Int) || (!ltI x1 (↑(List.length x3) : Int) || (!spec_l01Next_a1 x0 x1 || ltN (Int.toNat (spec_l01Next_a2 x1)) (List.length x3))),
    leI x0 (1 : Int) || neI x0 (0 : Int)]

def F_spec_l01Next : List SV → List Entry → Option Out
  | [.one ⟨false, [.ptr 0 0]⟩, .one ⟨false, [.val (.int .i64 x0)]⟩], [.box 134 [.ref 1, .val (.int .i64 x1), .val (.int .i64 x2)], .row false 5 (.int .u8) x3] => some ⟨(.one ⟨false, [(.val (.int IntKind.i64 (spec_l01Next_0 x0 x1 x2 x3)))]⟩), [(.box 134 [(.ref 1), (.val (.int IntKind.i64 (spec_l01Next_1 x0 x1 x3))), (.val (.int IntKind.i64 (spec_l01Next_2 x0 x1 x2 x3)))]), (.row false 5 (CTy.int IntKind.u8) x3)], [], [(spec_l01Next_3 x0 x1 x3)]⟩
  | _, _ => none

def p_spec_l01Next : PF Tryd.prog := PF.ofG Tryd.prog [] [] hmix 61 Tryd.f61 Tryd.func61 (fun c _ => LOk.nil c) F_spec_l01Next (by
  intro vs es r h; unfold F_spec_l01Next at h; split at h
  · cases h; kernel_rfl
  · cases h)

def spec_l01Pick_0 (x0 : Int) (x1 : Int) (x2 : List Int) (x3 : List Int) : Int :=
  Option.getD x2[Int.toNat (spec_l01Next_0 (↑(List.length x2) : Int) x0 x1 x3)]? (0 : Int)

def spec_l01Pick_1 (x0 : Int) (x2 : List Int) (x3 : List Int) : Int :=
  spec_l01Next_1 (↑(List.length x2) : Int) x0 x3

def spec_l01Pick_2 (x0 : Int) (x1 : Int) (x2 : List Int) (x3 : List Int) : Int :=
  spec_l01Next_2 (↑(List.length x2) : Int) x0 x1 x3

def spec_l01Pick_3 (x0 : Int) (x1 : Int) (x2 : List Int) (x3 : List Int) : Bool :=
  allT
  [spec_l01Next_3 (↑(List.length x2) : Int) x0 x3, leI (0 : Int) (spec_l01Next_0 (↑(List.length x2) : Int) x0 x1 x3),
    ltI (spec_l01Next_0 (↑(List.length x2) : Int) x0 x1 x3) (↑(List.length x2) : Int),
    ltN (Int.toNat (spec_l01Next_0 (↑(List.length x2) : Int) x0 x1 x3)) (List.length x2)]

def F_spec_l01Pick : List SV → List Entry → Option Out
  | [.one ⟨false, [.ptr 0 0]⟩, .one ⟨false, [.ref 1]⟩], [.box 134 [.ref 2, .val (.int .i64 x0), .val (.int .i64 x1)], .row false 2 (.int .i64) x2, .row false 5 (.int .u8) x3] => some ⟨(.one ⟨false, [(.val (.int IntKind.i64 (spec_l01Pick_0 x0 x1 x2 x3)))]⟩), [(.box 134 [(.ref 2), (.val (.int IntKind.i64 (spec_l01Pick_1 x0 x2 x3))), (.val (.int IntKind.i64 (spec_l01Pick_2 x0 x1 x2 x3)))]), (.row false 2 (CTy.int IntKind.i64) x2), (.row false 5 (CTy.int IntKind.u8) x3)], [], [(spec_l01Pick_3 x0 x1 x2 x3)]⟩
  | _, _ => none

def p_spec_l01Pick : PF Tryd.prog := PF.ofG Tryd.prog [p_spec_l01Next, PF.lend p_spec_l01Next, PF.fz p_spec_l01Next] [] hmix 70 Tryd.f70 Tryd.func70 (fun c _ => LOk.nil c) F_spec_l01Pick (by
  intro vs es r h; unfold F_spec_l01Pick at h; split at h
  · cases h; kernel_rfl
  · cases h)

end Go.SX

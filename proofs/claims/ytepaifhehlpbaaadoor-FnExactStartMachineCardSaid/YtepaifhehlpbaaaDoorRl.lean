/- What functions of the program come to, row by row (made by a program of the workplace). -/
import Derived.Test.YtepaifhehlpbaaaDoorTXh
import Derived.Test.YtepaifhehlpbaaaDoorProg
import Derived.Test.YtepaifhehlpbaaaDoorNl
namespace Go.SX
open Go.Proofs
set_option maxRecDepth 100000

abbrev X_laws_szTermS_l0 := Int × Int × List (Int × (ByteArray × Int))

def laws_szTermS_l0_a0 (y0 : Int) (y1 : Int) (y2 : List (Int × (ByteArray × Int))) : Int :=
  laws_szTerm_0 (Prod.fst (Prod.snd (Option.getD y2[Int.toNat y0]? ((0 : Int), ByteArray.empty, (0 : Int))))) y1

def laws_szTermS_l0_0 (y0 : Int) (y2 : List (Int × (ByteArray × Int))) : Bool :=
  ltI y0 (↑(List.length y2) : Int)

def laws_szTermS_l0_1 (y0 : Int) : Bool :=
  leI (0 : Int) y0

def laws_szTermS_l0_2 (y0 : Int) (y2 : List (Int × (ByteArray × Int))) : Bool :=
  ltN (Int.toNat y0) (List.length y2)

def laws_szTermS_l0_3 (y0 : Int) (y1 : Int) (y2 : List (Int × (ByteArray × Int))) : Bool :=
  ltI (laws_szTermS_l0_a0 y0 y1 y2) (0 : Int)

def laws_szTermS_l0_4  : Int :=
  (-1 : Int)

def laws_szTermS_l0_5 (y0 : Int) : Int :=
  IntKind.wrap IntKind.i64 (y0 + (1 : Int))

def laws_szTermS_l0_6 (y0 : Int) (y1 : Int) (y2 : List (Int × (ByteArray × Int))) : Int :=
  laws_szTermS_l0_a0 y0 y1 y2

def JL_laws_szTermS_l0 : X_laws_szTermS_l0 → List (Nat × SV)
  | (y0, y1, _) => [(5, (.one ⟨false, [(.val (.int IntKind.i64 y0))]⟩)), (0, (.one ⟨false, [(.ref 0)]⟩)), (1, (.one ⟨false, [(.val (.int IntKind.i64 y1))]⟩))]

def JE_laws_szTermS_l0 : X_laws_szTermS_l0 → List (Nat × Entry)
  | (_, _, y2) => [(0, (.row false 23 (CTy.pair (CTy.int IntKind.i64) (CTy.pair CTy.str (CTy.int IntKind.i64))) y2))]

def XL_laws_szTermS_l0 : Nat → X_laws_szTermS_l0 → List (Nat × SV)
  | 0, (_, _, _) => [(4, (.one ⟨false, [(.val (.int IntKind.i64 (laws_szTermS_l0_4)))]⟩))]
  | _, (_, y1, _) => [(1, (.one ⟨false, [(.val (.int IntKind.i64 y1))]⟩))]

def XE_laws_szTermS_l0 : Nat → X_laws_szTermS_l0 → List (Nat × Entry)
  | 0, (_, _, y2) => [(0, (.row false 23 (CTy.pair (CTy.int IntKind.i64) (CTy.pair CTy.str (CTy.int IntKind.i64))) y2))]
  | _, (_, _, y2) => [(0, (.row false 23 (CTy.pair (CTy.int IntKind.i64) (CTy.pair CTy.str (CTy.int IntKind.i64))) y2))]

def lt_laws_szTermS_l0 : X_laws_szTermS_l0 → LT X_laws_szTermS_l0
  | (y0, y1, y2) => .ite (laws_szTermS_l0_0 y0 y2) (.need [(laws_szTermS_l0_1 y0), (laws_szTermS_l0_0 y0 y2), (laws_szTermS_l0_2 y0 y2)] (.ite (laws_szTermS_l0_3 y0 y1 y2) (.ext 0 [(0, 0)]) (.nrm ((laws_szTermS_l0_5 y0), (laws_szTermS_l0_6 y0 y1 y2), y2) [(0, 0)]))) (.ext 1 [(0, 0)])

def rd_laws_szTermS_l0 (s : St) : Option X_laws_szTermS_l0 :=
  (match s.look 5 with
  | some ⟨none, (.one ⟨false, [(.val (.int IntKind.i64 y0))]⟩)⟩ =>
  (match s.look 0 with
  | some ⟨none, (.one ⟨false, [(.ref 0)]⟩)⟩ =>
  (match s.look 1 with
  | some ⟨none, (.one ⟨false, [(.val (.int IntKind.i64 y1))]⟩)⟩ =>
  (match s.ent 0 with
  | some (.row false 23 (CTy.pair (CTy.int IntKind.i64) (CTy.pair CTy.str (CTy.int IntKind.i64))) y2) =>
  some (y0, y1, y2)
  | _ => none)
  | _ => none)
  | _ => none)
  | _ => none)

def lp_laws_szTermS_l0 : Lp X_laws_szTermS_l0 where
  h := ⟨[12, 13, 14, 15, 18, 19, 20, 21, 22, 23, 1, 24, 25, 4, 16, 17, 5], [0], [], []⟩
  JL := JL_laws_szTermS_l0
  JE := JE_laws_szTermS_l0
  XL := XL_laws_szTermS_l0
  XE := XE_laws_szTermS_l0
  q := fun j => match j with | 0 => .ret | _ => .exit 0
  tags := [0, 1]
  lt := lt_laws_szTermS_l0
  fuel := fun (y0, y1, y2) => y0.natAbs + y1.natAbs + y2.length
  fix := fun (_, _, y2) (y0, y1, _) => (y0, y1, y2)
  σ := [(0, 0)]
  rd := rd_laws_szTermS_l0

theorem lpok_laws_szTermS_l0 : LoopOk Tryd.prog (fun k => Nat.blt k Tryd.f80.ntmps) lp_laws_szTermS_l0.F (loopAt Tryd.f80 0) := by
  refine Lp.ok (tbl := [p_laws_szTerm]) (lf := []) hmix lp_laws_szTermS_l0 (by kernel_rfl) (LOk.nil _) (fun _ => rfl) (fun j _ => by unfold lp_laws_szTermS_l0; match j with | 0 => rfl | _ + 1 => rfl) ?_ ?_ ?_ ?_ (fun _ => rfl) ?_
  · intro x; obtain ⟨y0, y1, y2⟩ := x; kernel_rfl
  · intro x; obtain ⟨y0, y1, y2⟩ := x; kernel_rfl
  · intro s x h
    have h : rd_laws_szTermS_l0 s = some x := h
    unfold rd_laws_szTermS_l0 at h
    repeat' split at h
    all_goals cases h
    exact ⟨absS_cons (by assumption) rfl (absS_cons (by assumption) rfl (absS_cons (by assumption) rfl (rfl))), absE_cons rfl (by assumption) rfl (rfl)⟩
  · intro x; obtain ⟨y0, y1, y2⟩ := x; kernel_rfl
  · intro x z; obtain ⟨y0, y1, y2⟩ := x; exact (And.intro (And.intro trivial rfl) trivial)

def laws_szTermS_a0 (x0 : Int) (x1 : List (Int × ByteArray × Int)) : Int :=
  IntKind.wrap IntKind.i64 (x0 - (↑(List.length x1) : Int))

def laws_szTermS_a1 (x0 : Int) (x1 : List (Int × ByteArray × Int)) : Int × Int × List (Int × ByteArray × Int) :=
  ((0 : Int), laws_szTermS_a0 x0 x1, x1)

def laws_szTermS_0 (x0 : Int) (x1 : List (Int × ByteArray × Int)) : Int :=
  bif ltI (laws_szTermS_a0 x0 x1) (0 : Int) then (-1 : Int)
  else
  bif Nat.beq (Prod.fst (Lp.res lp_laws_szTermS_l0 (laws_szTermS_a1 x0 x1))) (0 : Nat) then laws_szTermS_l0_4
  else Prod.fst (Prod.snd (Prod.snd (Lp.res lp_laws_szTermS_l0 (laws_szTermS_a1 x0 x1))))

def laws_szTermS_1 (x0 : Int) (x1 : List (Int × ByteArray × Int)) : Bool :=
  allT [ltI (laws_szTermS_a0 x0 x1) (0 : Int) || Lp.fin lp_laws_szTermS_l0 (laws_szTermS_a1 x0 x1)]

def F_laws_szTermS : List SV → List Entry → Option Out
  | [.one ⟨false, [.ref 0]⟩, .one ⟨false, [.val (.int .i64 x0)]⟩], [.row false 23 (.pair (.int .i64) (.pair (.str) (.int .i64))) x1] => some ⟨(.one ⟨false, [(.val (.int IntKind.i64 (laws_szTermS_0 x0 x1)))]⟩), [(.row false 23 (CTy.pair (CTy.int IntKind.i64) (CTy.pair CTy.str (CTy.int IntKind.i64))) x1)], [], [(laws_szTermS_1 x0 x1)]⟩
  | _, _ => none

def p_laws_szTermS : PF Tryd.prog := PF.ofG Tryd.prog [p_laws_szTerm] [lp_laws_szTermS_l0.F] hmix 80 Tryd.f80 Tryd.func80 (LOk.fnT (l := [loopAt Tryd.f80 0]) (by kernel_rfl) (.cons lpok_laws_szTermS_l0 (.nil _))) F_laws_szTermS (by
  intro vs es r h; unfold F_laws_szTermS at h; split at h
  · cases h; kernel_rfl
  · cases h)

def laws_szInstructionS_a0 (x0 : Int) (x1 : List (Int × Int)) : Int :=
  IntKind.wrap IntKind.i64 (x0 - (↑(List.length x1) : Int))

def laws_szInstructionS_0 (x0 : Int) (x1 : List (Int × Int)) : Int :=
  bif ltI (laws_szInstructionS_a0 x0 x1) (0 : Int) then (-1 : Int) else laws_szInstructionS_a0 x0 x1

def F_laws_szInstructionS : List SV → List Entry → Option Out
  | [.one ⟨false, [.ref 0]⟩, .one ⟨false, [.val (.int .i64 x0)]⟩], [.row false 146 (.pair (.int .i64) (.int .i64)) x1] => some ⟨(.one ⟨false, [(.val (.int IntKind.i64 (laws_szInstructionS_0 x0 x1)))]⟩), [(.row false 146 (CTy.pair (CTy.int IntKind.i64) (CTy.int IntKind.i64)) x1)], [], []⟩
  | _, _ => none

def p_laws_szInstructionS : PF Tryd.prog := PF.ofG Tryd.prog [] [] hmix 81 Tryd.f81 Tryd.func81 (fun c _ => LOk.nil c) F_laws_szInstructionS (by
  intro vs es r h; unfold F_laws_szInstructionS at h; split at h
  · cases h; kernel_rfl
  · cases h)

def laws_szBlockStateS_a0 (x0 : Int) (x1 : List (Int × Int × Int)) : Int :=
  IntKind.wrap IntKind.i64 (x0 - (↑(List.length x1) : Int))

def laws_szBlockStateS_0 (x0 : Int) (x1 : List (Int × Int × Int)) : Int :=
  bif ltI (laws_szBlockStateS_a0 x0 x1) (0 : Int) then (-1 : Int) else laws_szBlockStateS_a0 x0 x1

def F_laws_szBlockStateS : List SV → List Entry → Option Out
  | [.one ⟨false, [.ref 0]⟩, .one ⟨false, [.val (.int .i64 x0)]⟩], [.row false 25 (.pair (.int .i64) (.pair (.int .i64) (.int .i64))) x1] => some ⟨(.one ⟨false, [(.val (.int IntKind.i64 (laws_szBlockStateS_0 x0 x1)))]⟩), [(.row false 25 (CTy.pair (CTy.int IntKind.i64) (CTy.pair (CTy.int IntKind.i64) (CTy.int IntKind.i64))) x1)], [], []⟩
  | _, _ => none

def p_laws_szBlockStateS : PF Tryd.prog := PF.ofG Tryd.prog [] [] hmix 82 Tryd.f82 Tryd.func82 (fun c _ => LOk.nil c) F_laws_szBlockStateS (by
  intro vs es r h; unfold F_laws_szBlockStateS at h; split at h
  · cases h; kernel_rfl
  · cases h)

def spec_l17Fits_0 (x0 : Int) (x1 : Int) (x2 : Int) (x3 : Int) (x4 : Int) (x5 : List (Int × ByteArray × Int)) : Bool :=
  bif x3 == (1 : Int) then spec_l01In_0 x4 (0 : Int) (1 : Int)
  else
  bif bif x3 == (2 : Int) then x3 == (2 : Int) else x3 == (10 : Int) then spec_l01In_0 x4 (0 : Int) (IntKind.wrap IntKind.i64 (x0 - (1 : Int)))
  else
    bif bif x3 == (3 : Int) then x3 == (3 : Int) else bif x3 == (8 : Int) then x3 == (8 : Int) else x3 == (11 : Int) then
      spec_l01In_0 x4 (0 : Int) (IntKind.wrap IntKind.i64 (x1 - (1 : Int)))
    else
      bif bif x3 == (4 : Int) then x3 == (4 : Int) else bif x3 == (5 : Int) then x3 == (5 : Int) else x3 == (6 : Int) then x4 == (0 : Int)
      else
        bif x3 == (7 : Int) then spec_l01In_0 x4 (0 : Int) (IntKind.wrap IntKind.i64 ((↑(List.length x5) : Int) - (1 : Int)))
        else bif x3 == (9 : Int) then spec_l01In_0 x4 (0 : Int) (IntKind.wrap IntKind.i64 (x2 - (1 : Int))) else false

def F_spec_l17Fits : List SV → List Entry → Option Out
  | [.one ⟨true, [.val (.int .i64 x0), .val (.int .i64 x1), .val (.int .i64 x2), .ref 0, .ref 1]⟩, .one ⟨true, [.val (.int .i64 x3), .val (.int .i64 x4)]⟩], [.row false 31 (.pair (.int .i64) (.pair (.str) (.int .i64))) x5, .row false 144 (.pair (.int .i64) (.int .i64)) x6] => some ⟨(.one ⟨false, [(.val (.bool (spec_l17Fits_0 x0 x1 x2 x3 x4 x5)))]⟩), [(.row false 31 (CTy.pair (CTy.int IntKind.i64) (CTy.pair CTy.str (CTy.int IntKind.i64))) x5), (.row false 144 (CTy.pair (CTy.int IntKind.i64) (CTy.int IntKind.i64)) x6)], [], []⟩
  | _, _ => none

def p_spec_l17Fits : PF Tryd.prog := PF.ofG Tryd.prog [p_spec_l01In] [] hmix 136 Tryd.f136 Tryd.func136 (fun c _ => LOk.nil c) F_spec_l17Fits (by
  intro vs es r h; unfold F_spec_l17Fits at h; split at h
  · cases h; kernel_rfl
  · cases h)

def spec_l17Takes_a0 (x3 : Int) : Bool :=
  bif x3 == (1 : Int) then x3 == (1 : Int) else bif x3 == (2 : Int) then x3 == (2 : Int) else x3 == (3 : Int)

def spec_l17Takes_a1 (x3 : Int) : Bool :=
  bif x3 == (5 : Int) then x3 == (5 : Int) else x3 == (6 : Int)

def spec_l17Takes_a2 (x3 : Int) : Bool :=
  bif x3 == (8 : Int) then x3 == (8 : Int) else x3 == (9 : Int)

def spec_l17Takes_0 (x3 : Int) (x4 : Int) (x5 : List (Int × ByteArray × Int)) : Int :=
  bif spec_l17Takes_a0 x3 then (0 : Int)
  else
  bif x3 == (4 : Int) then (1 : Int)
  else
    bif spec_l17Takes_a1 x3 then (2 : Int)
    else
      bif x3 == (7 : Int) then spec_l13Takes_0 (Prod.fst (Option.getD x5[Int.toNat x4]? ((0 : Int), ByteArray.empty, (0 : Int))))
      else bif spec_l17Takes_a2 x3 then (1 : Int) else (0 : Int)

def spec_l17Takes_1 (x3 : Int) : Int :=
  bif spec_l17Takes_a0 x3 then (1 : Int)
  else
  bif x3 == (4 : Int) then (1 : Int)
  else bif spec_l17Takes_a1 x3 then (1 : Int) else bif x3 == (7 : Int) then (1 : Int) else bif spec_l17Takes_a2 x3 then (0 : Int) else (0 : Int)

def spec_l17Takes_2 (x3 : Int) (x4 : Int) (x5 : List (Int × ByteArray × Int)) : Bool :=
  allT
  [spec_l17Takes_a0 x3 || (x3 == (4 : Int) || (spec_l17Takes_a1 x3 || (!x3 == (7 : Int) || leI (0 : Int) x4))),
    spec_l17Takes_a0 x3 || (x3 == (4 : Int) || (spec_l17Takes_a1 x3 || (!x3 == (7 : Int) || ltI x4 (↑(List.length x5) : Int)))),
    spec_l17Takes_a0 x3 || (x3 == (4 : Int) || (spec_l17Takes_a1 x3 || (!x3 == (7 : Int) || ltN (Int.toNat x4) (List.length x5))))]

def F_spec_l17Takes : List SV → List Entry → Option Out
  | [.one ⟨true, [.val (.int .i64 _x0), .val (.int .i64 _x1), .val (.int .i64 _x2), .ref 0, .ref 1]⟩, .one ⟨true, [.val (.int .i64 x3), .val (.int .i64 x4)]⟩], [.row false 31 (.pair (.int .i64) (.pair (.str) (.int .i64))) x5, .row false 144 (.pair (.int .i64) (.int .i64)) x6] => some ⟨(.tup [⟨false, [(.val (.int IntKind.i64 (spec_l17Takes_0 x3 x4 x5)))]⟩, ⟨false, [(.val (.int IntKind.i64 (spec_l17Takes_1 x3)))]⟩]), [(.row false 31 (CTy.pair (CTy.int IntKind.i64) (CTy.pair CTy.str (CTy.int IntKind.i64))) x5), (.row false 144 (CTy.pair (CTy.int IntKind.i64) (CTy.int IntKind.i64)) x6)], [], [(spec_l17Takes_2 x3 x4 x5)]⟩
  | _, _ => none

def p_spec_l17Takes : PF Tryd.prog := PF.ofG Tryd.prog [p_spec_l13Takes] [] hmix 137 Tryd.f137 Tryd.func137 (fun c _ => LOk.nil c) F_spec_l17Takes (by
  intro vs es r h; unfold F_spec_l17Takes at h; split at h
  · cases h; kernel_rfl
  · cases h)

abbrev X_spec_l17Heights_l0 := Int × Int × Int × Int × Int × List Int × List (Int × (ByteArray × Int)) × List (Int × Int)

def spec_l17Heights_l0_a0 (y0 : Int) (y7 : List (Int × Int)) : Int × Int :=
  Option.getD y7[Int.toNat y0]? ((0 : Int), (0 : Int))

def spec_l17Heights_l0_a1 (y0 : Int) (y6 : List (Int × (ByteArray × Int))) (y7 : List (Int × Int)) : Int :=
  spec_l17Takes_0 (Prod.fst (spec_l17Heights_l0_a0 y0 y7)) (Prod.snd (spec_l17Heights_l0_a0 y0 y7)) y6

def spec_l17Heights_l0_a2 (y0 : Int) (y1 : Int) (y6 : List (Int × (ByteArray × Int))) (y7 : List (Int × Int)) : Int :=
  IntKind.wrap IntKind.i64 (IntKind.wrap IntKind.i64 (y1 - spec_l17Heights_l0_a1 y0 y6 y7) + spec_l17Takes_1 (Prod.fst (spec_l17Heights_l0_a0 y0 y7)))

def spec_l17Heights_l0_0 (y0 : Int) (y7 : List (Int × Int)) : Bool :=
  ltI y0 (↑(List.length y7) : Int)

def spec_l17Heights_l0_1 (y0 : Int) : Bool :=
  leI (0 : Int) y0

def spec_l17Heights_l0_2 (y0 : Int) (y7 : List (Int × Int)) : Bool :=
  ltN (Int.toNat y0) (List.length y7)

def spec_l17Heights_l0_3 (y0 : Int) (y2 : Int) (y3 : Int) (y4 : Int) (y6 : List (Int × (ByteArray × Int))) (y7 : List (Int × Int)) : Bool :=
  !spec_l17Fits_0 y2 y3 y4 (Prod.fst (spec_l17Heights_l0_a0 y0 y7)) (Prod.snd (spec_l17Heights_l0_a0 y0 y7)) y6

def spec_l17Heights_l0_4 (y0 : Int) (y6 : List (Int × (ByteArray × Int))) (y7 : List (Int × Int)) : Bool :=
  spec_l17Takes_2 (Prod.fst (spec_l17Heights_l0_a0 y0 y7)) (Prod.snd (spec_l17Heights_l0_a0 y0 y7)) y6

def spec_l17Heights_l0_5 (y0 : Int) (y1 : Int) (y6 : List (Int × (ByteArray × Int))) (y7 : List (Int × Int)) : Bool :=
  bif ltI y1 (spec_l17Heights_l0_a1 y0 y6 y7) then true else ltI (40 : Int) (spec_l17Heights_l0_a2 y0 y1 y6 y7)

def spec_l17Heights_l0_6 (y0 : Int) (y1 : Int) (y5 : List Int) (y6 : List (Int × (ByteArray × Int))) (y7 : List (Int × Int)) : Bool :=
  leN (List.length y5 + List.length [spec_l17Heights_l0_a2 y0 y1 y6 y7]) (9223372036854775807 : Nat)

def spec_l17Heights_l0_7 (y0 : Int) (y1 : Int) (y5 : List Int) (y6 : List (Int × (ByteArray × Int))) (y7 : List (Int × Int)) : Bool :=
  leN ((List.length y5 + List.length [spec_l17Heights_l0_a2 y0 y1 y6 y7]) * (8 : Nat)) (140737488355328 : Nat)

def spec_l17Heights_l0_8 (y0 : Int) : Int :=
  IntKind.wrap IntKind.i64 (y0 + (1 : Int))

def spec_l17Heights_l0_9 (y0 : Int) (y1 : Int) (y6 : List (Int × (ByteArray × Int))) (y7 : List (Int × Int)) : Int :=
  spec_l17Heights_l0_a2 y0 y1 y6 y7

def spec_l17Heights_l0_10 (y0 : Int) (y1 : Int) (y5 : List Int) (y6 : List (Int × (ByteArray × Int))) (y7 : List (Int × Int)) : List Int :=
  y5 ++ [spec_l17Heights_l0_a2 y0 y1 y6 y7]

def JL_spec_l17Heights_l0 : X_spec_l17Heights_l0 → List (Nat × SV)
  | (y0, y1, _, _, _, _, _, _) => [(6, (.one ⟨false, [(.val (.int IntKind.i64 y0))]⟩)), (1, (.one ⟨false, [(.ptr 0 0)]⟩)), (5, (.one ⟨false, [(.val (.int IntKind.i64 y1))]⟩)), (4, (.one ⟨false, [(.ref 1)]⟩))]

def JE_spec_l17Heights_l0 : X_spec_l17Heights_l0 → List (Nat × Entry)
  | (_, _, y2, y3, y4, y5, y6, y7) => [(0, (.box 79 [(.val (.int IntKind.i64 y2)), (.val (.int IntKind.i64 y3)), (.val (.int IntKind.i64 y4)), (.ref 2), (.ref 3)])), (2, (.row false 31 (CTy.pair (CTy.int IntKind.i64) (CTy.pair CTy.str (CTy.int IntKind.i64))) y6)), (3, (.row false 144 (CTy.pair (CTy.int IntKind.i64) (CTy.int IntKind.i64)) y7)), (1, (.row true 2 (CTy.int IntKind.i64) y5))]

def XL_spec_l17Heights_l0 : Nat → X_spec_l17Heights_l0 → List (Nat × SV)
  | 0, (_, _, _, _, _, _, _, _) => [(2, (.one ⟨false, [(.ref 4)]⟩)), (3, (.one ⟨false, [(.val (.bool false))]⟩))]
  | 1, (_, _, _, _, _, _, _, _) => [(2, (.one ⟨false, [(.ref 4)]⟩)), (3, (.one ⟨false, [(.val (.bool false))]⟩))]
  | _, (_, y1, _, _, _, _, _, _) => [(5, (.one ⟨false, [(.val (.int IntKind.i64 y1))]⟩)), (4, (.one ⟨false, [(.ref 1)]⟩))]

def XE_spec_l17Heights_l0 : Nat → X_spec_l17Heights_l0 → List (Nat × Entry)
  | 0, (_, _, y2, y3, y4, y5, y6, y7) => [(0, (.box 79 [(.val (.int IntKind.i64 y2)), (.val (.int IntKind.i64 y3)), (.val (.int IntKind.i64 y4)), (.ref 2), (.ref 3)])), (1, (.row true 2 (CTy.int IntKind.i64) y5)), (2, (.row false 31 (CTy.pair (CTy.int IntKind.i64) (CTy.pair CTy.str (CTy.int IntKind.i64))) y6)), (3, (.row false 144 (CTy.pair (CTy.int IntKind.i64) (CTy.int IntKind.i64)) y7)), (4, (.row true 2 (CTy.int IntKind.i64) []))]
  | 1, (_, _, y2, y3, y4, y5, y6, y7) => [(0, (.box 79 [(.val (.int IntKind.i64 y2)), (.val (.int IntKind.i64 y3)), (.val (.int IntKind.i64 y4)), (.ref 2), (.ref 3)])), (1, (.row true 2 (CTy.int IntKind.i64) y5)), (2, (.row false 31 (CTy.pair (CTy.int IntKind.i64) (CTy.pair CTy.str (CTy.int IntKind.i64))) y6)), (3, (.row false 144 (CTy.pair (CTy.int IntKind.i64) (CTy.int IntKind.i64)) y7)), (4, (.row true 2 (CTy.int IntKind.i64) []))]
  | _, (_, _, y2, y3, y4, y5, y6, y7) => [(0, (.box 79 [(.val (.int IntKind.i64 y2)), (.val (.int IntKind.i64 y3)), (.val (.int IntKind.i64 y4)), (.ref 2), (.ref 3)])), (1, (.row true 2 (CTy.int IntKind.i64) y5)), (2, (.row false 31 (CTy.pair (CTy.int IntKind.i64) (CTy.pair CTy.str (CTy.int IntKind.i64))) y6)), (3, (.row false 144 (CTy.pair (CTy.int IntKind.i64) (CTy.int IntKind.i64)) y7))]

def lt_spec_l17Heights_l0 : X_spec_l17Heights_l0 → LT X_spec_l17Heights_l0
  | (y0, y1, y2, y3, y4, y5, y6, y7) => .ite (spec_l17Heights_l0_0 y0 y7) (.need [(spec_l17Heights_l0_1 y0), (spec_l17Heights_l0_0 y0 y7), (spec_l17Heights_l0_2 y0 y7)] (.ite (spec_l17Heights_l0_3 y0 y2 y3 y4 y6 y7) (.ext 0 [(0, 0), (1, 1), (2, 2), (3, 3), (4, 896)]) (.need [(spec_l17Heights_l0_1 y0), (spec_l17Heights_l0_0 y0 y7), (spec_l17Heights_l0_2 y0 y7), (spec_l17Heights_l0_4 y0 y6 y7)] (.ite (spec_l17Heights_l0_5 y0 y1 y6 y7) (.ext 1 [(0, 0), (1, 1), (2, 2), (3, 3), (4, 2368)]) (.need [(spec_l17Heights_l0_6 y0 y1 y5 y6 y7), (spec_l17Heights_l0_7 y0 y1 y5 y6 y7)] (.nrm ((spec_l17Heights_l0_8 y0), (spec_l17Heights_l0_9 y0 y1 y6 y7), y2, y3, y4, (spec_l17Heights_l0_10 y0 y1 y5 y6 y7), y6, y7) [(0, 0), (1, 2944), (2, 2), (3, 3)])))))) (.ext 2 [(0, 0), (1, 1), (2, 2), (3, 3)])

def rd_spec_l17Heights_l0 (s : St) : Option X_spec_l17Heights_l0 :=
  (match s.look 6 with
  | some ⟨none, (.one ⟨false, [(.val (.int IntKind.i64 y0))]⟩)⟩ =>
  (match s.look 1 with
  | some ⟨none, (.one ⟨false, [(.ptr 192 0)]⟩)⟩ =>
  (match s.look 5 with
  | some ⟨none, (.one ⟨false, [(.val (.int IntKind.i64 y1))]⟩)⟩ =>
  (match s.look 4 with
  | some ⟨none, (.one ⟨false, [(.ref 384)]⟩)⟩ =>
  (match s.ent 192 with
  | some (.box 79 [(.val (.int IntKind.i64 y2)), (.val (.int IntKind.i64 y3)), (.val (.int IntKind.i64 y4)), (.ref 0), (.ref 1)]) =>
  (match s.ent 0 with
  | some (.row false 31 (CTy.pair (CTy.int IntKind.i64) (CTy.pair CTy.str (CTy.int IntKind.i64))) y6) =>
  (match s.ent 1 with
  | some (.row false 144 (CTy.pair (CTy.int IntKind.i64) (CTy.int IntKind.i64)) y7) =>
  (match s.ent 384 with
  | some (.row true 2 (CTy.int IntKind.i64) y5) =>
  some (y0, y1, y2, y3, y4, y5, y6, y7)
  | _ => none)
  | _ => none)
  | _ => none)
  | _ => none)
  | _ => none)
  | _ => none)
  | _ => none)
  | _ => none)

def lp_spec_l17Heights_l0 : Lp X_spec_l17Heights_l0 where
  h := ⟨[10, 11, 12, 13, 14, 17, 18, 19, 20, 21, 22, 23, 24, 2, 3, 26, 27, 28, 29, 30, 31, 32, 25, 33, 34, 7, 8, 35, 36, 37, 38, 39, 40, 41, 42, 43, 44, 45, 46, 47, 48, 49, 50, 5, 51, 52, 53, 54, 4, 15, 16, 6], [0, 2, 3], [1], [4]⟩
  JL := JL_spec_l17Heights_l0
  JE := JE_spec_l17Heights_l0
  XL := XL_spec_l17Heights_l0
  XE := XE_spec_l17Heights_l0
  q := fun j => match j with | 0 => .ret | 1 => .ret | _ => .exit 0
  tags := [0, 1, 2]
  lt := lt_spec_l17Heights_l0
  fuel := fun (y0, y1, y2, y3, y4, y5, y6, y7) => y0.natAbs + y1.natAbs + y2.natAbs + y3.natAbs + y4.natAbs + y5.length + y6.length + y7.length
  fix := fun (_, _, y2, y3, y4, _, y6, y7) (y0, y1, _, _, _, y5, _, _) => (y0, y1, y2, y3, y4, y5, y6, y7)
  σ := [(0, 192), (2, 0), (3, 1), (1, 384)]
  rd := rd_spec_l17Heights_l0

theorem lpok_spec_l17Heights_l0 : LoopOk Tryd.prog (fun k => Nat.blt k Tryd.f116.ntmps) lp_spec_l17Heights_l0.F (loopAt Tryd.f116 0) := by
  refine Lp.ok (tbl := [p_spec_l17Fits, PF.lend p_spec_l17Fits, PF.fz p_spec_l17Fits, p_spec_l17Takes, PF.lend p_spec_l17Takes, PF.fz p_spec_l17Takes]) (lf := []) hmix lp_spec_l17Heights_l0 (by kernel_rfl) (LOk.nil _) (fun _ => rfl) (fun j _ => by unfold lp_spec_l17Heights_l0; match j with | 0 => rfl | 1 => rfl | _ + 2 => rfl) ?_ ?_ ?_ ?_ (fun _ => rfl) ?_
  · intro x; obtain ⟨y0, y1, y2, y3, y4, y5, y6, y7⟩ := x; kernel_rfl
  · intro x; obtain ⟨y0, y1, y2, y3, y4, y5, y6, y7⟩ := x; kernel_rfl
  · intro s x h
    have h : rd_spec_l17Heights_l0 s = some x := h
    unfold rd_spec_l17Heights_l0 at h
    repeat' split at h
    all_goals cases h
    exact ⟨absS_cons (by assumption) rfl (absS_cons (by assumption) rfl (absS_cons (by assumption) rfl (absS_cons (by assumption) rfl (rfl)))), absE_cons rfl (by assumption) rfl (absE_cons rfl (by assumption) rfl (absE_cons rfl (by assumption) rfl (absE_cons rfl (by assumption) rfl (rfl))))⟩
  · intro x; obtain ⟨y0, y1, y2, y3, y4, y5, y6, y7⟩ := x; kernel_rfl
  · intro x z; obtain ⟨y0, y1, y2, y3, y4, y5, y6, y7⟩ := x; exact (And.intro (And.intro trivial (And.intro trivial rfl)) trivial)

def spec_l17Heights_a0 (x0 : Int) (x1 : Int) (x2 : Int) (x3 : List (Int × ByteArray × Int)) (x4 : List (Int × Int)) : Int × Int × Int × Int × Int × List Int × List (Int × ByteArray × Int) × List (Int × Int) :=
  ((0 : Int), (0 : Int), x0, x1, x2, [], x3, x4)

def spec_l17Heights_a1 (x0 : Int) (x1 : Int) (x2 : Int) (x3 : List (Int × ByteArray × Int)) (x4 : List (Int × Int)) : Bool :=
  Nat.beq (Prod.fst (Lp.res lp_spec_l17Heights_l0 (spec_l17Heights_a0 x0 x1 x2 x3 x4))) (0 : Nat)

def spec_l17Heights_a2 (x0 : Int) (x1 : Int) (x2 : Int) (x3 : List (Int × ByteArray × Int)) (x4 : List (Int × Int)) : Bool :=
  Nat.beq (Prod.fst (Lp.res lp_spec_l17Heights_l0 (spec_l17Heights_a0 x0 x1 x2 x3 x4))) (1 : Nat)

def spec_l17Heights_a3 (x0 : Int) (x1 : Int) (x2 : Int) (x3 : List (Int × ByteArray × Int)) (x4 : List (Int × Int)) : Int × Int × Int × Int × List Int × List (Int × ByteArray × Int) × List (Int × Int) :=
  Prod.snd (Prod.snd (Lp.res lp_spec_l17Heights_l0 (spec_l17Heights_a0 x0 x1 x2 x3 x4)))

def spec_l17Heights_0 (x0 : Int) (x1 : Int) (x2 : Int) (x3 : List (Int × ByteArray × Int)) (x4 : List (Int × Int)) : Bool :=
  bif spec_l17Heights_a1 x0 x1 x2 x3 x4 then false
  else bif spec_l17Heights_a2 x0 x1 x2 x3 x4 then false else Prod.fst (spec_l17Heights_a3 x0 x1 x2 x3 x4) == (0 : Int)

def spec_l17Heights_1 (x0 : Int) (x1 : Int) (x2 : Int) (x3 : List (Int × ByteArray × Int)) (x4 : List (Int × Int)) : List Int :=
  bif spec_l17Heights_a1 x0 x1 x2 x3 x4 then []
  else bif spec_l17Heights_a2 x0 x1 x2 x3 x4 then [] else Prod.fst (Prod.snd (Prod.snd (Prod.snd (Prod.snd (spec_l17Heights_a3 x0 x1 x2 x3 x4)))))

def spec_l17Heights_2 (x0 : Int) (x1 : Int) (x2 : Int) (x3 : List (Int × ByteArray × Int)) (x4 : List (Int × Int)) : Bool :=
  allT [Lp.fin lp_spec_l17Heights_l0 (spec_l17Heights_a0 x0 x1 x2 x3 x4)]

def F_spec_l17Heights : List SV → List Entry → Option Out
  | [.one ⟨true, [.val (.int .i64 x0), .val (.int .i64 x1), .val (.int .i64 x2), .ref 0, .ref 1]⟩], [.row false 31 (.pair (.int .i64) (.pair (.str) (.int .i64))) x3, .row false 144 (.pair (.int .i64) (.int .i64)) x4] => some ⟨(.tup [⟨false, [(.ref 2)]⟩, ⟨false, [(.val (.bool (spec_l17Heights_0 x0 x1 x2 x3 x4)))]⟩]), [(.row false 31 (CTy.pair (CTy.int IntKind.i64) (CTy.pair CTy.str (CTy.int IntKind.i64))) x3), (.row false 144 (CTy.pair (CTy.int IntKind.i64) (CTy.int IntKind.i64)) x4)], [(.row true 2 (CTy.int IntKind.i64) (spec_l17Heights_1 x0 x1 x2 x3 x4))], [(spec_l17Heights_2 x0 x1 x2 x3 x4)]⟩
  | _, _ => none

def p_spec_l17Heights : PF Tryd.prog := PF.ofG Tryd.prog [p_spec_l17Fits, PF.lend p_spec_l17Fits, PF.fz p_spec_l17Fits, p_spec_l17Takes, PF.lend p_spec_l17Takes, PF.fz p_spec_l17Takes] [lp_spec_l17Heights_l0.F] hmix 116 Tryd.f116 Tryd.func116 (LOk.fnT (l := [loopAt Tryd.f116 0]) (by kernel_rfl) (.cons lpok_spec_l17Heights_l0 (.nil _))) F_spec_l17Heights (by
  intro vs es r h; unfold F_spec_l17Heights at h; split at h
  · cases h; kernel_rfl
  · cases h)

abbrev X_spec_IsCode_l0 := Int × Int × Int × Int × List (Int × (ByteArray × Int)) × List (Int × Int)

def spec_IsCode_l0_a0 (y0 : Int) (y4 : List (Int × (ByteArray × Int))) : Int × ByteArray × Int :=
  Option.getD y4[Int.toNat y0]? ((0 : Int), ByteArray.empty, (0 : Int))

def spec_IsCode_l0_0 (y0 : Int) (y4 : List (Int × (ByteArray × Int))) : Bool :=
  ltI y0 (↑(List.length y4) : Int)

def spec_IsCode_l0_1 (y0 : Int) : Bool :=
  leI (0 : Int) y0

def spec_IsCode_l0_2 (y0 : Int) (y4 : List (Int × (ByteArray × Int))) : Bool :=
  ltN (Int.toNat y0) (List.length y4)

def spec_IsCode_l0_3 (y0 : Int) (y4 : List (Int × (ByteArray × Int))) : Bool :=
  leN (ByteArray.size (Prod.fst (Prod.snd (spec_IsCode_l0_a0 y0 y4)))) (9223372036854775807 : Nat)

def spec_IsCode_l0_4 (y0 : Int) (y4 : List (Int × (ByteArray × Int))) : Bool :=
  !blockB (Prod.fst (spec_IsCode_l0_a0 y0 y4)) (Prod.fst (Prod.snd (spec_IsCode_l0_a0 y0 y4))) (Prod.snd (Prod.snd (spec_IsCode_l0_a0 y0 y4)))

def spec_IsCode_l0_5 (y0 : Int) : Int :=
  IntKind.wrap IntKind.i64 (y0 + (1 : Int))

def JL_spec_IsCode_l0 : X_spec_IsCode_l0 → List (Nat × SV)
  | (y0, _, _, _, _, _) => [(3, (.one ⟨false, [(.val (.int IntKind.i64 y0))]⟩)), (1, (.one ⟨false, [(.ptr 0 0)]⟩))]

def JE_spec_IsCode_l0 : X_spec_IsCode_l0 → List (Nat × Entry)
  | (_, y1, y2, y3, y4, y5) => [(0, (.box 79 [(.val (.int IntKind.i64 y1)), (.val (.int IntKind.i64 y2)), (.val (.int IntKind.i64 y3)), (.ref 1), (.ref 2)])), (1, (.row false 31 (CTy.pair (CTy.int IntKind.i64) (CTy.pair CTy.str (CTy.int IntKind.i64))) y4)), (2, (.row false 144 (CTy.pair (CTy.int IntKind.i64) (CTy.int IntKind.i64)) y5))]

def XL_spec_IsCode_l0 : Nat → X_spec_IsCode_l0 → List (Nat × SV)
  | 0, (_, _, _, _, _, _) => [(2, (.one ⟨false, [(.val (.bool false))]⟩))]
  | _, (_, _, _, _, _, _) => []

def XE_spec_IsCode_l0 : Nat → X_spec_IsCode_l0 → List (Nat × Entry)
  | 0, (_, y1, y2, y3, y4, y5) => [(0, (.box 79 [(.val (.int IntKind.i64 y1)), (.val (.int IntKind.i64 y2)), (.val (.int IntKind.i64 y3)), (.ref 1), (.ref 2)])), (1, (.row false 31 (CTy.pair (CTy.int IntKind.i64) (CTy.pair CTy.str (CTy.int IntKind.i64))) y4)), (2, (.row false 144 (CTy.pair (CTy.int IntKind.i64) (CTy.int IntKind.i64)) y5))]
  | _, (_, y1, y2, y3, y4, y5) => [(0, (.box 79 [(.val (.int IntKind.i64 y1)), (.val (.int IntKind.i64 y2)), (.val (.int IntKind.i64 y3)), (.ref 1), (.ref 2)])), (1, (.row false 31 (CTy.pair (CTy.int IntKind.i64) (CTy.pair CTy.str (CTy.int IntKind.i64))) y4)), (2, (.row false 144 (CTy.pair (CTy.int IntKind.i64) (CTy.int IntKind.i64)) y5))]

def lt_spec_IsCode_l0 : X_spec_IsCode_l0 → LT X_spec_IsCode_l0
  | (y0, y1, y2, y3, y4, y5) => .ite (spec_IsCode_l0_0 y0 y4) (.need [(spec_IsCode_l0_1 y0), (spec_IsCode_l0_0 y0 y4), (spec_IsCode_l0_2 y0 y4), (spec_IsCode_l0_3 y0 y4)] (.ite (spec_IsCode_l0_4 y0 y4) (.ext 0 [(0, 0), (1, 1), (2, 2)]) (.nrm ((spec_IsCode_l0_5 y0), y1, y2, y3, y4, y5) [(0, 0), (1, 1), (2, 2)]))) (.ext 1 [(0, 0), (1, 1), (2, 2)])

def rd_spec_IsCode_l0 (s : St) : Option X_spec_IsCode_l0 :=
  (match s.look 3 with
  | some ⟨none, (.one ⟨false, [(.val (.int IntKind.i64 y0))]⟩)⟩ =>
  (match s.look 1 with
  | some ⟨none, (.one ⟨false, [(.ptr 192 0)]⟩)⟩ =>
  (match s.ent 192 with
  | some (.box 79 [(.val (.int IntKind.i64 y1)), (.val (.int IntKind.i64 y2)), (.val (.int IntKind.i64 y3)), (.ref 0), (.ref 1)]) =>
  (match s.ent 0 with
  | some (.row false 31 (CTy.pair (CTy.int IntKind.i64) (CTy.pair CTy.str (CTy.int IntKind.i64))) y4) =>
  (match s.ent 1 with
  | some (.row false 144 (CTy.pair (CTy.int IntKind.i64) (CTy.int IntKind.i64)) y5) =>
  some (y0, y1, y2, y3, y4, y5)
  | _ => none)
  | _ => none)
  | _ => none)
  | _ => none)
  | _ => none)

def lp_spec_IsCode_l0 : Lp X_spec_IsCode_l0 where
  h := ⟨[34, 35, 36, 37, 38, 41, 42, 43, 44, 45, 46, 47, 2, 39, 40, 3], [0, 1, 2], [], []⟩
  JL := JL_spec_IsCode_l0
  JE := JE_spec_IsCode_l0
  XL := XL_spec_IsCode_l0
  XE := XE_spec_IsCode_l0
  q := fun j => match j with | 0 => .ret | _ => .exit 0
  tags := [0, 1]
  lt := lt_spec_IsCode_l0
  fuel := fun (y0, y1, y2, y3, y4, y5) => y0.natAbs + y1.natAbs + y2.natAbs + y3.natAbs + y4.length + y5.length
  fix := fun (_, y1, y2, y3, y4, y5) (y0, _, _, _, _, _) => (y0, y1, y2, y3, y4, y5)
  σ := [(0, 192), (1, 0), (2, 1)]
  rd := rd_spec_IsCode_l0

theorem lpok_spec_IsCode_l0 : LoopOk Tryd.prog (fun k => Nat.blt k Tryd.f83.ntmps) lp_spec_IsCode_l0.F (loopAt Tryd.f83 0) := by
  refine Lp.ok (tbl := [p_spec_l01In, p_spec_l17Heights, PF.lend p_spec_l17Heights, PF.fz p_spec_l17Heights, n_spec_IsBlock]) (lf := []) hmix lp_spec_IsCode_l0 (by kernel_rfl) (LOk.nil _) (fun _ => rfl) (fun j _ => by unfold lp_spec_IsCode_l0; match j with | 0 => rfl | _ + 1 => rfl) ?_ ?_ ?_ ?_ (fun _ => rfl) ?_
  · intro x; obtain ⟨y0, y1, y2, y3, y4, y5⟩ := x; kernel_rfl
  · intro x; obtain ⟨y0, y1, y2, y3, y4, y5⟩ := x; kernel_rfl
  · intro s x h
    have h : rd_spec_IsCode_l0 s = some x := h
    unfold rd_spec_IsCode_l0 at h
    repeat' split at h
    all_goals cases h
    exact ⟨absS_cons (by assumption) rfl (absS_cons (by assumption) rfl (rfl)), absE_cons rfl (by assumption) rfl (absE_cons rfl (by assumption) rfl (absE_cons rfl (by assumption) rfl (rfl)))⟩
  · intro x; obtain ⟨y0, y1, y2, y3, y4, y5⟩ := x; kernel_rfl
  · intro x z; obtain ⟨y0, y1, y2, y3, y4, y5⟩ := x; exact (And.intro (And.intro trivial rfl) trivial)

def spec_IsCode_a0 (x0 : Int) (x1 : Int) (x2 : Int) (x3 : List (Int × ByteArray × Int)) (x4 : List (Int × Int)) : Bool :=
  bif
    bif
        bif bif !spec_l01In_0 x0 (0 : Int) (20 : Int) then true else !spec_l01In_0 x1 (0 : Int) (20 : Int) then true
        else !spec_l01In_0 x2 (0 : Int) (20 : Int) then
      true
    else ltI (2000 : Int) (↑(List.length x3) : Int) then
  true
  else ltI (2000 : Int) (↑(List.length x4) : Int)

def spec_IsCode_a1 (x0 : Int) (x1 : Int) (x2 : Int) (x3 : List (Int × ByteArray × Int)) (x4 : List (Int × Int)) : Int × Int × Int × Int × List (Int × ByteArray × Int) × List (Int × Int) :=
  ((0 : Int), x0, x1, x2, x3, x4)

def spec_IsCode_a2 (x0 : Int) (x1 : Int) (x2 : Int) (x3 : List (Int × ByteArray × Int)) (x4 : List (Int × Int)) : Bool :=
  Nat.beq (Prod.fst (Lp.res lp_spec_IsCode_l0 (spec_IsCode_a1 x0 x1 x2 x3 x4))) (0 : Nat)

def spec_IsCode_0 (x0 : Int) (x1 : Int) (x2 : Int) (x3 : List (Int × ByteArray × Int)) (x4 : List (Int × Int)) : Bool :=
  bif spec_IsCode_a0 x0 x1 x2 x3 x4 then false else bif spec_IsCode_a2 x0 x1 x2 x3 x4 then false else spec_l17Heights_0 x0 x1 x2 x3 x4

def spec_IsCode_1 (x0 : Int) (x1 : Int) (x2 : Int) (x3 : List (Int × ByteArray × Int)) (x4 : List (Int × Int)) : Bool :=
  allT
  [spec_IsCode_a0 x0 x1 x2 x3 x4 || Lp.fin lp_spec_IsCode_l0 (spec_IsCode_a1 x0 x1 x2 x3 x4),
    spec_IsCode_a0 x0 x1 x2 x3 x4 || (spec_IsCode_a2 x0 x1 x2 x3 x4 || spec_l17Heights_2 x0 x1 x2 x3 x4)]

def F_spec_IsCode : List SV → List Entry → Option Out
  | [.one ⟨true, [.val (.int .i64 x0), .val (.int .i64 x1), .val (.int .i64 x2), .ref 0, .ref 1]⟩], [.row false 31 (.pair (.int .i64) (.pair (.str) (.int .i64))) x3, .row false 144 (.pair (.int .i64) (.int .i64)) x4] => some ⟨(.one ⟨false, [(.val (.bool (spec_IsCode_0 x0 x1 x2 x3 x4)))]⟩), [(.row false 31 (CTy.pair (CTy.int IntKind.i64) (CTy.pair CTy.str (CTy.int IntKind.i64))) x3), (.row false 144 (CTy.pair (CTy.int IntKind.i64) (CTy.int IntKind.i64)) x4)], [], [(spec_IsCode_1 x0 x1 x2 x3 x4)]⟩
  | _, _ => none

def p_spec_IsCode : PF Tryd.prog := PF.ofG Tryd.prog [p_spec_l01In, p_spec_l17Heights, PF.lend p_spec_l17Heights, PF.fz p_spec_l17Heights, n_spec_IsBlock] [lp_spec_IsCode_l0.F] hmix 83 Tryd.f83 Tryd.func83 (LOk.fnT (l := [loopAt Tryd.f83 0]) (by kernel_rfl) (.cons lpok_spec_IsCode_l0 (.nil _))) F_spec_IsCode (by
  intro vs es r h; unfold F_spec_IsCode at h; split at h
  · cases h; kernel_rfl
  · cases h)

abbrev X_spec_l18Suits_l0 := Int × Int × Int × Int × List (Int × (ByteArray × Int)) × List (Int × Int) × List Int × List (Int × (Int × Int))

def spec_l18Suits_l0_a0 (y0 : Int) (y4 : List (Int × (ByteArray × Int))) : Int × ByteArray × Int :=
  Option.getD y4[Int.toNat y0]? ((0 : Int), ByteArray.empty, (0 : Int))

def spec_l18Suits_l0_a1 (y0 : Int) (y7 : List (Int × (Int × Int))) : Int × Int × Int :=
  Option.getD y7[Int.toNat y0]? ((0 : Int), (0 : Int), (0 : Int))

def spec_l18Suits_l0_0 (y0 : Int) (y4 : List (Int × (ByteArray × Int))) : Bool :=
  ltI y0 (↑(List.length y4) : Int)

def spec_l18Suits_l0_1 (y0 : Int) : Bool :=
  leI (0 : Int) y0

def spec_l18Suits_l0_2 (y0 : Int) (y4 : List (Int × (ByteArray × Int))) : Bool :=
  ltN (Int.toNat y0) (List.length y4)

def spec_l18Suits_l0_3 (y0 : Int) (y7 : List (Int × (Int × Int))) : Bool :=
  ltI y0 (↑(List.length y7) : Int)

def spec_l18Suits_l0_4 (y0 : Int) (y7 : List (Int × (Int × Int))) : Bool :=
  ltN (Int.toNat y0) (List.length y7)

def spec_l18Suits_l0_5 (y0 : Int) (y4 : List (Int × (ByteArray × Int))) (y7 : List (Int × (Int × Int))) : Bool :=
  !spec_l15Possible_0 (Prod.fst (spec_l18Suits_l0_a0 y0 y4)) (Prod.snd (Prod.snd (spec_l18Suits_l0_a0 y0 y4))) (Prod.fst (spec_l18Suits_l0_a1 y0 y7))
    (Prod.fst (Prod.snd (spec_l18Suits_l0_a1 y0 y7))) (Prod.snd (Prod.snd (spec_l18Suits_l0_a1 y0 y7)))

def spec_l18Suits_l0_6 (y0 : Int) : Int :=
  IntKind.wrap IntKind.i64 (y0 + (1 : Int))

def JL_spec_l18Suits_l0 : X_spec_l18Suits_l0 → List (Nat × SV)
  | (y0, _, _, _, _, _, _, _) => [(5, (.one ⟨false, [(.val (.int IntKind.i64 y0))]⟩)), (2, (.one ⟨false, [(.ptr 0 0)]⟩)), (3, (.one ⟨false, [(.ptr 1 0)]⟩))]

def JE_spec_l18Suits_l0 : X_spec_l18Suits_l0 → List (Nat × Entry)
  | (_, y1, y2, y3, y4, y5, y6, y7) => [(0, (.box 79 [(.val (.int IntKind.i64 y1)), (.val (.int IntKind.i64 y2)), (.val (.int IntKind.i64 y3)), (.ref 2), (.ref 3)])), (1, (.box 82 [(.ref 4), (.ref 5)])), (2, (.row false 31 (CTy.pair (CTy.int IntKind.i64) (CTy.pair CTy.str (CTy.int IntKind.i64))) y4)), (3, (.row false 144 (CTy.pair (CTy.int IntKind.i64) (CTy.int IntKind.i64)) y5)), (4, (.row false 2 (CTy.int IntKind.i64) y6)), (5, (.row false 28 (CTy.pair (CTy.int IntKind.i64) (CTy.pair (CTy.int IntKind.i64) (CTy.int IntKind.i64))) y7))]

def XL_spec_l18Suits_l0 : Nat → X_spec_l18Suits_l0 → List (Nat × SV)
  | 0, (_, _, _, _, _, _, _, _) => [(4, (.one ⟨false, [(.val (.bool false))]⟩))]
  | _, (_, _, _, _, _, _, _, _) => []

def XE_spec_l18Suits_l0 : Nat → X_spec_l18Suits_l0 → List (Nat × Entry)
  | 0, (_, y1, y2, y3, y4, y5, y6, y7) => [(0, (.box 79 [(.val (.int IntKind.i64 y1)), (.val (.int IntKind.i64 y2)), (.val (.int IntKind.i64 y3)), (.ref 2), (.ref 3)])), (1, (.box 82 [(.ref 4), (.ref 5)])), (2, (.row false 31 (CTy.pair (CTy.int IntKind.i64) (CTy.pair CTy.str (CTy.int IntKind.i64))) y4)), (3, (.row false 144 (CTy.pair (CTy.int IntKind.i64) (CTy.int IntKind.i64)) y5)), (4, (.row false 2 (CTy.int IntKind.i64) y6)), (5, (.row false 28 (CTy.pair (CTy.int IntKind.i64) (CTy.pair (CTy.int IntKind.i64) (CTy.int IntKind.i64))) y7))]
  | _, (_, y1, y2, y3, y4, y5, y6, y7) => [(0, (.box 79 [(.val (.int IntKind.i64 y1)), (.val (.int IntKind.i64 y2)), (.val (.int IntKind.i64 y3)), (.ref 2), (.ref 3)])), (1, (.box 82 [(.ref 4), (.ref 5)])), (2, (.row false 31 (CTy.pair (CTy.int IntKind.i64) (CTy.pair CTy.str (CTy.int IntKind.i64))) y4)), (3, (.row false 144 (CTy.pair (CTy.int IntKind.i64) (CTy.int IntKind.i64)) y5)), (4, (.row false 2 (CTy.int IntKind.i64) y6)), (5, (.row false 28 (CTy.pair (CTy.int IntKind.i64) (CTy.pair (CTy.int IntKind.i64) (CTy.int IntKind.i64))) y7))]

def lt_spec_l18Suits_l0 : X_spec_l18Suits_l0 → LT X_spec_l18Suits_l0
  | (y0, y1, y2, y3, y4, y5, y6, y7) => .ite (spec_l18Suits_l0_0 y0 y4) (.need [(spec_l18Suits_l0_1 y0), (spec_l18Suits_l0_0 y0 y4), (spec_l18Suits_l0_2 y0 y4), (spec_l18Suits_l0_1 y0), (spec_l18Suits_l0_3 y0 y7), (spec_l18Suits_l0_4 y0 y7)] (.ite (spec_l18Suits_l0_5 y0 y4 y7) (.ext 0 [(0, 0), (1, 1), (2, 2), (3, 3), (4, 4), (5, 5)]) (.nrm ((spec_l18Suits_l0_6 y0), y1, y2, y3, y4, y5, y6, y7) [(0, 0), (1, 1), (2, 2), (3, 3), (4, 4), (5, 5)]))) (.ext 1 [(0, 0), (1, 1), (2, 2), (3, 3), (4, 4), (5, 5)])

def rd_spec_l18Suits_l0 (s : St) : Option X_spec_l18Suits_l0 :=
  (match s.look 5 with
  | some ⟨none, (.one ⟨false, [(.val (.int IntKind.i64 y0))]⟩)⟩ =>
  (match s.look 2 with
  | some ⟨none, (.one ⟨false, [(.ptr 320 0)]⟩)⟩ =>
  (match s.look 3 with
  | some ⟨none, (.one ⟨false, [(.ptr 384 0)]⟩)⟩ =>
  (match s.ent 320 with
  | some (.box 79 [(.val (.int IntKind.i64 y1)), (.val (.int IntKind.i64 y2)), (.val (.int IntKind.i64 y3)), (.ref 0), (.ref 1)]) =>
  (match s.ent 384 with
  | some (.box 82 [(.ref 2), (.ref 3)]) =>
  (match s.ent 0 with
  | some (.row false 31 (CTy.pair (CTy.int IntKind.i64) (CTy.pair CTy.str (CTy.int IntKind.i64))) y4) =>
  (match s.ent 1 with
  | some (.row false 144 (CTy.pair (CTy.int IntKind.i64) (CTy.int IntKind.i64)) y5) =>
  (match s.ent 2 with
  | some (.row false 2 (CTy.int IntKind.i64) y6) =>
  (match s.ent 3 with
  | some (.row false 28 (CTy.pair (CTy.int IntKind.i64) (CTy.pair (CTy.int IntKind.i64) (CTy.int IntKind.i64))) y7) =>
  some (y0, y1, y2, y3, y4, y5, y6, y7)
  | _ => none)
  | _ => none)
  | _ => none)
  | _ => none)
  | _ => none)
  | _ => none)
  | _ => none)
  | _ => none)
  | _ => none)

def lp_spec_l18Suits_l0 : Lp X_spec_l18Suits_l0 where
  h := ⟨[21, 22, 23, 24, 25, 28, 29, 30, 31, 32, 33, 34, 35, 36, 37, 38, 39, 4, 26, 27, 5], [0, 1, 2, 3, 4, 5], [], []⟩
  JL := JL_spec_l18Suits_l0
  JE := JE_spec_l18Suits_l0
  XL := XL_spec_l18Suits_l0
  XE := XE_spec_l18Suits_l0
  q := fun j => match j with | 0 => .ret | _ => .exit 0
  tags := [0, 1]
  lt := lt_spec_l18Suits_l0
  fuel := fun (y0, y1, y2, y3, y4, y5, y6, y7) => y0.natAbs + y1.natAbs + y2.natAbs + y3.natAbs + y4.length + y5.length + y6.length + y7.length
  fix := fun (_, y1, y2, y3, y4, y5, y6, y7) (y0, _, _, _, _, _, _, _) => (y0, y1, y2, y3, y4, y5, y6, y7)
  σ := [(0, 320), (1, 384), (2, 0), (3, 1), (4, 2), (5, 3)]
  rd := rd_spec_l18Suits_l0

theorem lpok_spec_l18Suits_l0 : LoopOk Tryd.prog (fun k => Nat.blt k Tryd.f84.ntmps) lp_spec_l18Suits_l0.F (loopAt Tryd.f84 0) := by
  refine Lp.ok (tbl := [n_spec_l22Bits, PF.lend n_spec_l22Bits, PF.fz n_spec_l22Bits, p_spec_l15Possible]) (lf := []) hmix lp_spec_l18Suits_l0 (by kernel_rfl) (LOk.nil _) (fun _ => rfl) (fun j _ => by unfold lp_spec_l18Suits_l0; match j with | 0 => rfl | _ + 1 => rfl) ?_ ?_ ?_ ?_ (fun _ => rfl) ?_
  · intro x; obtain ⟨y0, y1, y2, y3, y4, y5, y6, y7⟩ := x; kernel_rfl
  · intro x; obtain ⟨y0, y1, y2, y3, y4, y5, y6, y7⟩ := x; kernel_rfl
  · intro s x h
    have h : rd_spec_l18Suits_l0 s = some x := h
    unfold rd_spec_l18Suits_l0 at h
    repeat' split at h
    all_goals cases h
    exact ⟨absS_cons (by assumption) rfl (absS_cons (by assumption) rfl (absS_cons (by assumption) rfl (rfl))), absE_cons rfl (by assumption) rfl (absE_cons rfl (by assumption) rfl (absE_cons rfl (by assumption) rfl (absE_cons rfl (by assumption) rfl (absE_cons rfl (by assumption) rfl (absE_cons rfl (by assumption) rfl (rfl))))))⟩
  · intro x; obtain ⟨y0, y1, y2, y3, y4, y5, y6, y7⟩ := x; kernel_rfl
  · intro x z; obtain ⟨y0, y1, y2, y3, y4, y5, y6, y7⟩ := x; exact (And.intro (And.intro trivial rfl) trivial)

def spec_l18Suits_a0 (x3 : List (Int × ByteArray × Int)) (x6 : List (Int × Int × Int)) : Bool :=
  (↑(List.length x6) : Int) != (↑(List.length x3) : Int)

def spec_l18Suits_a1 (x0 : Int) (x1 : Int) (x2 : Int) (x3 : List (Int × ByteArray × Int)) (x4 : List (Int × Int)) (x5 : List Int) (x6 : List (Int × Int × Int)) : Int × Int × Int × Int × List (Int × ByteArray × Int) × List (Int × Int) × List Int × List (Int × Int × Int) :=
  ((0 : Int), x0, x1, x2, x3, x4, x5, x6)

def spec_l18Suits_0 (x0 : Int) (x1 : Int) (x2 : Int) (x3 : List (Int × ByteArray × Int)) (x4 : List (Int × Int)) (x5 : List Int) (x6 : List (Int × Int × Int)) : Bool :=
  bif bif spec_l18Suits_a0 x3 x6 then true else !bitsB x1 x5 then false
  else bif Nat.beq (Prod.fst (Lp.res lp_spec_l18Suits_l0 (spec_l18Suits_a1 x0 x1 x2 x3 x4 x5 x6))) (0 : Nat) then false else true

def spec_l18Suits_1 (x0 : Int) (x1 : Int) (x2 : Int) (x3 : List (Int × ByteArray × Int)) (x4 : List (Int × Int)) (x5 : List Int) (x6 : List (Int × Int × Int)) : Bool :=
  allT
  [!(!spec_l18Suits_a0 x3 x6 && true) || leN (List.length x5) (9223372036854775807 : Nat),
    (bif spec_l18Suits_a0 x3 x6 then true else !bitsB x1 x5) || Lp.fin lp_spec_l18Suits_l0 (spec_l18Suits_a1 x0 x1 x2 x3 x4 x5 x6)]

def F_spec_l18Suits : List SV → List Entry → Option Out
  | [.one ⟨true, [.val (.int .i64 x0), .val (.int .i64 x1), .val (.int .i64 x2), .ref 0, .ref 1]⟩, .one ⟨true, [.ref 2, .ref 3]⟩], [.row false 31 (.pair (.int .i64) (.pair (.str) (.int .i64))) x3, .row false 144 (.pair (.int .i64) (.int .i64)) x4, .row false 2 (.int .i64) x5, .row false 28 (.pair (.int .i64) (.pair (.int .i64) (.int .i64))) x6] => some ⟨(.one ⟨false, [(.val (.bool (spec_l18Suits_0 x0 x1 x2 x3 x4 x5 x6)))]⟩), [(.row false 31 (CTy.pair (CTy.int IntKind.i64) (CTy.pair CTy.str (CTy.int IntKind.i64))) x3), (.row false 144 (CTy.pair (CTy.int IntKind.i64) (CTy.int IntKind.i64)) x4), (.row false 2 (CTy.int IntKind.i64) x5), (.row false 28 (CTy.pair (CTy.int IntKind.i64) (CTy.pair (CTy.int IntKind.i64) (CTy.int IntKind.i64))) x6)], [], [(spec_l18Suits_1 x0 x1 x2 x3 x4 x5 x6)]⟩
  | _, _ => none

def p_spec_l18Suits : PF Tryd.prog := PF.ofG Tryd.prog [n_spec_l22Bits, PF.lend n_spec_l22Bits, PF.fz n_spec_l22Bits, p_spec_l15Possible] [lp_spec_l18Suits_l0.F] hmix 84 Tryd.f84 Tryd.func84 (LOk.fnT (l := [loopAt Tryd.f84 0]) (by kernel_rfl) (.cons lpok_spec_l18Suits_l0 (.nil _))) F_spec_l18Suits (by
  intro vs es r h; unfold F_spec_l18Suits at h; split at h
  · cases h; kernel_rfl
  · cases h)

abbrev X_laws_toTermS_l0 := Int × List (Int × (ByteArray × Int)) × List (Int × (ByteArray × Int))

def laws_toTermS_l0_a0 (y0 : Int) (y1 : List (Int × (ByteArray × Int))) : Int × ByteArray × Int :=
  Option.getD y1[Int.toNat y0]? ((0 : Int), ByteArray.empty, (0 : Int))

def laws_toTermS_l0_0 (y0 : Int) (y1 : List (Int × (ByteArray × Int))) : Bool :=
  ltI y0 (↑(List.length y1) : Int)

def laws_toTermS_l0_1 (y0 : Int) : Bool :=
  leI (0 : Int) y0

def laws_toTermS_l0_2 (y0 : Int) (y1 : List (Int × (ByteArray × Int))) : Bool :=
  ltN (Int.toNat y0) (List.length y1)

def laws_toTermS_l0_3 (y0 : Int) (y2 : List (Int × (ByteArray × Int))) : Bool :=
  ltI y0 (↑(List.length y2) : Int)

def laws_toTermS_l0_4 (y0 : Int) (y2 : List (Int × (ByteArray × Int))) : Bool :=
  ltN (Int.toNat y0) (List.length y2)

def laws_toTermS_l0_5 (y0 : Int) : Int :=
  IntKind.wrap IntKind.i64 (y0 + (1 : Int))

def laws_toTermS_l0_6 (y0 : Int) (y1 : List (Int × (ByteArray × Int))) (y2 : List (Int × (ByteArray × Int))) : List (Int × (ByteArray × Int)) :=
  List.set y2 (Int.toNat y0)
  (Prod.fst (laws_toTermS_l0_a0 y0 y1), Prod.fst (Prod.snd (laws_toTermS_l0_a0 y0 y1)), Prod.snd (Prod.snd (laws_toTermS_l0_a0 y0 y1)))

def JL_laws_toTermS_l0 : X_laws_toTermS_l0 → List (Nat × SV)
  | (y0, _, _) => [(4, (.one ⟨false, [(.val (.int IntKind.i64 y0))]⟩)), (0, (.one ⟨false, [(.ref 0)]⟩)), (3, (.one ⟨false, [(.ref 1)]⟩))]

def JE_laws_toTermS_l0 : X_laws_toTermS_l0 → List (Nat × Entry)
  | (_, y1, y2) => [(0, (.row false 23 (CTy.pair (CTy.int IntKind.i64) (CTy.pair CTy.str (CTy.int IntKind.i64))) y1)), (1, (.row true 31 (CTy.pair (CTy.int IntKind.i64) (CTy.pair CTy.str (CTy.int IntKind.i64))) y2))]

def XL_laws_toTermS_l0 : Nat → X_laws_toTermS_l0 → List (Nat × SV)
  | _, (_, _, _) => []

def XE_laws_toTermS_l0 : Nat → X_laws_toTermS_l0 → List (Nat × Entry)
  | _, (_, y1, y2) => [(0, (.row false 23 (CTy.pair (CTy.int IntKind.i64) (CTy.pair CTy.str (CTy.int IntKind.i64))) y1)), (1, (.row true 31 (CTy.pair (CTy.int IntKind.i64) (CTy.pair CTy.str (CTy.int IntKind.i64))) y2))]

def lt_laws_toTermS_l0 : X_laws_toTermS_l0 → LT X_laws_toTermS_l0
  | (y0, y1, y2) => .ite (laws_toTermS_l0_0 y0 y1) (.need [(laws_toTermS_l0_1 y0), (laws_toTermS_l0_0 y0 y1), (laws_toTermS_l0_2 y0 y1), (laws_toTermS_l0_1 y0), (laws_toTermS_l0_3 y0 y2), (laws_toTermS_l0_4 y0 y2)] (.nrm ((laws_toTermS_l0_5 y0), y1, (laws_toTermS_l0_6 y0 y1 y2)) [(0, 0), (1, 1)])) (.ext 0 [(0, 0), (1, 1)])

def rd_laws_toTermS_l0 (s : St) : Option X_laws_toTermS_l0 :=
  (match s.look 4 with
  | some ⟨none, (.one ⟨false, [(.val (.int IntKind.i64 y0))]⟩)⟩ =>
  (match s.look 0 with
  | some ⟨none, (.one ⟨false, [(.ref 0)]⟩)⟩ =>
  (match s.look 3 with
  | some ⟨none, (.one ⟨false, [(.ref 320)]⟩)⟩ =>
  (match s.ent 0 with
  | some (.row false 23 (CTy.pair (CTy.int IntKind.i64) (CTy.pair CTy.str (CTy.int IntKind.i64))) y1) =>
  (match s.ent 320 with
  | some (.row true 31 (CTy.pair (CTy.int IntKind.i64) (CTy.pair CTy.str (CTy.int IntKind.i64))) y2) =>
  some (y0, y1, y2)
  | _ => none)
  | _ => none)
  | _ => none)
  | _ => none)
  | _ => none)

def lp_laws_toTermS_l0 : Lp X_laws_toTermS_l0 where
  h := ⟨[8, 9, 10, 11, 14, 15, 16, 17, 18, 19, 20, 21, 12, 13, 4], [0, 1], [], []⟩
  JL := JL_laws_toTermS_l0
  JE := JE_laws_toTermS_l0
  XL := XL_laws_toTermS_l0
  XE := XE_laws_toTermS_l0
  q := fun j => match j with | _ => .exit 0
  tags := [0]
  lt := lt_laws_toTermS_l0
  fuel := fun (y0, y1, y2) => y0.natAbs + y1.length + y2.length
  fix := fun (_, y1, _) (y0, _, y2) => (y0, y1, y2)
  σ := [(0, 0), (1, 320)]
  rd := rd_laws_toTermS_l0

theorem lpok_laws_toTermS_l0 : LoopOk Tryd.prog (fun k => Nat.blt k Tryd.f86.ntmps) lp_laws_toTermS_l0.F (loopAt Tryd.f86 0) := by
  refine Lp.ok (tbl := [p_laws_toTerm]) (lf := []) hmix lp_laws_toTermS_l0 (by kernel_rfl) (LOk.nil _) (fun _ => rfl) (fun _ _ => rfl) ?_ ?_ ?_ ?_ (fun _ => rfl) ?_
  · intro x; obtain ⟨y0, y1, y2⟩ := x; kernel_rfl
  · intro x; obtain ⟨y0, y1, y2⟩ := x; kernel_rfl
  · intro s x h
    have h : rd_laws_toTermS_l0 s = some x := h
    unfold rd_laws_toTermS_l0 at h
    repeat' split at h
    all_goals cases h
    exact ⟨absS_cons (by assumption) rfl (absS_cons (by assumption) rfl (absS_cons (by assumption) rfl (rfl))), absE_cons rfl (by assumption) rfl (absE_cons rfl (by assumption) rfl (rfl))⟩
  · intro x; obtain ⟨y0, y1, y2⟩ := x; kernel_rfl
  · intro x z; obtain ⟨y0, y1, y2⟩ := x; exact (And.intro rfl trivial)

def laws_toTermS_a0 (x0 : List (Int × ByteArray × Int)) : Int × List (Int × ByteArray × Int) × List (Int × ByteArray × Int) :=
  ((0 : Int), x0, List.replicate (Int.toNat (↑(List.length x0) : Int)) ((0 : Int), { data := #[] }, (0 : Int)))

def laws_toTermS_0 (x0 : List (Int × ByteArray × Int)) : List (Int × (ByteArray × Int)) :=
  Prod.snd (Prod.snd (Prod.snd (Lp.res lp_laws_toTermS_l0 (laws_toTermS_a0 x0))))

def laws_toTermS_1 (x0 : List (Int × ByteArray × Int)) : Bool :=
  allT
  [leI (0 : Int) (↑(List.length x0) : Int), leI (↑(List.length x0) : Int) (↑(List.length x0) : Int),
    leI ((↑(32 : Nat) : Int) * (↑(List.length x0) : Int)) (281474976710656 : Int), leI (↑(List.length x0) : Int) (9223372036854775807 : Int),
    Lp.fin lp_laws_toTermS_l0 (laws_toTermS_a0 x0)]

def F_laws_toTermS : List SV → List Entry → Option Out
  | [.one ⟨false, [.ref 0]⟩], [.row false 23 (.pair (.int .i64) (.pair (.str) (.int .i64))) x0] => some ⟨(.one ⟨false, [(.ref 1)]⟩), [(.row false 23 (CTy.pair (CTy.int IntKind.i64) (CTy.pair CTy.str (CTy.int IntKind.i64))) x0)], [(.row true 31 (CTy.pair (CTy.int IntKind.i64) (CTy.pair CTy.str (CTy.int IntKind.i64))) (laws_toTermS_0 x0))], [(laws_toTermS_1 x0)]⟩
  | _, _ => none

def p_laws_toTermS : PF Tryd.prog := PF.ofG Tryd.prog [p_laws_toTerm] [lp_laws_toTermS_l0.F] hmix 86 Tryd.f86 Tryd.func86 (LOk.fnT (l := [loopAt Tryd.f86 0]) (by kernel_rfl) (.cons lpok_laws_toTermS_l0 (.nil _))) F_laws_toTermS (by
  intro vs es r h; unfold F_laws_toTermS at h; split at h
  · cases h; kernel_rfl
  · cases h)

def F_laws_toInstruction : List SV → List Entry → Option Out
  | [.one ⟨true, [.val (.int .i64 x0), .val (.int .i64 x1)]⟩], [] => some ⟨(.one ⟨true, [(.val (.int IntKind.i64 x0)), (.val (.int IntKind.i64 x1))]⟩), [], [], []⟩
  | _, _ => none

def p_laws_toInstruction : PF Tryd.prog := PF.ofG Tryd.prog [] [] hmix 117 Tryd.f117 Tryd.func117 (fun c _ => LOk.nil c) F_laws_toInstruction (by
  intro vs es r h; unfold F_laws_toInstruction at h; split at h
  · cases h; kernel_rfl
  · cases h)

abbrev X_laws_toInstructionS_l0 := Int × List (Int × Int) × List (Int × Int)

def laws_toInstructionS_l0_a0 (y0 : Int) (y1 : List (Int × Int)) : Int × Int :=
  Option.getD y1[Int.toNat y0]? ((0 : Int), (0 : Int))

def laws_toInstructionS_l0_0 (y0 : Int) (y1 : List (Int × Int)) : Bool :=
  ltI y0 (↑(List.length y1) : Int)

def laws_toInstructionS_l0_1 (y0 : Int) : Bool :=
  leI (0 : Int) y0

def laws_toInstructionS_l0_2 (y0 : Int) (y1 : List (Int × Int)) : Bool :=
  ltN (Int.toNat y0) (List.length y1)

def laws_toInstructionS_l0_3 (y0 : Int) (y2 : List (Int × Int)) : Bool :=
  ltI y0 (↑(List.length y2) : Int)

def laws_toInstructionS_l0_4 (y0 : Int) (y2 : List (Int × Int)) : Bool :=
  ltN (Int.toNat y0) (List.length y2)

def laws_toInstructionS_l0_5 (y0 : Int) : Int :=
  IntKind.wrap IntKind.i64 (y0 + (1 : Int))

def laws_toInstructionS_l0_6 (y0 : Int) (y1 : List (Int × Int)) (y2 : List (Int × Int)) : List (Int × Int) :=
  List.set y2 (Int.toNat y0) (Prod.fst (laws_toInstructionS_l0_a0 y0 y1), Prod.snd (laws_toInstructionS_l0_a0 y0 y1))

def JL_laws_toInstructionS_l0 : X_laws_toInstructionS_l0 → List (Nat × SV)
  | (y0, _, _) => [(4, (.one ⟨false, [(.val (.int IntKind.i64 y0))]⟩)), (0, (.one ⟨false, [(.ref 0)]⟩)), (3, (.one ⟨false, [(.ref 1)]⟩))]

def JE_laws_toInstructionS_l0 : X_laws_toInstructionS_l0 → List (Nat × Entry)
  | (_, y1, y2) => [(0, (.row false 146 (CTy.pair (CTy.int IntKind.i64) (CTy.int IntKind.i64)) y1)), (1, (.row true 144 (CTy.pair (CTy.int IntKind.i64) (CTy.int IntKind.i64)) y2))]

def XL_laws_toInstructionS_l0 : Nat → X_laws_toInstructionS_l0 → List (Nat × SV)
  | _, (_, _, _) => []

def XE_laws_toInstructionS_l0 : Nat → X_laws_toInstructionS_l0 → List (Nat × Entry)
  | _, (_, y1, y2) => [(0, (.row false 146 (CTy.pair (CTy.int IntKind.i64) (CTy.int IntKind.i64)) y1)), (1, (.row true 144 (CTy.pair (CTy.int IntKind.i64) (CTy.int IntKind.i64)) y2))]

def lt_laws_toInstructionS_l0 : X_laws_toInstructionS_l0 → LT X_laws_toInstructionS_l0
  | (y0, y1, y2) => .ite (laws_toInstructionS_l0_0 y0 y1) (.need [(laws_toInstructionS_l0_1 y0), (laws_toInstructionS_l0_0 y0 y1), (laws_toInstructionS_l0_2 y0 y1), (laws_toInstructionS_l0_1 y0), (laws_toInstructionS_l0_3 y0 y2), (laws_toInstructionS_l0_4 y0 y2)] (.nrm ((laws_toInstructionS_l0_5 y0), y1, (laws_toInstructionS_l0_6 y0 y1 y2)) [(0, 0), (1, 1)])) (.ext 0 [(0, 0), (1, 1)])

def rd_laws_toInstructionS_l0 (s : St) : Option X_laws_toInstructionS_l0 :=
  (match s.look 4 with
  | some ⟨none, (.one ⟨false, [(.val (.int IntKind.i64 y0))]⟩)⟩ =>
  (match s.look 0 with
  | some ⟨none, (.one ⟨false, [(.ref 0)]⟩)⟩ =>
  (match s.look 3 with
  | some ⟨none, (.one ⟨false, [(.ref 320)]⟩)⟩ =>
  (match s.ent 0 with
  | some (.row false 146 (CTy.pair (CTy.int IntKind.i64) (CTy.int IntKind.i64)) y1) =>
  (match s.ent 320 with
  | some (.row true 144 (CTy.pair (CTy.int IntKind.i64) (CTy.int IntKind.i64)) y2) =>
  some (y0, y1, y2)
  | _ => none)
  | _ => none)
  | _ => none)
  | _ => none)
  | _ => none)

def lp_laws_toInstructionS_l0 : Lp X_laws_toInstructionS_l0 where
  h := ⟨[8, 9, 10, 11, 14, 15, 16, 17, 18, 19, 20, 21, 12, 13, 4], [0, 1], [], []⟩
  JL := JL_laws_toInstructionS_l0
  JE := JE_laws_toInstructionS_l0
  XL := XL_laws_toInstructionS_l0
  XE := XE_laws_toInstructionS_l0
  q := fun j => match j with | _ => .exit 0
  tags := [0]
  lt := lt_laws_toInstructionS_l0
  fuel := fun (y0, y1, y2) => y0.natAbs + y1.length + y2.length
  fix := fun (_, y1, _) (y0, _, y2) => (y0, y1, y2)
  σ := [(0, 0), (1, 320)]
  rd := rd_laws_toInstructionS_l0

theorem lpok_laws_toInstructionS_l0 : LoopOk Tryd.prog (fun k => Nat.blt k Tryd.f87.ntmps) lp_laws_toInstructionS_l0.F (loopAt Tryd.f87 0) := by
  refine Lp.ok (tbl := [p_laws_toInstruction]) (lf := []) hmix lp_laws_toInstructionS_l0 (by kernel_rfl) (LOk.nil _) (fun _ => rfl) (fun _ _ => rfl) ?_ ?_ ?_ ?_ (fun _ => rfl) ?_
  · intro x; obtain ⟨y0, y1, y2⟩ := x; kernel_rfl
  · intro x; obtain ⟨y0, y1, y2⟩ := x; kernel_rfl
  · intro s x h
    have h : rd_laws_toInstructionS_l0 s = some x := h
    unfold rd_laws_toInstructionS_l0 at h
    repeat' split at h
    all_goals cases h
    exact ⟨absS_cons (by assumption) rfl (absS_cons (by assumption) rfl (absS_cons (by assumption) rfl (rfl))), absE_cons rfl (by assumption) rfl (absE_cons rfl (by assumption) rfl (rfl))⟩
  · intro x; obtain ⟨y0, y1, y2⟩ := x; kernel_rfl
  · intro x z; obtain ⟨y0, y1, y2⟩ := x; exact (And.intro rfl trivial)

def laws_toInstructionS_a0 (x0 : List (Int × Int)) : Int × List (Int × Int) × List (Int × Int) :=
  ((0 : Int), x0, List.replicate (Int.toNat (↑(List.length x0) : Int)) ((0 : Int), (0 : Int)))

def laws_toInstructionS_0 (x0 : List (Int × Int)) : List (Int × Int) :=
  Prod.snd (Prod.snd (Prod.snd (Lp.res lp_laws_toInstructionS_l0 (laws_toInstructionS_a0 x0))))

def laws_toInstructionS_1 (x0 : List (Int × Int)) : Bool :=
  allT
  [leI (0 : Int) (↑(List.length x0) : Int), leI (↑(List.length x0) : Int) (↑(List.length x0) : Int),
    leI ((↑(16 : Nat) : Int) * (↑(List.length x0) : Int)) (281474976710656 : Int), leI (↑(List.length x0) : Int) (9223372036854775807 : Int),
    Lp.fin lp_laws_toInstructionS_l0 (laws_toInstructionS_a0 x0)]

def F_laws_toInstructionS : List SV → List Entry → Option Out
  | [.one ⟨false, [.ref 0]⟩], [.row false 146 (.pair (.int .i64) (.int .i64)) x0] => some ⟨(.one ⟨false, [(.ref 1)]⟩), [(.row false 146 (CTy.pair (CTy.int IntKind.i64) (CTy.int IntKind.i64)) x0)], [(.row true 144 (CTy.pair (CTy.int IntKind.i64) (CTy.int IntKind.i64)) (laws_toInstructionS_0 x0))], [(laws_toInstructionS_1 x0)]⟩
  | _, _ => none

def p_laws_toInstructionS : PF Tryd.prog := PF.ofG Tryd.prog [p_laws_toInstruction] [lp_laws_toInstructionS_l0.F] hmix 87 Tryd.f87 Tryd.func87 (LOk.fnT (l := [loopAt Tryd.f87 0]) (by kernel_rfl) (.cons lpok_laws_toInstructionS_l0 (.nil _))) F_laws_toInstructionS (by
  intro vs es r h; unfold F_laws_toInstructionS at h; split at h
  · cases h; kernel_rfl
  · cases h)

abbrev X_laws_toBlockStateS_l0 := Int × List (Int × (Int × Int)) × List (Int × (Int × Int))

def laws_toBlockStateS_l0_a0 (y0 : Int) (y1 : List (Int × (Int × Int))) : Int × Int × Int :=
  Option.getD y1[Int.toNat y0]? ((0 : Int), (0 : Int), (0 : Int))

def laws_toBlockStateS_l0_0 (y0 : Int) (y1 : List (Int × (Int × Int))) : Bool :=
  ltI y0 (↑(List.length y1) : Int)

def laws_toBlockStateS_l0_1 (y0 : Int) : Bool :=
  leI (0 : Int) y0

def laws_toBlockStateS_l0_2 (y0 : Int) (y1 : List (Int × (Int × Int))) : Bool :=
  ltN (Int.toNat y0) (List.length y1)

def laws_toBlockStateS_l0_3 (y0 : Int) (y2 : List (Int × (Int × Int))) : Bool :=
  ltI y0 (↑(List.length y2) : Int)

def laws_toBlockStateS_l0_4 (y0 : Int) (y2 : List (Int × (Int × Int))) : Bool :=
  ltN (Int.toNat y0) (List.length y2)

def laws_toBlockStateS_l0_5 (y0 : Int) : Int :=
  IntKind.wrap IntKind.i64 (y0 + (1 : Int))

def laws_toBlockStateS_l0_6 (y0 : Int) (y1 : List (Int × (Int × Int))) (y2 : List (Int × (Int × Int))) : List (Int × (Int × Int)) :=
  List.set y2 (Int.toNat y0)
  (Prod.fst (laws_toBlockStateS_l0_a0 y0 y1), Prod.fst (Prod.snd (laws_toBlockStateS_l0_a0 y0 y1)),
    Prod.snd (Prod.snd (laws_toBlockStateS_l0_a0 y0 y1)))

def JL_laws_toBlockStateS_l0 : X_laws_toBlockStateS_l0 → List (Nat × SV)
  | (y0, _, _) => [(4, (.one ⟨false, [(.val (.int IntKind.i64 y0))]⟩)), (0, (.one ⟨false, [(.ref 0)]⟩)), (3, (.one ⟨false, [(.ref 1)]⟩))]

def JE_laws_toBlockStateS_l0 : X_laws_toBlockStateS_l0 → List (Nat × Entry)
  | (_, y1, y2) => [(0, (.row false 25 (CTy.pair (CTy.int IntKind.i64) (CTy.pair (CTy.int IntKind.i64) (CTy.int IntKind.i64))) y1)), (1, (.row true 28 (CTy.pair (CTy.int IntKind.i64) (CTy.pair (CTy.int IntKind.i64) (CTy.int IntKind.i64))) y2))]

def XL_laws_toBlockStateS_l0 : Nat → X_laws_toBlockStateS_l0 → List (Nat × SV)
  | _, (_, _, _) => []

def XE_laws_toBlockStateS_l0 : Nat → X_laws_toBlockStateS_l0 → List (Nat × Entry)
  | _, (_, y1, y2) => [(0, (.row false 25 (CTy.pair (CTy.int IntKind.i64) (CTy.pair (CTy.int IntKind.i64) (CTy.int IntKind.i64))) y1)), (1, (.row true 28 (CTy.pair (CTy.int IntKind.i64) (CTy.pair (CTy.int IntKind.i64) (CTy.int IntKind.i64))) y2))]

def lt_laws_toBlockStateS_l0 : X_laws_toBlockStateS_l0 → LT X_laws_toBlockStateS_l0
  | (y0, y1, y2) => .ite (laws_toBlockStateS_l0_0 y0 y1) (.need [(laws_toBlockStateS_l0_1 y0), (laws_toBlockStateS_l0_0 y0 y1), (laws_toBlockStateS_l0_2 y0 y1), (laws_toBlockStateS_l0_1 y0), (laws_toBlockStateS_l0_3 y0 y2), (laws_toBlockStateS_l0_4 y0 y2)] (.nrm ((laws_toBlockStateS_l0_5 y0), y1, (laws_toBlockStateS_l0_6 y0 y1 y2)) [(0, 0), (1, 1)])) (.ext 0 [(0, 0), (1, 1)])

def rd_laws_toBlockStateS_l0 (s : St) : Option X_laws_toBlockStateS_l0 :=
  (match s.look 4 with
  | some ⟨none, (.one ⟨false, [(.val (.int IntKind.i64 y0))]⟩)⟩ =>
  (match s.look 0 with
  | some ⟨none, (.one ⟨false, [(.ref 0)]⟩)⟩ =>
  (match s.look 3 with
  | some ⟨none, (.one ⟨false, [(.ref 320)]⟩)⟩ =>
  (match s.ent 0 with
  | some (.row false 25 (CTy.pair (CTy.int IntKind.i64) (CTy.pair (CTy.int IntKind.i64) (CTy.int IntKind.i64))) y1) =>
  (match s.ent 320 with
  | some (.row true 28 (CTy.pair (CTy.int IntKind.i64) (CTy.pair (CTy.int IntKind.i64) (CTy.int IntKind.i64))) y2) =>
  some (y0, y1, y2)
  | _ => none)
  | _ => none)
  | _ => none)
  | _ => none)
  | _ => none)

def lp_laws_toBlockStateS_l0 : Lp X_laws_toBlockStateS_l0 where
  h := ⟨[8, 9, 10, 11, 14, 15, 16, 17, 18, 19, 20, 21, 12, 13, 4], [0, 1], [], []⟩
  JL := JL_laws_toBlockStateS_l0
  JE := JE_laws_toBlockStateS_l0
  XL := XL_laws_toBlockStateS_l0
  XE := XE_laws_toBlockStateS_l0
  q := fun j => match j with | _ => .exit 0
  tags := [0]
  lt := lt_laws_toBlockStateS_l0
  fuel := fun (y0, y1, y2) => y0.natAbs + y1.length + y2.length
  fix := fun (_, y1, _) (y0, _, y2) => (y0, y1, y2)
  σ := [(0, 0), (1, 320)]
  rd := rd_laws_toBlockStateS_l0

theorem lpok_laws_toBlockStateS_l0 : LoopOk Tryd.prog (fun k => Nat.blt k Tryd.f88.ntmps) lp_laws_toBlockStateS_l0.F (loopAt Tryd.f88 0) := by
  refine Lp.ok (tbl := [p_laws_toBlockState]) (lf := []) hmix lp_laws_toBlockStateS_l0 (by kernel_rfl) (LOk.nil _) (fun _ => rfl) (fun _ _ => rfl) ?_ ?_ ?_ ?_ (fun _ => rfl) ?_
  · intro x; obtain ⟨y0, y1, y2⟩ := x; kernel_rfl
  · intro x; obtain ⟨y0, y1, y2⟩ := x; kernel_rfl
  · intro s x h
    have h : rd_laws_toBlockStateS_l0 s = some x := h
    unfold rd_laws_toBlockStateS_l0 at h
    repeat' split at h
    all_goals cases h
    exact ⟨absS_cons (by assumption) rfl (absS_cons (by assumption) rfl (absS_cons (by assumption) rfl (rfl))), absE_cons rfl (by assumption) rfl (absE_cons rfl (by assumption) rfl (rfl))⟩
  · intro x; obtain ⟨y0, y1, y2⟩ := x; kernel_rfl
  · intro x z; obtain ⟨y0, y1, y2⟩ := x; exact (And.intro rfl trivial)

def laws_toBlockStateS_a0 (x0 : List (Int × Int × Int)) : Int × List (Int × Int × Int) × List (Int × Int × Int) :=
  ((0 : Int), x0, List.replicate (Int.toNat (↑(List.length x0) : Int)) ((0 : Int), (0 : Int), (0 : Int)))

def laws_toBlockStateS_0 (x0 : List (Int × Int × Int)) : List (Int × (Int × Int)) :=
  Prod.snd (Prod.snd (Prod.snd (Lp.res lp_laws_toBlockStateS_l0 (laws_toBlockStateS_a0 x0))))

def laws_toBlockStateS_1 (x0 : List (Int × Int × Int)) : Bool :=
  allT
  [leI (0 : Int) (↑(List.length x0) : Int), leI (↑(List.length x0) : Int) (↑(List.length x0) : Int),
    leI ((↑(24 : Nat) : Int) * (↑(List.length x0) : Int)) (281474976710656 : Int), leI (↑(List.length x0) : Int) (9223372036854775807 : Int),
    Lp.fin lp_laws_toBlockStateS_l0 (laws_toBlockStateS_a0 x0)]

def F_laws_toBlockStateS : List SV → List Entry → Option Out
  | [.one ⟨false, [.ref 0]⟩], [.row false 25 (.pair (.int .i64) (.pair (.int .i64) (.int .i64))) x0] => some ⟨(.one ⟨false, [(.ref 1)]⟩), [(.row false 25 (CTy.pair (CTy.int IntKind.i64) (CTy.pair (CTy.int IntKind.i64) (CTy.int IntKind.i64))) x0)], [(.row true 28 (CTy.pair (CTy.int IntKind.i64) (CTy.pair (CTy.int IntKind.i64) (CTy.int IntKind.i64))) (laws_toBlockStateS_0 x0))], [(laws_toBlockStateS_1 x0)]⟩
  | _, _ => none

def p_laws_toBlockStateS : PF Tryd.prog := PF.ofG Tryd.prog [p_laws_toBlockState] [lp_laws_toBlockStateS_l0.F] hmix 88 Tryd.f88 Tryd.func88 (LOk.fnT (l := [loopAt Tryd.f88 0]) (by kernel_rfl) (.cons lpok_laws_toBlockStateS_l0 (.nil _))) F_laws_toBlockStateS (by
  intro vs es r h; unfold F_laws_toBlockStateS at h; split at h
  · cases h; kernel_rfl
  · cases h)

def impl_IsCode_1_0 (x0 : Int) (x1 : ByteArray) (x2 : Int) : Bool :=
  !blockB x0 x1 x2

def F_impl_IsCode_1 : List SV → List Entry → Option Out
  | [.one ⟨true, [.val (.int .i64 x0), .val (.string x1), .val (.int .i64 x2)]⟩], [] => some ⟨(.one ⟨false, [(.val (.bool (impl_IsCode_1_0 x0 x1 x2)))]⟩), [], [], []⟩
  | _, _ => none

def p_impl_IsCode_1 : PF Tryd.prog := PF.ofG Tryd.prog [n_impl_IsBlock] [] hmix 139 Tryd.f139 Tryd.func139 (fun c _ => LOk.nil c) F_impl_IsCode_1 (by
  intro vs es r h; unfold F_impl_IsCode_1 at h; split at h
  · cases h; kernel_rfl
  · cases h)

def impl_length_impl_Term_0 (x0 : List (Int × ByteArray × Int)) : Int :=
  (↑(List.length x0) : Int)

def F_impl_length_impl_Term : List SV → List Entry → Option Out
  | [.one ⟨false, [.ref 0]⟩], [.row false 31 (.pair (.int .i64) (.pair (.str) (.int .i64))) x0] => some ⟨(.one ⟨false, [(.val (.int IntKind.i64 (impl_length_impl_Term_0 x0)))]⟩), [(.row false 31 (CTy.pair (CTy.int IntKind.i64) (CTy.pair CTy.str (CTy.int IntKind.i64))) x0)], [], []⟩
  | _, _ => none

def p_impl_length_impl_Term : PF Tryd.prog := PF.ofG Tryd.prog [] [] hmix 168 Tryd.f168 Tryd.func168 (fun c _ => LOk.nil c) F_impl_length_impl_Term (by
  intro vs es r h; unfold F_impl_length_impl_Term at h; split at h
  · cases h; kernel_rfl
  · cases h)

def loop_example_g00916_impl_Code_many_0 (x0 : Int) (x1 : Int) (x2 : Int) (x3 : Int) (x4 : List (Int × ByteArray × Int)) : Int :=
  bif x3 == (1 : Int) then (2 : Int)
  else
  bif bif x3 == (2 : Int) then x3 == (2 : Int) else x3 == (10 : Int) then x0
  else
    bif bif x3 == (3 : Int) then x3 == (3 : Int) else bif x3 == (8 : Int) then x3 == (8 : Int) else x3 == (11 : Int) then x1
    else
      bif bif x3 == (4 : Int) then x3 == (4 : Int) else bif x3 == (5 : Int) then x3 == (5 : Int) else x3 == (6 : Int) then (1 : Int)
      else bif x3 == (7 : Int) then impl_length_impl_Term_0 x4 else bif x3 == (9 : Int) then x2 else (0 : Int)

def F_loop_example_g00916_impl_Code_many : List SV → List Entry → Option Out
  | [.one ⟨true, [.val (.int .i64 x0), .val (.int .i64 x1), .val (.int .i64 x2), .ref 0, .ref 1]⟩, .one ⟨false, [.val (.int .i64 x3)]⟩], [.row false 31 (.pair (.int .i64) (.pair (.str) (.int .i64))) x4, .row false 144 (.pair (.int .i64) (.int .i64)) x5] => some ⟨(.one ⟨false, [(.val (.int IntKind.i64 (loop_example_g00916_impl_Code_many_0 x0 x1 x2 x3 x4)))]⟩), [(.row false 31 (CTy.pair (CTy.int IntKind.i64) (CTy.pair CTy.str (CTy.int IntKind.i64))) x4), (.row false 144 (CTy.pair (CTy.int IntKind.i64) (CTy.int IntKind.i64)) x5)], [], []⟩
  | _, _ => none

def p_loop_example_g00916_impl_Code_many : PF Tryd.prog := PF.ofG Tryd.prog [p_impl_length_impl_Term, PF.lend p_impl_length_impl_Term, PF.fz p_impl_length_impl_Term] [] hmix 156 Tryd.f156 Tryd.func156 (fun c _ => LOk.nil c) F_loop_example_g00916_impl_Code_many (by
  intro vs es r h; unfold F_loop_example_g00916_impl_Code_many at h; split at h
  · cases h; kernel_rfl
  · cases h)

def impl_arguments_0 (x0 : Int) : Int :=
  bif bif x0 == (1 : Int) then x0 == (1 : Int) else bif x0 == (2 : Int) then x0 == (2 : Int) else x0 == (3 : Int) then (0 : Int)
  else
  bif
      bif x0 == (4 : Int) then x0 == (4 : Int)
      else bif x0 == (7 : Int) then x0 == (7 : Int) else bif x0 == (8 : Int) then x0 == (8 : Int) else x0 == (9 : Int) then
    (1 : Int)
  else (2 : Int)

def F_impl_arguments : List SV → List Entry → Option Out
  | [.one ⟨false, [.val (.int .i64 x0)]⟩], [] => some ⟨(.one ⟨false, [(.val (.int IntKind.i64 (impl_arguments_0 x0)))]⟩), [], [], []⟩
  | _, _ => none

def p_impl_arguments : PF Tryd.prog := PF.ofG Tryd.prog [] [] hmix 103 Tryd.f103 Tryd.func103 (fun c _ => LOk.nil c) F_impl_arguments (by
  intro vs es r h; unfold F_impl_arguments at h; split at h
  · cases h; kernel_rfl
  · cases h)

def loop_example_g00916_impl_Code_effect_a0 (x3 : Int) : Bool :=
  bif x3 == (1 : Int) then x3 == (1 : Int) else bif x3 == (2 : Int) then x3 == (2 : Int) else x3 == (3 : Int)

def loop_example_g00916_impl_Code_effect_a1 (x3 : Int) : Bool :=
  bif x3 == (5 : Int) then x3 == (5 : Int) else x3 == (6 : Int)

def loop_example_g00916_impl_Code_effect_a2 (x3 : Int) : Bool :=
  bif x3 == (8 : Int) then x3 == (8 : Int) else x3 == (9 : Int)

def loop_example_g00916_impl_Code_effect_0 (x3 : Int) (x4 : Int) (x5 : List (Int × ByteArray × Int)) : Int :=
  bif loop_example_g00916_impl_Code_effect_a0 x3 then (0 : Int)
  else
  bif x3 == (4 : Int) then (1 : Int)
  else
    bif loop_example_g00916_impl_Code_effect_a1 x3 then (2 : Int)
    else
      bif x3 == (7 : Int) then impl_arguments_0 (Prod.fst (Option.getD x5[Int.toNat x4]? ((0 : Int), ByteArray.empty, (0 : Int))))
      else bif loop_example_g00916_impl_Code_effect_a2 x3 then (1 : Int) else (0 : Int)

def loop_example_g00916_impl_Code_effect_1 (x3 : Int) : Int :=
  bif loop_example_g00916_impl_Code_effect_a0 x3 then (1 : Int)
  else
  bif x3 == (4 : Int) then (1 : Int)
  else
    bif loop_example_g00916_impl_Code_effect_a1 x3 then (1 : Int)
    else bif x3 == (7 : Int) then (1 : Int) else bif loop_example_g00916_impl_Code_effect_a2 x3 then (0 : Int) else (0 : Int)

def loop_example_g00916_impl_Code_effect_2 (x3 : Int) (x4 : Int) (x5 : List (Int × ByteArray × Int)) : Bool :=
  allT
  [loop_example_g00916_impl_Code_effect_a0 x3 ||
      (x3 == (4 : Int) || (loop_example_g00916_impl_Code_effect_a1 x3 || (!x3 == (7 : Int) || leI (0 : Int) x4))),
    loop_example_g00916_impl_Code_effect_a0 x3 ||
      (x3 == (4 : Int) || (loop_example_g00916_impl_Code_effect_a1 x3 || (!x3 == (7 : Int) || ltI x4 (↑(List.length x5) : Int)))),
    loop_example_g00916_impl_Code_effect_a0 x3 ||
      (x3 == (4 : Int) || (loop_example_g00916_impl_Code_effect_a1 x3 || (!x3 == (7 : Int) || ltN (Int.toNat x4) (List.length x5))))]

def F_loop_example_g00916_impl_Code_effect : List SV → List Entry → Option Out
  | [.one ⟨true, [.val (.int .i64 _x0), .val (.int .i64 _x1), .val (.int .i64 _x2), .ref 0, .ref 1]⟩, .one ⟨true, [.val (.int .i64 x3), .val (.int .i64 x4)]⟩], [.row false 31 (.pair (.int .i64) (.pair (.str) (.int .i64))) x5, .row false 144 (.pair (.int .i64) (.int .i64)) x6] => some ⟨(.tup [⟨false, [(.val (.int IntKind.i64 (loop_example_g00916_impl_Code_effect_0 x3 x4 x5)))]⟩, ⟨false, [(.val (.int IntKind.i64 (loop_example_g00916_impl_Code_effect_1 x3)))]⟩]), [(.row false 31 (CTy.pair (CTy.int IntKind.i64) (CTy.pair CTy.str (CTy.int IntKind.i64))) x5), (.row false 144 (CTy.pair (CTy.int IntKind.i64) (CTy.int IntKind.i64)) x6)], [], [(loop_example_g00916_impl_Code_effect_2 x3 x4 x5)]⟩
  | _, _ => none

def p_loop_example_g00916_impl_Code_effect : PF Tryd.prog := PF.ofG Tryd.prog [p_impl_arguments] [] hmix 157 Tryd.f157 Tryd.func157 (fun c _ => LOk.nil c) F_loop_example_g00916_impl_Code_effect (by
  intro vs es r h; unfold F_loop_example_g00916_impl_Code_effect at h; split at h
  · cases h; kernel_rfl
  · cases h)

abbrev X_loop_example_g00916_impl_Code_heights_l0 := Int × Int × Int × List (Int × Int) × Int × Int × Int × List Int × List (Int × (ByteArray × Int))

def loop_example_g00916_impl_Code_heights_l0_a0 (y0 : Int) (y3 : List (Int × Int)) : Int × Int :=
  Option.getD y3[Int.toNat y0]? ((0 : Int), (0 : Int))

def loop_example_g00916_impl_Code_heights_l0_a1 (y0 : Int) (y3 : List (Int × Int)) (y8 : List (Int × (ByteArray × Int))) : Int :=
  loop_example_g00916_impl_Code_effect_0 (Prod.fst (loop_example_g00916_impl_Code_heights_l0_a0 y0 y3))
  (Prod.snd (loop_example_g00916_impl_Code_heights_l0_a0 y0 y3)) y8

def loop_example_g00916_impl_Code_heights_l0_a2 (y0 : Int) (y2 : Int) (y3 : List (Int × Int)) (y8 : List (Int × (ByteArray × Int))) : Int :=
  IntKind.wrap IntKind.i64
  (y2 +
    IntKind.wrap IntKind.i64
      (loop_example_g00916_impl_Code_effect_1 (Prod.fst (loop_example_g00916_impl_Code_heights_l0_a0 y0 y3)) -
        loop_example_g00916_impl_Code_heights_l0_a1 y0 y3 y8))

def loop_example_g00916_impl_Code_heights_l0_0 (y0 : Int) (y1 : Int) : Bool :=
  ltI y0 y1

def loop_example_g00916_impl_Code_heights_l0_1 (y0 : Int) : Bool :=
  leI (0 : Int) y0

def loop_example_g00916_impl_Code_heights_l0_2 (y0 : Int) (y3 : List (Int × Int)) : Bool :=
  ltI y0 (↑(List.length y3) : Int)

def loop_example_g00916_impl_Code_heights_l0_3 (y0 : Int) (y3 : List (Int × Int)) : Bool :=
  ltN (Int.toNat y0) (List.length y3)

def loop_example_g00916_impl_Code_heights_l0_4 (y0 : Int) (y3 : List (Int × Int)) (y4 : Int) (y5 : Int) (y6 : Int) (y8 : List (Int × (ByteArray × Int))) : Bool :=
  bif ltI (Prod.snd (loop_example_g00916_impl_Code_heights_l0_a0 y0 y3)) (0 : Int) then true
  else
  leI (loop_example_g00916_impl_Code_many_0 y4 y5 y6 (Prod.fst (loop_example_g00916_impl_Code_heights_l0_a0 y0 y3)) y8)
    (Prod.snd (loop_example_g00916_impl_Code_heights_l0_a0 y0 y3))

def loop_example_g00916_impl_Code_heights_l0_5 (y0 : Int) (y3 : List (Int × Int)) (y8 : List (Int × (ByteArray × Int))) : Bool :=
  loop_example_g00916_impl_Code_effect_2 (Prod.fst (loop_example_g00916_impl_Code_heights_l0_a0 y0 y3))
  (Prod.snd (loop_example_g00916_impl_Code_heights_l0_a0 y0 y3)) y8

def loop_example_g00916_impl_Code_heights_l0_6 (y0 : Int) (y2 : Int) (y3 : List (Int × Int)) (y8 : List (Int × (ByteArray × Int))) : Bool :=
  ltI y2 (loop_example_g00916_impl_Code_heights_l0_a1 y0 y3 y8)

def loop_example_g00916_impl_Code_heights_l0_7 (y0 : Int) (y2 : Int) (y3 : List (Int × Int)) (y8 : List (Int × (ByteArray × Int))) : Bool :=
  ltI (40 : Int) (loop_example_g00916_impl_Code_heights_l0_a2 y0 y2 y3 y8)

def loop_example_g00916_impl_Code_heights_l0_8 (y0 : Int) (y2 : Int) (y3 : List (Int × Int)) (y7 : List Int) (y8 : List (Int × (ByteArray × Int))) : Bool :=
  leN (List.length y7 + List.length [loop_example_g00916_impl_Code_heights_l0_a2 y0 y2 y3 y8]) (9223372036854775807 : Nat)

def loop_example_g00916_impl_Code_heights_l0_9 (y0 : Int) (y2 : Int) (y3 : List (Int × Int)) (y7 : List Int) (y8 : List (Int × (ByteArray × Int))) : Bool :=
  leN ((List.length y7 + List.length [loop_example_g00916_impl_Code_heights_l0_a2 y0 y2 y3 y8]) * (8 : Nat)) (140737488355328 : Nat)

def loop_example_g00916_impl_Code_heights_l0_10 (y0 : Int) : Int :=
  IntKind.wrap IntKind.i64 (y0 + (1 : Int))

def loop_example_g00916_impl_Code_heights_l0_11 (y0 : Int) (y2 : Int) (y3 : List (Int × Int)) (y8 : List (Int × (ByteArray × Int))) : Int :=
  loop_example_g00916_impl_Code_heights_l0_a2 y0 y2 y3 y8

def loop_example_g00916_impl_Code_heights_l0_12 (y0 : Int) (y2 : Int) (y3 : List (Int × Int)) (y7 : List Int) (y8 : List (Int × (ByteArray × Int))) : List Int :=
  y7 ++ [loop_example_g00916_impl_Code_heights_l0_a2 y0 y2 y3 y8]

def JL_loop_example_g00916_impl_Code_heights_l0 : X_loop_example_g00916_impl_Code_heights_l0 → List (Nat × SV)
  | (y0, y1, y2, _, _, _, _, _, _) => [(13, (.one ⟨false, [(.val (.int IntKind.i64 y0))]⟩)), (12, (.one ⟨false, [(.val (.int IntKind.i64 y1))]⟩)), (11, (.one ⟨false, [(.ref 0)]⟩)), (1, (.one ⟨false, [(.ptr 1 0)]⟩)), (5, (.one ⟨false, [(.val (.int IntKind.i64 y2))]⟩)), (4, (.one ⟨false, [(.ref 2)]⟩))]

def JE_loop_example_g00916_impl_Code_heights_l0 : X_loop_example_g00916_impl_Code_heights_l0 → List (Nat × Entry)
  | (_, _, _, y3, y4, y5, y6, y7, y8) => [(0, (.row false 144 (CTy.pair (CTy.int IntKind.i64) (CTy.int IntKind.i64)) y3)), (1, (.box 79 [(.val (.int IntKind.i64 y4)), (.val (.int IntKind.i64 y5)), (.val (.int IntKind.i64 y6)), (.ref 3), (.ref 0)])), (3, (.row false 31 (CTy.pair (CTy.int IntKind.i64) (CTy.pair CTy.str (CTy.int IntKind.i64))) y8)), (2, (.row true 2 (CTy.int IntKind.i64) y7))]

def XL_loop_example_g00916_impl_Code_heights_l0 : Nat → X_loop_example_g00916_impl_Code_heights_l0 → List (Nat × SV)
  | 0, (_, _, _, _, _, _, _, _, _) => [(2, (.one ⟨false, [(.ref 4)]⟩)), (3, (.one ⟨false, [(.val (.bool false))]⟩))]
  | 1, (_, _, _, _, _, _, _, _, _) => [(2, (.one ⟨false, [(.ref 4)]⟩)), (3, (.one ⟨false, [(.val (.bool false))]⟩))]
  | 2, (_, _, _, _, _, _, _, _, _) => [(2, (.one ⟨false, [(.ref 4)]⟩)), (3, (.one ⟨false, [(.val (.bool false))]⟩))]
  | _, (_, _, y2, _, _, _, _, _, _) => [(5, (.one ⟨false, [(.val (.int IntKind.i64 y2))]⟩)), (4, (.one ⟨false, [(.ref 2)]⟩))]

def XE_loop_example_g00916_impl_Code_heights_l0 : Nat → X_loop_example_g00916_impl_Code_heights_l0 → List (Nat × Entry)
  | 0, (_, _, _, y3, y4, y5, y6, y7, y8) => [(0, (.row false 144 (CTy.pair (CTy.int IntKind.i64) (CTy.int IntKind.i64)) y3)), (1, (.box 79 [(.val (.int IntKind.i64 y4)), (.val (.int IntKind.i64 y5)), (.val (.int IntKind.i64 y6)), (.ref 3), (.ref 0)])), (2, (.row true 2 (CTy.int IntKind.i64) y7)), (3, (.row false 31 (CTy.pair (CTy.int IntKind.i64) (CTy.pair CTy.str (CTy.int IntKind.i64))) y8)), (4, (.row true 2 (CTy.int IntKind.i64) []))]
  | 1, (_, _, _, y3, y4, y5, y6, y7, y8) => [(0, (.row false 144 (CTy.pair (CTy.int IntKind.i64) (CTy.int IntKind.i64)) y3)), (1, (.box 79 [(.val (.int IntKind.i64 y4)), (.val (.int IntKind.i64 y5)), (.val (.int IntKind.i64 y6)), (.ref 3), (.ref 0)])), (2, (.row true 2 (CTy.int IntKind.i64) y7)), (3, (.row false 31 (CTy.pair (CTy.int IntKind.i64) (CTy.pair CTy.str (CTy.int IntKind.i64))) y8)), (4, (.row true 2 (CTy.int IntKind.i64) []))]
  | 2, (_, _, _, y3, y4, y5, y6, y7, y8) => [(0, (.row false 144 (CTy.pair (CTy.int IntKind.i64) (CTy.int IntKind.i64)) y3)), (1, (.box 79 [(.val (.int IntKind.i64 y4)), (.val (.int IntKind.i64 y5)), (.val (.int IntKind.i64 y6)), (.ref 3), (.ref 0)])), (2, (.row true 2 (CTy.int IntKind.i64) y7)), (3, (.row false 31 (CTy.pair (CTy.int IntKind.i64) (CTy.pair CTy.str (CTy.int IntKind.i64))) y8)), (4, (.row true 2 (CTy.int IntKind.i64) []))]
  | _, (_, _, _, y3, y4, y5, y6, y7, y8) => [(0, (.row false 144 (CTy.pair (CTy.int IntKind.i64) (CTy.int IntKind.i64)) y3)), (1, (.box 79 [(.val (.int IntKind.i64 y4)), (.val (.int IntKind.i64 y5)), (.val (.int IntKind.i64 y6)), (.ref 3), (.ref 0)])), (2, (.row true 2 (CTy.int IntKind.i64) y7)), (3, (.row false 31 (CTy.pair (CTy.int IntKind.i64) (CTy.pair CTy.str (CTy.int IntKind.i64))) y8))]

def lt_loop_example_g00916_impl_Code_heights_l0 : X_loop_example_g00916_impl_Code_heights_l0 → LT X_loop_example_g00916_impl_Code_heights_l0
  | (y0, y1, y2, y3, y4, y5, y6, y7, y8) => .ite (loop_example_g00916_impl_Code_heights_l0_0 y0 y1) (.need [(loop_example_g00916_impl_Code_heights_l0_1 y0), (loop_example_g00916_impl_Code_heights_l0_2 y0 y3), (loop_example_g00916_impl_Code_heights_l0_3 y0 y3)] (.ite (loop_example_g00916_impl_Code_heights_l0_4 y0 y3 y4 y5 y6 y8) (.ext 0 [(0, 0), (1, 1), (2, 2), (3, 3), (4, 1152)]) (.need [(loop_example_g00916_impl_Code_heights_l0_5 y0 y3 y8)] (.ite (loop_example_g00916_impl_Code_heights_l0_6 y0 y2 y3 y8) (.ext 1 [(0, 0), (1, 1), (2, 2), (3, 3), (4, 1856)]) (.ite (loop_example_g00916_impl_Code_heights_l0_7 y0 y2 y3 y8) (.ext 2 [(0, 0), (1, 1), (2, 2), (3, 3), (4, 2368)]) (.need [(loop_example_g00916_impl_Code_heights_l0_8 y0 y2 y3 y7 y8), (loop_example_g00916_impl_Code_heights_l0_9 y0 y2 y3 y7 y8)] (.nrm ((loop_example_g00916_impl_Code_heights_l0_10 y0), y1, (loop_example_g00916_impl_Code_heights_l0_11 y0 y2 y3 y8), y3, y4, y5, y6, (loop_example_g00916_impl_Code_heights_l0_12 y0 y2 y3 y7 y8), y8) [(0, 0), (1, 1), (2, 2560), (3, 3)]))))))) (.ext 3 [(0, 0), (1, 1), (2, 2), (3, 3)])

def rd_loop_example_g00916_impl_Code_heights_l0 (s : St) : Option X_loop_example_g00916_impl_Code_heights_l0 :=
  (match s.look 13 with
  | some ⟨none, (.one ⟨false, [(.val (.int IntKind.i64 y0))]⟩)⟩ =>
  (match s.look 12 with
  | some ⟨none, (.one ⟨false, [(.val (.int IntKind.i64 y1))]⟩)⟩ =>
  (match s.look 11 with
  | some ⟨none, (.one ⟨false, [(.ref 1)]⟩)⟩ =>
  (match s.look 1 with
  | some ⟨none, (.one ⟨false, [(.ptr 192 0)]⟩)⟩ =>
  (match s.look 5 with
  | some ⟨none, (.one ⟨false, [(.val (.int IntKind.i64 y2))]⟩)⟩ =>
  (match s.look 4 with
  | some ⟨none, (.one ⟨false, [(.ref 384)]⟩)⟩ =>
  (match s.ent 1 with
  | some (.row false 144 (CTy.pair (CTy.int IntKind.i64) (CTy.int IntKind.i64)) y3) =>
  (match s.ent 192 with
  | some (.box 79 [(.val (.int IntKind.i64 y4)), (.val (.int IntKind.i64 y5)), (.val (.int IntKind.i64 y6)), (.ref 0), (.ref 1)]) =>
  (match s.ent 0 with
  | some (.row false 31 (CTy.pair (CTy.int IntKind.i64) (CTy.pair CTy.str (CTy.int IntKind.i64))) y8) =>
  (match s.ent 384 with
  | some (.row true 2 (CTy.int IntKind.i64) y7) =>
  some (y0, y1, y2, y3, y4, y5, y6, y7, y8)
  | _ => none)
  | _ => none)
  | _ => none)
  | _ => none)
  | _ => none)
  | _ => none)
  | _ => none)
  | _ => none)
  | _ => none)
  | _ => none)

def lp_loop_example_g00916_impl_Code_heights_l0 : Lp X_loop_example_g00916_impl_Code_heights_l0 where
  h := ⟨[14, 15, 16, 7, 17, 18, 19, 20, 21, 22, 23, 24, 25, 26, 27, 28, 2, 3, 30, 31, 32, 29, 33, 34, 8, 9, 35, 36, 37, 38, 39, 40, 41, 42, 5, 43, 44, 45, 46, 47, 48, 4, 49, 13], [0, 1, 3], [2], [4]⟩
  JL := JL_loop_example_g00916_impl_Code_heights_l0
  JE := JE_loop_example_g00916_impl_Code_heights_l0
  XL := XL_loop_example_g00916_impl_Code_heights_l0
  XE := XE_loop_example_g00916_impl_Code_heights_l0
  q := fun j => match j with | 0 => .ret | 1 => .ret | 2 => .ret | _ => .exit 0
  tags := [0, 1, 2, 3]
  lt := lt_loop_example_g00916_impl_Code_heights_l0
  fuel := fun (y0, y1, y2, y3, y4, y5, y6, y7, y8) => y0.natAbs + y1.natAbs + y2.natAbs + y3.length + y4.natAbs + y5.natAbs + y6.natAbs + y7.length + y8.length
  fix := fun (_, y1, _, y3, y4, y5, y6, _, y8) (y0, _, y2, _, _, _, _, y7, _) => (y0, y1, y2, y3, y4, y5, y6, y7, y8)
  σ := [(0, 1), (1, 192), (3, 0), (2, 384)]
  rd := rd_loop_example_g00916_impl_Code_heights_l0

theorem lpok_loop_example_g00916_impl_Code_heights_l0 : LoopOk Tryd.prog (fun k => Nat.blt k Tryd.f140.ntmps) lp_loop_example_g00916_impl_Code_heights_l0.F (loopAt Tryd.f140 0) := by
  refine Lp.ok (tbl := [p_loop_example_g00916_impl_Code_many, PF.lend p_loop_example_g00916_impl_Code_many, PF.fz p_loop_example_g00916_impl_Code_many, p_loop_example_g00916_impl_Code_effect, PF.lend p_loop_example_g00916_impl_Code_effect, PF.fz p_loop_example_g00916_impl_Code_effect]) (lf := []) hmix lp_loop_example_g00916_impl_Code_heights_l0 (by kernel_rfl) (LOk.nil _) (fun _ => rfl) (fun j _ => by unfold lp_loop_example_g00916_impl_Code_heights_l0; match j with | 0 => rfl | 1 => rfl | 2 => rfl | _ + 3 => rfl) ?_ ?_ ?_ ?_ (fun _ => rfl) ?_
  · intro x; obtain ⟨y0, y1, y2, y3, y4, y5, y6, y7, y8⟩ := x; kernel_rfl
  · intro x; obtain ⟨y0, y1, y2, y3, y4, y5, y6, y7, y8⟩ := x; kernel_rfl
  · intro s x h
    have h : rd_loop_example_g00916_impl_Code_heights_l0 s = some x := h
    unfold rd_loop_example_g00916_impl_Code_heights_l0 at h
    repeat' split at h
    all_goals cases h
    exact ⟨absS_cons (by assumption) rfl (absS_cons (by assumption) rfl (absS_cons (by assumption) rfl (absS_cons (by assumption) rfl (absS_cons (by assumption) rfl (absS_cons (by assumption) rfl (rfl)))))), absE_cons rfl (by assumption) rfl (absE_cons rfl (by assumption) rfl (absE_cons rfl (by assumption) rfl (absE_cons rfl (by assumption) rfl (rfl))))⟩
  · intro x; obtain ⟨y0, y1, y2, y3, y4, y5, y6, y7, y8⟩ := x; kernel_rfl
  · intro x z; obtain ⟨y0, y1, y2, y3, y4, y5, y6, y7, y8⟩ := x; exact (And.intro (And.intro trivial (And.intro trivial (And.intro trivial rfl))) trivial)

def loop_example_g00916_impl_Code_heights_a0 (x0 : Int) (x1 : Int) (x2 : Int) (x3 : List (Int × ByteArray × Int)) (x4 : List (Int × Int)) : Int × Int × Int × List (Int × Int) × Int × Int × Int × List Int × List (Int × ByteArray × Int) :=
  ((0 : Int), (↑(List.length x4) : Int), (0 : Int), x4, x0, x1, x2, [], x3)

def loop_example_g00916_impl_Code_heights_a1 (x0 : Int) (x1 : Int) (x2 : Int) (x3 : List (Int × ByteArray × Int)) (x4 : List (Int × Int)) : Bool :=
  Nat.beq (Prod.fst (Lp.res lp_loop_example_g00916_impl_Code_heights_l0 (loop_example_g00916_impl_Code_heights_a0 x0 x1 x2 x3 x4))) (0 : Nat)

def loop_example_g00916_impl_Code_heights_a2 (x0 : Int) (x1 : Int) (x2 : Int) (x3 : List (Int × ByteArray × Int)) (x4 : List (Int × Int)) : Bool :=
  Nat.beq (Prod.fst (Lp.res lp_loop_example_g00916_impl_Code_heights_l0 (loop_example_g00916_impl_Code_heights_a0 x0 x1 x2 x3 x4))) (1 : Nat)

def loop_example_g00916_impl_Code_heights_a3 (x0 : Int) (x1 : Int) (x2 : Int) (x3 : List (Int × ByteArray × Int)) (x4 : List (Int × Int)) : Bool :=
  Nat.beq (Prod.fst (Lp.res lp_loop_example_g00916_impl_Code_heights_l0 (loop_example_g00916_impl_Code_heights_a0 x0 x1 x2 x3 x4))) (2 : Nat)

def loop_example_g00916_impl_Code_heights_a4 (x0 : Int) (x1 : Int) (x2 : Int) (x3 : List (Int × ByteArray × Int)) (x4 : List (Int × Int)) : Int × List (Int × Int) × Int × Int × Int × List Int × List (Int × ByteArray × Int) :=
  Prod.snd (Prod.snd (Prod.snd (Lp.res lp_loop_example_g00916_impl_Code_heights_l0 (loop_example_g00916_impl_Code_heights_a0 x0 x1 x2 x3 x4))))

def loop_example_g00916_impl_Code_heights_0 (x0 : Int) (x1 : Int) (x2 : Int) (x3 : List (Int × ByteArray × Int)) (x4 : List (Int × Int)) : Bool :=
  bif loop_example_g00916_impl_Code_heights_a1 x0 x1 x2 x3 x4 then false
  else
  bif loop_example_g00916_impl_Code_heights_a2 x0 x1 x2 x3 x4 then false
  else
    bif loop_example_g00916_impl_Code_heights_a3 x0 x1 x2 x3 x4 then false
    else Prod.fst (loop_example_g00916_impl_Code_heights_a4 x0 x1 x2 x3 x4) == (0 : Int)

def loop_example_g00916_impl_Code_heights_1 (x0 : Int) (x1 : Int) (x2 : Int) (x3 : List (Int × ByteArray × Int)) (x4 : List (Int × Int)) : List Int :=
  bif loop_example_g00916_impl_Code_heights_a1 x0 x1 x2 x3 x4 then []
  else
  bif loop_example_g00916_impl_Code_heights_a2 x0 x1 x2 x3 x4 then []
  else
    bif loop_example_g00916_impl_Code_heights_a3 x0 x1 x2 x3 x4 then []
    else Prod.fst (Prod.snd (Prod.snd (Prod.snd (Prod.snd (Prod.snd (loop_example_g00916_impl_Code_heights_a4 x0 x1 x2 x3 x4))))))

def loop_example_g00916_impl_Code_heights_2 (x0 : Int) (x1 : Int) (x2 : Int) (x3 : List (Int × ByteArray × Int)) (x4 : List (Int × Int)) : Bool :=
  allT [Lp.fin lp_loop_example_g00916_impl_Code_heights_l0 (loop_example_g00916_impl_Code_heights_a0 x0 x1 x2 x3 x4)]

def F_loop_example_g00916_impl_Code_heights : List SV → List Entry → Option Out
  | [.one ⟨true, [.val (.int .i64 x0), .val (.int .i64 x1), .val (.int .i64 x2), .ref 0, .ref 1]⟩], [.row false 31 (.pair (.int .i64) (.pair (.str) (.int .i64))) x3, .row false 144 (.pair (.int .i64) (.int .i64)) x4] => some ⟨(.tup [⟨false, [(.ref 2)]⟩, ⟨false, [(.val (.bool (loop_example_g00916_impl_Code_heights_0 x0 x1 x2 x3 x4)))]⟩]), [(.row false 31 (CTy.pair (CTy.int IntKind.i64) (CTy.pair CTy.str (CTy.int IntKind.i64))) x3), (.row false 144 (CTy.pair (CTy.int IntKind.i64) (CTy.int IntKind.i64)) x4)], [(.row true 2 (CTy.int IntKind.i64) (loop_example_g00916_impl_Code_heights_1 x0 x1 x2 x3 x4))], [(loop_example_g00916_impl_Code_heights_2 x0 x1 x2 x3 x4)]⟩
  | _, _ => none

def p_loop_example_g00916_impl_Code_heights : PF Tryd.prog := PF.ofG Tryd.prog [p_loop_example_g00916_impl_Code_many, PF.lend p_loop_example_g00916_impl_Code_many, PF.fz p_loop_example_g00916_impl_Code_many, p_loop_example_g00916_impl_Code_effect, PF.lend p_loop_example_g00916_impl_Code_effect, PF.fz p_loop_example_g00916_impl_Code_effect] [lp_loop_example_g00916_impl_Code_heights_l0.F] hmix 140 Tryd.f140 Tryd.func140 (LOk.fnT (l := [loopAt Tryd.f140 0]) (by kernel_rfl) (.cons lpok_loop_example_g00916_impl_Code_heights_l0 (.nil _))) F_loop_example_g00916_impl_Code_heights (by
  intro vs es r h; unfold F_loop_example_g00916_impl_Code_heights at h; split at h
  · cases h; kernel_rfl
  · cases h)

def impl_IsCode_1_q4002_0 (x0 : Int) (x1 : ByteArray) (x2 : Int) : Bool :=
  !blockB x0 x1 x2

def F_impl_IsCode_1_q4002 : List SV → List Entry → Option Out
  | [(.one ⟨true, [(.val (.int IntKind.i64 x0)), (.val (.string x1)), (.val (.int IntKind.i64 x2))]⟩)], [] => some ⟨(.one ⟨false, [(.val (.bool (impl_IsCode_1_q4002_0 x0 x1 x2)))]⟩), [], [], []⟩
  | _, _ => none

def p_impl_IsCode_1_q4002 : PF Tryd.prog := PF.ofG Tryd.prog [n_impl_IsBlock] [] hmix 139 Tryd.f139 Tryd.func139 (fun c _ => LOk.nil c) F_impl_IsCode_1_q4002 (by
  intro vs es r h; unfold F_impl_IsCode_1_q4002 at h; split at h
  · cases h; kernel_rfl
  · cases h)

abbrev X_slices_IndexFunc_impl_Term_q4001_l0 := Int × Int × List (Int × (ByteArray × Int))

def slices_IndexFunc_impl_Term_q4001_l0_a0 (y0 : Int) (y2 : List (Int × (ByteArray × Int))) : Int × ByteArray × Int :=
  Option.getD y2[Int.toNat y0]? ((0 : Int), ByteArray.empty, (0 : Int))

def slices_IndexFunc_impl_Term_q4001_l0_0 (y0 : Int) (y1 : Int) : Bool :=
  ltI y0 y1

def slices_IndexFunc_impl_Term_q4001_l0_1 (y0 : Int) : Bool :=
  leI (0 : Int) y0

def slices_IndexFunc_impl_Term_q4001_l0_2 (y0 : Int) (y2 : List (Int × (ByteArray × Int))) : Bool :=
  ltI y0 (↑(List.length y2) : Int)

def slices_IndexFunc_impl_Term_q4001_l0_3 (y0 : Int) (y2 : List (Int × (ByteArray × Int))) : Bool :=
  ltN (Int.toNat y0) (List.length y2)

def slices_IndexFunc_impl_Term_q4001_l0_4 (y0 : Int) (y2 : List (Int × (ByteArray × Int))) : Bool :=
  impl_IsCode_1_q4002_0 (Prod.fst (slices_IndexFunc_impl_Term_q4001_l0_a0 y0 y2)) (Prod.fst (Prod.snd (slices_IndexFunc_impl_Term_q4001_l0_a0 y0 y2)))
  (Prod.snd (Prod.snd (slices_IndexFunc_impl_Term_q4001_l0_a0 y0 y2)))

def slices_IndexFunc_impl_Term_q4001_l0_5 (y0 : Int) : Int :=
  IntKind.wrap IntKind.i64 (y0 + (1 : Int))

def JL_slices_IndexFunc_impl_Term_q4001_l0 : X_slices_IndexFunc_impl_Term_q4001_l0 → List (Nat × SV)
  | (y0, y1, _) => [(8, (.one ⟨false, [(.val (.int IntKind.i64 y0))]⟩)), (7, (.one ⟨false, [(.val (.int IntKind.i64 y1))]⟩)), (1, (.one ⟨false, [(.val (.func (.func 139) ⟨[]⟩ ⟨[]⟩))]⟩)), (0, (.one ⟨false, [(.ref 0)]⟩))]

def JE_slices_IndexFunc_impl_Term_q4001_l0 : X_slices_IndexFunc_impl_Term_q4001_l0 → List (Nat × Entry)
  | (_, _, y2) => [(0, (.row false 31 (CTy.pair (CTy.int IntKind.i64) (CTy.pair CTy.str (CTy.int IntKind.i64))) y2))]

def XL_slices_IndexFunc_impl_Term_q4001_l0 : Nat → X_slices_IndexFunc_impl_Term_q4001_l0 → List (Nat × SV)
  | 0, (y0, _, _) => [(4, (.one ⟨false, [(.val (.int IntKind.i64 y0))]⟩))]
  | _, (_, _, _) => []

def XE_slices_IndexFunc_impl_Term_q4001_l0 : Nat → X_slices_IndexFunc_impl_Term_q4001_l0 → List (Nat × Entry)
  | 0, (_, _, y2) => [(0, (.row false 31 (CTy.pair (CTy.int IntKind.i64) (CTy.pair CTy.str (CTy.int IntKind.i64))) y2))]
  | _, (_, _, y2) => [(0, (.row false 31 (CTy.pair (CTy.int IntKind.i64) (CTy.pair CTy.str (CTy.int IntKind.i64))) y2))]

def lt_slices_IndexFunc_impl_Term_q4001_l0 : X_slices_IndexFunc_impl_Term_q4001_l0 → LT X_slices_IndexFunc_impl_Term_q4001_l0
  | (y0, y1, y2) => .ite (slices_IndexFunc_impl_Term_q4001_l0_0 y0 y1) (.need [(slices_IndexFunc_impl_Term_q4001_l0_1 y0), (slices_IndexFunc_impl_Term_q4001_l0_2 y0 y2), (slices_IndexFunc_impl_Term_q4001_l0_3 y0 y2)] (.ite (slices_IndexFunc_impl_Term_q4001_l0_4 y0 y2) (.ext 0 [(0, 0)]) (.nrm ((slices_IndexFunc_impl_Term_q4001_l0_5 y0), y1, y2) [(0, 0)]))) (.ext 1 [(0, 0)])

def rd_slices_IndexFunc_impl_Term_q4001_l0 (s : St) : Option X_slices_IndexFunc_impl_Term_q4001_l0 :=
  (match s.look 8 with
  | some ⟨none, (.one ⟨false, [(.val (.int IntKind.i64 y0))]⟩)⟩ =>
  (match s.look 7 with
  | some ⟨none, (.one ⟨false, [(.val (.int IntKind.i64 y1))]⟩)⟩ =>
  (match s.look 1 with
  | some ⟨none, (.one ⟨false, [(.val (.func (.func 139) ⟨[]⟩ ⟨[]⟩))]⟩)⟩ =>
  (match s.look 0 with
  | some ⟨none, (.one ⟨false, [(.ref 0)]⟩)⟩ =>
  (match s.ent 0 with
  | some (.row false 31 (CTy.pair (CTy.int IntKind.i64) (CTy.pair CTy.str (CTy.int IntKind.i64))) y2) =>
  some (y0, y1, y2)
  | _ => none)
  | _ => none)
  | _ => none)
  | _ => none)
  | _ => none)

def lp_slices_IndexFunc_impl_Term_q4001_l0 : Lp X_slices_IndexFunc_impl_Term_q4001_l0 where
  h := ⟨[9, 10, 5, 11, 12, 13, 14, 15, 16, 17, 4, 18, 8], [0], [], []⟩
  JL := JL_slices_IndexFunc_impl_Term_q4001_l0
  JE := JE_slices_IndexFunc_impl_Term_q4001_l0
  XL := XL_slices_IndexFunc_impl_Term_q4001_l0
  XE := XE_slices_IndexFunc_impl_Term_q4001_l0
  q := fun j => match j with | 0 => .ret | _ => .exit 0
  tags := [0, 1]
  lt := lt_slices_IndexFunc_impl_Term_q4001_l0
  fuel := fun (y0, y1, y2) => y0.natAbs + y1.natAbs + y2.length
  fix := fun (_, y1, y2) (y0, _, _) => (y0, y1, y2)
  σ := [(0, 0)]
  rd := rd_slices_IndexFunc_impl_Term_q4001_l0

theorem lpok_slices_IndexFunc_impl_Term_q4001_l0 : LoopOk Tryd.prog (fun k => Nat.blt k Tryd.f155.ntmps) lp_slices_IndexFunc_impl_Term_q4001_l0.F (loopAt Tryd.f155 0) := by
  refine Lp.ok (tbl := [p_impl_IsCode_1_q4002]) (lf := []) hmix lp_slices_IndexFunc_impl_Term_q4001_l0 (by kernel_rfl) (LOk.nil _) (fun _ => rfl) (fun j _ => by unfold lp_slices_IndexFunc_impl_Term_q4001_l0; match j with | 0 => rfl | _ + 1 => rfl) ?_ ?_ ?_ ?_ (fun _ => rfl) ?_
  · intro x; obtain ⟨y0, y1, y2⟩ := x; kernel_rfl
  · intro x; obtain ⟨y0, y1, y2⟩ := x; kernel_rfl
  · intro s x h
    have h : rd_slices_IndexFunc_impl_Term_q4001_l0 s = some x := h
    unfold rd_slices_IndexFunc_impl_Term_q4001_l0 at h
    repeat' split at h
    all_goals cases h
    exact ⟨absS_cons (by assumption) rfl (absS_cons (by assumption) rfl (absS_cons (by assumption) rfl (absS_cons (by assumption) rfl (rfl)))), absE_cons rfl (by assumption) rfl (rfl)⟩
  · intro x; obtain ⟨y0, y1, y2⟩ := x; kernel_rfl
  · intro x z; obtain ⟨y0, y1, y2⟩ := x; exact (And.intro (And.intro trivial rfl) trivial)

def slices_IndexFunc_impl_Term_q4001_a0 (x0 : List (Int × ByteArray × Int)) : Int × Int × List (Int × ByteArray × Int) :=
  ((0 : Int), (↑(List.length x0) : Int), x0)

def slices_IndexFunc_impl_Term_q4001_0 (x0 : List (Int × ByteArray × Int)) : Int :=
  bif Nat.beq (Prod.fst (Lp.res lp_slices_IndexFunc_impl_Term_q4001_l0 (slices_IndexFunc_impl_Term_q4001_a0 x0))) (0 : Nat) then
  Prod.fst (Prod.snd (Lp.res lp_slices_IndexFunc_impl_Term_q4001_l0 (slices_IndexFunc_impl_Term_q4001_a0 x0)))
  else (-1 : Int)

def slices_IndexFunc_impl_Term_q4001_1 (x0 : List (Int × ByteArray × Int)) : Bool :=
  allT [Lp.fin lp_slices_IndexFunc_impl_Term_q4001_l0 (slices_IndexFunc_impl_Term_q4001_a0 x0)]

def F_slices_IndexFunc_impl_Term_q4001 : List SV → List Entry → Option Out
  | [(.one ⟨false, [(.ref 0)]⟩), (.one ⟨false, [(.val (.func (.func 139) ⟨[]⟩ ⟨[]⟩))]⟩)], [(.row false 31 (CTy.pair (CTy.int IntKind.i64) (CTy.pair CTy.str (CTy.int IntKind.i64))) x0)] => some ⟨(.one ⟨false, [(.val (.int IntKind.i64 (slices_IndexFunc_impl_Term_q4001_0 x0)))]⟩), [(.row false 31 (CTy.pair (CTy.int IntKind.i64) (CTy.pair CTy.str (CTy.int IntKind.i64))) x0)], [], [(slices_IndexFunc_impl_Term_q4001_1 x0)]⟩
  | _, _ => none

def p_slices_IndexFunc_impl_Term_q4001 : PF Tryd.prog := PF.ofG Tryd.prog [p_impl_IsCode_1_q4002] [lp_slices_IndexFunc_impl_Term_q4001_l0.F] hmix 155 Tryd.f155 Tryd.func155 (LOk.fnT (l := [loopAt Tryd.f155 0]) (by kernel_rfl) (.cons lpok_slices_IndexFunc_impl_Term_q4001_l0 (.nil _))) F_slices_IndexFunc_impl_Term_q4001 (by
  intro vs es r h; unfold F_slices_IndexFunc_impl_Term_q4001 at h; split at h
  · cases h; kernel_rfl
  · cases h)

def slices_ContainsFunc_impl_Term_q4000_0 (x0 : List (Int × ByteArray × Int)) : Bool :=
  leI (0 : Int) (slices_IndexFunc_impl_Term_q4001_0 x0)

def slices_ContainsFunc_impl_Term_q4000_1 (x0 : List (Int × ByteArray × Int)) : Bool :=
  allT [slices_IndexFunc_impl_Term_q4001_1 x0]

def F_slices_ContainsFunc_impl_Term_q4000 : List SV → List Entry → Option Out
  | [(.one ⟨false, [(.ref 0)]⟩), (.one ⟨false, [(.val (.func (.func 139) ⟨[]⟩ ⟨[]⟩))]⟩)], [(.row false 31 (CTy.pair (CTy.int IntKind.i64) (CTy.pair CTy.str (CTy.int IntKind.i64))) x0)] => some ⟨(.one ⟨false, [(.val (.bool (slices_ContainsFunc_impl_Term_q4000_0 x0)))]⟩), [(.row false 31 (CTy.pair (CTy.int IntKind.i64) (CTy.pair CTy.str (CTy.int IntKind.i64))) x0)], [], [(slices_ContainsFunc_impl_Term_q4000_1 x0)]⟩
  | _, _ => none

def p_slices_ContainsFunc_impl_Term_q4000 : PF Tryd.prog := PF.ofG Tryd.prog [p_slices_IndexFunc_impl_Term_q4001, PF.lend p_slices_IndexFunc_impl_Term_q4001, PF.fz p_slices_IndexFunc_impl_Term_q4001] [] hmix 138 Tryd.f138 Tryd.func138 (fun c _ => LOk.nil c) F_slices_ContainsFunc_impl_Term_q4000 (by
  intro vs es r h; unfold F_slices_ContainsFunc_impl_Term_q4000 at h; split at h
  · cases h; kernel_rfl
  · cases h)

def impl_IsCode_a0 (x0 : Int) (x1 : Int) (x2 : Int) (x3 : List (Int × ByteArray × Int)) (x4 : List (Int × Int)) : Bool :=
  bif
    bif
        bif bif !impl_within_0 x0 (0 : Int) (20 : Int) then true else !impl_within_0 x1 (0 : Int) (20 : Int) then true
        else !impl_within_0 x2 (0 : Int) (20 : Int) then
      true
    else ltI (2000 : Int) (↑(List.length x3) : Int) then
  true
  else ltI (2000 : Int) (↑(List.length x4) : Int)

def impl_IsCode_0 (x0 : Int) (x1 : Int) (x2 : Int) (x3 : List (Int × ByteArray × Int)) (x4 : List (Int × Int)) : Bool :=
  bif impl_IsCode_a0 x0 x1 x2 x3 x4 then false
  else bif slices_ContainsFunc_impl_Term_q4000_0 x3 then false else loop_example_g00916_impl_Code_heights_0 x0 x1 x2 x3 x4

def impl_IsCode_1 (x0 : Int) (x1 : Int) (x2 : Int) (x3 : List (Int × ByteArray × Int)) (x4 : List (Int × Int)) : Bool :=
  allT
  [impl_IsCode_a0 x0 x1 x2 x3 x4 || slices_ContainsFunc_impl_Term_q4000_1 x3,
    impl_IsCode_a0 x0 x1 x2 x3 x4 || (slices_ContainsFunc_impl_Term_q4000_0 x3 || loop_example_g00916_impl_Code_heights_2 x0 x1 x2 x3 x4)]

def F_impl_IsCode : List SV → List Entry → Option Out
  | [.one ⟨true, [.val (.int .i64 x0), .val (.int .i64 x1), .val (.int .i64 x2), .ref 0, .ref 1]⟩], [.row false 31 (.pair (.int .i64) (.pair (.str) (.int .i64))) x3, .row false 144 (.pair (.int .i64) (.int .i64)) x4] => some ⟨(.one ⟨false, [(.val (.bool (impl_IsCode_0 x0 x1 x2 x3 x4)))]⟩), [(.row false 31 (CTy.pair (CTy.int IntKind.i64) (CTy.pair CTy.str (CTy.int IntKind.i64))) x3), (.row false 144 (CTy.pair (CTy.int IntKind.i64) (CTy.int IntKind.i64)) x4)], [], [(impl_IsCode_1 x0 x1 x2 x3 x4)]⟩
  | _, _ => none

def p_impl_IsCode : PF Tryd.prog := PF.ofG Tryd.prog [p_impl_within, p_impl_IsCode_1, p_loop_example_g00916_impl_Code_heights, PF.lend p_loop_example_g00916_impl_Code_heights, PF.fz p_loop_example_g00916_impl_Code_heights, p_slices_ContainsFunc_impl_Term_q4000, PF.lend p_slices_ContainsFunc_impl_Term_q4000, PF.fz p_slices_ContainsFunc_impl_Term_q4000] [] hmix 118 Tryd.f118 Tryd.func118 (fun c _ => LOk.nil c) F_impl_IsCode (by
  intro vs es r h; unfold F_impl_IsCode at h; split at h
  · cases h; kernel_rfl
  · cases h)

abbrev X_loop_example_g00916_impl_Memory_suits_l0 := Int × Int × List (Int × (ByteArray × Int)) × List Int × List (Int × (Int × Int))

def loop_example_g00916_impl_Memory_suits_l0_a0 (y0 : Int) (y2 : List (Int × (ByteArray × Int))) : Int × ByteArray × Int :=
  Option.getD y2[Int.toNat y0]? ((0 : Int), ByteArray.empty, (0 : Int))

def loop_example_g00916_impl_Memory_suits_l0_a1 (y0 : Int) (y4 : List (Int × (Int × Int))) : Int × Int × Int :=
  Option.getD y4[Int.toNat y0]? ((0 : Int), (0 : Int), (0 : Int))

def loop_example_g00916_impl_Memory_suits_l0_0 (y0 : Int) (y1 : Int) : Bool :=
  ltI y0 y1

def loop_example_g00916_impl_Memory_suits_l0_1 (y0 : Int) : Bool :=
  leI (0 : Int) y0

def loop_example_g00916_impl_Memory_suits_l0_2 (y0 : Int) (y2 : List (Int × (ByteArray × Int))) : Bool :=
  ltI y0 (↑(List.length y2) : Int)

def loop_example_g00916_impl_Memory_suits_l0_3 (y0 : Int) (y2 : List (Int × (ByteArray × Int))) : Bool :=
  ltN (Int.toNat y0) (List.length y2)

def loop_example_g00916_impl_Memory_suits_l0_4 (y0 : Int) (y4 : List (Int × (Int × Int))) : Bool :=
  ltI y0 (↑(List.length y4) : Int)

def loop_example_g00916_impl_Memory_suits_l0_5 (y0 : Int) (y4 : List (Int × (Int × Int))) : Bool :=
  ltN (Int.toNat y0) (List.length y4)

def loop_example_g00916_impl_Memory_suits_l0_6 (y0 : Int) (y2 : List (Int × (ByteArray × Int))) (y4 : List (Int × (Int × Int))) : Bool :=
  !impl_isPossible_0 (Prod.fst (loop_example_g00916_impl_Memory_suits_l0_a0 y0 y2))
    (Prod.snd (Prod.snd (loop_example_g00916_impl_Memory_suits_l0_a0 y0 y2))) (Prod.fst (loop_example_g00916_impl_Memory_suits_l0_a1 y0 y4))
    (Prod.fst (Prod.snd (loop_example_g00916_impl_Memory_suits_l0_a1 y0 y4)))
    (Prod.snd (Prod.snd (loop_example_g00916_impl_Memory_suits_l0_a1 y0 y4)))

def loop_example_g00916_impl_Memory_suits_l0_7 (y0 : Int) : Int :=
  IntKind.wrap IntKind.i64 (y0 + (1 : Int))

def JL_loop_example_g00916_impl_Memory_suits_l0 : X_loop_example_g00916_impl_Memory_suits_l0 → List (Nat × SV)
  | (y0, y1, _, _, _) => [(24, (.one ⟨false, [(.val (.int IntKind.i64 y0))]⟩)), (23, (.one ⟨false, [(.val (.int IntKind.i64 y1))]⟩)), (22, (.one ⟨false, [(.ref 0)]⟩)), (3, (.one ⟨false, [(.ptr 1 0)]⟩))]

def JE_loop_example_g00916_impl_Memory_suits_l0 : X_loop_example_g00916_impl_Memory_suits_l0 → List (Nat × Entry)
  | (_, _, y2, y3, y4) => [(0, (.row false 31 (CTy.pair (CTy.int IntKind.i64) (CTy.pair CTy.str (CTy.int IntKind.i64))) y2)), (1, (.box 82 [(.ref 2), (.ref 3)])), (2, (.row false 2 (CTy.int IntKind.i64) y3)), (3, (.row false 28 (CTy.pair (CTy.int IntKind.i64) (CTy.pair (CTy.int IntKind.i64) (CTy.int IntKind.i64))) y4))]

def XL_loop_example_g00916_impl_Memory_suits_l0 : Nat → X_loop_example_g00916_impl_Memory_suits_l0 → List (Nat × SV)
  | 0, (_, _, _, _, _) => [(6, (.one ⟨false, [(.val (.bool false))]⟩))]
  | _, (_, _, _, _, _) => []

def XE_loop_example_g00916_impl_Memory_suits_l0 : Nat → X_loop_example_g00916_impl_Memory_suits_l0 → List (Nat × Entry)
  | 0, (_, _, y2, y3, y4) => [(0, (.row false 31 (CTy.pair (CTy.int IntKind.i64) (CTy.pair CTy.str (CTy.int IntKind.i64))) y2)), (1, (.box 82 [(.ref 2), (.ref 3)])), (2, (.row false 2 (CTy.int IntKind.i64) y3)), (3, (.row false 28 (CTy.pair (CTy.int IntKind.i64) (CTy.pair (CTy.int IntKind.i64) (CTy.int IntKind.i64))) y4))]
  | _, (_, _, y2, y3, y4) => [(0, (.row false 31 (CTy.pair (CTy.int IntKind.i64) (CTy.pair CTy.str (CTy.int IntKind.i64))) y2)), (1, (.box 82 [(.ref 2), (.ref 3)])), (2, (.row false 2 (CTy.int IntKind.i64) y3)), (3, (.row false 28 (CTy.pair (CTy.int IntKind.i64) (CTy.pair (CTy.int IntKind.i64) (CTy.int IntKind.i64))) y4))]

def lt_loop_example_g00916_impl_Memory_suits_l0 : X_loop_example_g00916_impl_Memory_suits_l0 → LT X_loop_example_g00916_impl_Memory_suits_l0
  | (y0, y1, y2, y3, y4) => .ite (loop_example_g00916_impl_Memory_suits_l0_0 y0 y1) (.need [(loop_example_g00916_impl_Memory_suits_l0_1 y0), (loop_example_g00916_impl_Memory_suits_l0_2 y0 y2), (loop_example_g00916_impl_Memory_suits_l0_3 y0 y2)] (.need [(loop_example_g00916_impl_Memory_suits_l0_1 y0), (loop_example_g00916_impl_Memory_suits_l0_4 y0 y4), (loop_example_g00916_impl_Memory_suits_l0_5 y0 y4)] (.ite (loop_example_g00916_impl_Memory_suits_l0_6 y0 y2 y4) (.ext 0 [(0, 0), (1, 1), (2, 2), (3, 3)]) (.nrm ((loop_example_g00916_impl_Memory_suits_l0_7 y0), y1, y2, y3, y4) [(0, 0), (1, 1), (2, 2), (3, 3)])))) (.ext 1 [(0, 0), (1, 1), (2, 2), (3, 3)])

def rd_loop_example_g00916_impl_Memory_suits_l0 (s : St) : Option X_loop_example_g00916_impl_Memory_suits_l0 :=
  (match s.look 24 with
  | some ⟨none, (.one ⟨false, [(.val (.int IntKind.i64 y0))]⟩)⟩ =>
  (match s.look 23 with
  | some ⟨none, (.one ⟨false, [(.val (.int IntKind.i64 y1))]⟩)⟩ =>
  (match s.look 22 with
  | some ⟨none, (.one ⟨false, [(.ref 2)]⟩)⟩ =>
  (match s.look 3 with
  | some ⟨none, (.one ⟨false, [(.ptr 256 0)]⟩)⟩ =>
  (match s.ent 2 with
  | some (.row false 31 (CTy.pair (CTy.int IntKind.i64) (CTy.pair CTy.str (CTy.int IntKind.i64))) y2) =>
  (match s.ent 256 with
  | some (.box 82 [(.ref 0), (.ref 1)]) =>
  (match s.ent 0 with
  | some (.row false 2 (CTy.int IntKind.i64) y3) =>
  (match s.ent 1 with
  | some (.row false 28 (CTy.pair (CTy.int IntKind.i64) (CTy.pair (CTy.int IntKind.i64) (CTy.int IntKind.i64))) y4) =>
  some (y0, y1, y2, y3, y4)
  | _ => none)
  | _ => none)
  | _ => none)
  | _ => none)
  | _ => none)
  | _ => none)
  | _ => none)
  | _ => none)

def lp_loop_example_g00916_impl_Memory_suits_l0 : Lp X_loop_example_g00916_impl_Memory_suits_l0 where
  h := ⟨[25, 26, 27, 28, 8, 7, 29, 30, 31, 32, 33, 34, 35, 36, 6, 37, 24], [0, 1, 2, 3], [], []⟩
  JL := JL_loop_example_g00916_impl_Memory_suits_l0
  JE := JE_loop_example_g00916_impl_Memory_suits_l0
  XL := XL_loop_example_g00916_impl_Memory_suits_l0
  XE := XE_loop_example_g00916_impl_Memory_suits_l0
  q := fun j => match j with | 0 => .ret | _ => .exit 0
  tags := [0, 1]
  lt := lt_loop_example_g00916_impl_Memory_suits_l0
  fuel := fun (y0, y1, y2, y3, y4) => y0.natAbs + y1.natAbs + y2.length + y3.length + y4.length
  fix := fun (_, y1, y2, y3, y4) (y0, _, _, _, _) => (y0, y1, y2, y3, y4)
  σ := [(0, 2), (1, 256), (2, 0), (3, 1)]
  rd := rd_loop_example_g00916_impl_Memory_suits_l0

theorem lpok_loop_example_g00916_impl_Memory_suits_l0 : LoopOk Tryd.prog (fun k => Nat.blt k Tryd.f119.ntmps) lp_loop_example_g00916_impl_Memory_suits_l0.F (loopAt Tryd.f119 0) := by
  refine Lp.ok (tbl := [n_impl_areBits, PF.lend n_impl_areBits, PF.fz n_impl_areBits, p_impl_isPossible]) (lf := []) hmix lp_loop_example_g00916_impl_Memory_suits_l0 (by kernel_rfl) (LOk.nil _) (fun _ => rfl) (fun j _ => by unfold lp_loop_example_g00916_impl_Memory_suits_l0; match j with | 0 => rfl | _ + 1 => rfl) ?_ ?_ ?_ ?_ (fun _ => rfl) ?_
  · intro x; obtain ⟨y0, y1, y2, y3, y4⟩ := x; kernel_rfl
  · intro x; obtain ⟨y0, y1, y2, y3, y4⟩ := x; kernel_rfl
  · intro s x h
    have h : rd_loop_example_g00916_impl_Memory_suits_l0 s = some x := h
    unfold rd_loop_example_g00916_impl_Memory_suits_l0 at h
    repeat' split at h
    all_goals cases h
    exact ⟨absS_cons (by assumption) rfl (absS_cons (by assumption) rfl (absS_cons (by assumption) rfl (absS_cons (by assumption) rfl (rfl)))), absE_cons rfl (by assumption) rfl (absE_cons rfl (by assumption) rfl (absE_cons rfl (by assumption) rfl (absE_cons rfl (by assumption) rfl (rfl))))⟩
  · intro x; obtain ⟨y0, y1, y2, y3, y4⟩ := x; kernel_rfl
  · intro x z; obtain ⟨y0, y1, y2, y3, y4⟩ := x; exact (And.intro (And.intro trivial rfl) trivial)

def loop_example_g00916_impl_Memory_suits_a0 (x0 : Int) (x1 : List Int) (x2 : List (Int × Int × Int)) (x3 : List (Int × ByteArray × Int)) : Bool :=
  bif !bitsB x0 x1 then true else (↑(List.length x2) : Int) != (↑(List.length x3) : Int)

def loop_example_g00916_impl_Memory_suits_a1 (x1 : List Int) (x2 : List (Int × Int × Int)) (x3 : List (Int × ByteArray × Int)) : Int × Int × List (Int × ByteArray × Int) × List Int × List (Int × Int × Int) :=
  ((0 : Int), (↑(List.length x3) : Int), x3, x1, x2)

def loop_example_g00916_impl_Memory_suits_0 (x0 : Int) (x1 : List Int) (x2 : List (Int × Int × Int)) (x3 : List (Int × ByteArray × Int)) : Bool :=
  bif loop_example_g00916_impl_Memory_suits_a0 x0 x1 x2 x3 then false
  else
  bif Nat.beq (Prod.fst (Lp.res lp_loop_example_g00916_impl_Memory_suits_l0 (loop_example_g00916_impl_Memory_suits_a1 x1 x2 x3))) (0 : Nat) then false
  else true

def loop_example_g00916_impl_Memory_suits_1 (x0 : Int) (x1 : List Int) (x2 : List (Int × Int × Int)) (x3 : List (Int × ByteArray × Int)) : Bool :=
  allT
  [leN (List.length x1) (9223372036854775807 : Nat),
    loop_example_g00916_impl_Memory_suits_a0 x0 x1 x2 x3 ||
      Lp.fin lp_loop_example_g00916_impl_Memory_suits_l0 (loop_example_g00916_impl_Memory_suits_a1 x1 x2 x3)]

def F_loop_example_g00916_impl_Memory_suits : List SV → List Entry → Option Out
  | [.one ⟨true, [.ref 0, .ref 1]⟩, .one ⟨false, [.val (.int .i64 x0)]⟩, .one ⟨false, [.ref 2]⟩], [.row false 2 (.int .i64) x1, .row false 28 (.pair (.int .i64) (.pair (.int .i64) (.int .i64))) x2, .row false 31 (.pair (.int .i64) (.pair (.str) (.int .i64))) x3] => some ⟨(.one ⟨false, [(.val (.bool (loop_example_g00916_impl_Memory_suits_0 x0 x1 x2 x3)))]⟩), [(.row false 2 (CTy.int IntKind.i64) x1), (.row false 28 (CTy.pair (CTy.int IntKind.i64) (CTy.pair (CTy.int IntKind.i64) (CTy.int IntKind.i64))) x2), (.row false 31 (CTy.pair (CTy.int IntKind.i64) (CTy.pair CTy.str (CTy.int IntKind.i64))) x3)], [], [(loop_example_g00916_impl_Memory_suits_1 x0 x1 x2 x3)]⟩
  | _, _ => none

def p_loop_example_g00916_impl_Memory_suits : PF Tryd.prog := PF.ofG Tryd.prog [n_impl_areBits, PF.lend n_impl_areBits, PF.fz n_impl_areBits, p_impl_isPossible] [lp_loop_example_g00916_impl_Memory_suits_l0.F] hmix 119 Tryd.f119 Tryd.func119 (LOk.fnT (l := [loopAt Tryd.f119 0]) (by kernel_rfl) (.cons lpok_loop_example_g00916_impl_Memory_suits_l0 (.nil _))) F_loop_example_g00916_impl_Memory_suits (by
  intro vs es r h; unfold F_loop_example_g00916_impl_Memory_suits at h; split at h
  · cases h; kernel_rfl
  · cases h)

def slices_Clone_impl_BlockState_0 (x0 : List (Int × Int × Int)) : Bool :=
  allT
  [ltN (0 : Nat) (List.length x0), false || leN ((0 : Nat) + List.length x0) (9223372036854775807 : Nat),
    false || leN (((0 : Nat) + List.length x0) * (24 : Nat)) (140737488355328 : Nat)]

def F_slices_Clone_impl_BlockState : List SV → List Entry → Option Out
  | [.one ⟨false, [.ref 0]⟩], [.row false 28 (.pair (.int .i64) (.pair (.int .i64) (.int .i64))) x0] => some ⟨(.one ⟨false, [(.ref 1)]⟩), [(.row false 28 (CTy.pair (CTy.int IntKind.i64) (CTy.pair (CTy.int IntKind.i64) (CTy.int IntKind.i64))) x0)], [(.row true 28 (CTy.pair (CTy.int IntKind.i64) (CTy.pair (CTy.int IntKind.i64) (CTy.int IntKind.i64))) x0)], [(slices_Clone_impl_BlockState_0 x0)]⟩
  | _, _ => none

def p_slices_Clone_impl_BlockState : PF Tryd.prog := PF.ofG Tryd.prog [] [] hmix 142 Tryd.f142 Tryd.func142 (fun c _ => LOk.nil c) F_slices_Clone_impl_BlockState (by
  intro vs es r h; unfold F_slices_Clone_impl_BlockState at h; split at h
  · cases h; kernel_rfl
  · cases h)

abbrev X_laws_eqBlockStateS_l0 := Int × List (Int × (Int × Int)) × List (Int × (Int × Int))

def laws_eqBlockStateS_l0_a0 (y0 : Int) (y1 : List (Int × (Int × Int))) : Int × Int × Int :=
  Option.getD y1[Int.toNat y0]? ((0 : Int), (0 : Int), (0 : Int))

def laws_eqBlockStateS_l0_a1 (y0 : Int) (y2 : List (Int × (Int × Int))) : Int × Int × Int :=
  Option.getD y2[Int.toNat y0]? ((0 : Int), (0 : Int), (0 : Int))

def laws_eqBlockStateS_l0_0 (y0 : Int) (y1 : List (Int × (Int × Int))) : Bool :=
  ltI y0 (↑(List.length y1) : Int)

def laws_eqBlockStateS_l0_1 (y0 : Int) : Bool :=
  leI (0 : Int) y0

def laws_eqBlockStateS_l0_2 (y0 : Int) (y1 : List (Int × (Int × Int))) : Bool :=
  ltN (Int.toNat y0) (List.length y1)

def laws_eqBlockStateS_l0_3 (y0 : Int) (y2 : List (Int × (Int × Int))) : Bool :=
  ltI y0 (↑(List.length y2) : Int)

def laws_eqBlockStateS_l0_4 (y0 : Int) (y2 : List (Int × (Int × Int))) : Bool :=
  ltN (Int.toNat y0) (List.length y2)

def laws_eqBlockStateS_l0_5 (y0 : Int) (y1 : List (Int × (Int × Int))) (y2 : List (Int × (Int × Int))) : Bool :=
  !laws_eqBlockState_0 (Prod.fst (laws_eqBlockStateS_l0_a0 y0 y1)) (Prod.fst (Prod.snd (laws_eqBlockStateS_l0_a0 y0 y1)))
    (Prod.snd (Prod.snd (laws_eqBlockStateS_l0_a0 y0 y1))) (Prod.fst (laws_eqBlockStateS_l0_a1 y0 y2))
    (Prod.fst (Prod.snd (laws_eqBlockStateS_l0_a1 y0 y2))) (Prod.snd (Prod.snd (laws_eqBlockStateS_l0_a1 y0 y2)))

def laws_eqBlockStateS_l0_6 (y0 : Int) : Int :=
  IntKind.wrap IntKind.i64 (y0 + (1 : Int))

def JL_laws_eqBlockStateS_l0 : X_laws_eqBlockStateS_l0 → List (Nat × SV)
  | (y0, _, _) => [(5, (.one ⟨false, [(.val (.int IntKind.i64 y0))]⟩)), (0, (.one ⟨false, [(.ref 0)]⟩)), (1, (.one ⟨false, [(.ref 1)]⟩))]

def JE_laws_eqBlockStateS_l0 : X_laws_eqBlockStateS_l0 → List (Nat × Entry)
  | (_, y1, y2) => [(0, (.row false 28 (CTy.pair (CTy.int IntKind.i64) (CTy.pair (CTy.int IntKind.i64) (CTy.int IntKind.i64))) y1)), (1, (.row false 28 (CTy.pair (CTy.int IntKind.i64) (CTy.pair (CTy.int IntKind.i64) (CTy.int IntKind.i64))) y2))]

def XL_laws_eqBlockStateS_l0 : Nat → X_laws_eqBlockStateS_l0 → List (Nat × SV)
  | 0, (_, _, _) => [(4, (.one ⟨false, [(.val (.bool false))]⟩))]
  | _, (_, _, _) => []

def XE_laws_eqBlockStateS_l0 : Nat → X_laws_eqBlockStateS_l0 → List (Nat × Entry)
  | 0, (_, y1, y2) => [(0, (.row false 28 (CTy.pair (CTy.int IntKind.i64) (CTy.pair (CTy.int IntKind.i64) (CTy.int IntKind.i64))) y1)), (1, (.row false 28 (CTy.pair (CTy.int IntKind.i64) (CTy.pair (CTy.int IntKind.i64) (CTy.int IntKind.i64))) y2))]
  | _, (_, y1, y2) => [(0, (.row false 28 (CTy.pair (CTy.int IntKind.i64) (CTy.pair (CTy.int IntKind.i64) (CTy.int IntKind.i64))) y1)), (1, (.row false 28 (CTy.pair (CTy.int IntKind.i64) (CTy.pair (CTy.int IntKind.i64) (CTy.int IntKind.i64))) y2))]

def lt_laws_eqBlockStateS_l0 : X_laws_eqBlockStateS_l0 → LT X_laws_eqBlockStateS_l0
  | (y0, y1, y2) => .ite (laws_eqBlockStateS_l0_0 y0 y1) (.need [(laws_eqBlockStateS_l0_1 y0), (laws_eqBlockStateS_l0_0 y0 y1), (laws_eqBlockStateS_l0_2 y0 y1), (laws_eqBlockStateS_l0_1 y0), (laws_eqBlockStateS_l0_3 y0 y2), (laws_eqBlockStateS_l0_4 y0 y2)] (.ite (laws_eqBlockStateS_l0_5 y0 y1 y2) (.ext 0 [(0, 0), (1, 1)]) (.nrm ((laws_eqBlockStateS_l0_6 y0), y1, y2) [(0, 0), (1, 1)]))) (.ext 1 [(0, 0), (1, 1)])

def rd_laws_eqBlockStateS_l0 (s : St) : Option X_laws_eqBlockStateS_l0 :=
  (match s.look 5 with
  | some ⟨none, (.one ⟨false, [(.val (.int IntKind.i64 y0))]⟩)⟩ =>
  (match s.look 0 with
  | some ⟨none, (.one ⟨false, [(.ref 0)]⟩)⟩ =>
  (match s.look 1 with
  | some ⟨none, (.one ⟨false, [(.ref 1)]⟩)⟩ =>
  (match s.ent 0 with
  | some (.row false 28 (CTy.pair (CTy.int IntKind.i64) (CTy.pair (CTy.int IntKind.i64) (CTy.int IntKind.i64))) y1) =>
  (match s.ent 1 with
  | some (.row false 28 (CTy.pair (CTy.int IntKind.i64) (CTy.pair (CTy.int IntKind.i64) (CTy.int IntKind.i64))) y2) =>
  some (y0, y1, y2)
  | _ => none)
  | _ => none)
  | _ => none)
  | _ => none)
  | _ => none)

def lp_laws_eqBlockStateS_l0 : Lp X_laws_eqBlockStateS_l0 where
  h := ⟨[11, 12, 13, 14, 17, 18, 19, 20, 21, 22, 23, 24, 25, 26, 4, 15, 16, 5], [0, 1], [], []⟩
  JL := JL_laws_eqBlockStateS_l0
  JE := JE_laws_eqBlockStateS_l0
  XL := XL_laws_eqBlockStateS_l0
  XE := XE_laws_eqBlockStateS_l0
  q := fun j => match j with | 0 => .ret | _ => .exit 0
  tags := [0, 1]
  lt := lt_laws_eqBlockStateS_l0
  fuel := fun (y0, y1, y2) => y0.natAbs + y1.length + y2.length
  fix := fun (_, y1, y2) (y0, _, _) => (y0, y1, y2)
  σ := [(0, 0), (1, 1)]
  rd := rd_laws_eqBlockStateS_l0

theorem lpok_laws_eqBlockStateS_l0 : LoopOk Tryd.prog (fun k => Nat.blt k Tryd.f91.ntmps) lp_laws_eqBlockStateS_l0.F (loopAt Tryd.f91 0) := by
  refine Lp.ok (tbl := [p_laws_eqBlockState]) (lf := []) hmix lp_laws_eqBlockStateS_l0 (by kernel_rfl) (LOk.nil _) (fun _ => rfl) (fun j _ => by unfold lp_laws_eqBlockStateS_l0; match j with | 0 => rfl | _ + 1 => rfl) ?_ ?_ ?_ ?_ (fun _ => rfl) ?_
  · intro x; obtain ⟨y0, y1, y2⟩ := x; kernel_rfl
  · intro x; obtain ⟨y0, y1, y2⟩ := x; kernel_rfl
  · intro s x h
    have h : rd_laws_eqBlockStateS_l0 s = some x := h
    unfold rd_laws_eqBlockStateS_l0 at h
    repeat' split at h
    all_goals cases h
    exact ⟨absS_cons (by assumption) rfl (absS_cons (by assumption) rfl (absS_cons (by assumption) rfl (rfl))), absE_cons rfl (by assumption) rfl (absE_cons rfl (by assumption) rfl (rfl))⟩
  · intro x; obtain ⟨y0, y1, y2⟩ := x; kernel_rfl
  · intro x z; obtain ⟨y0, y1, y2⟩ := x; exact (And.intro (And.intro trivial rfl) trivial)

def laws_eqBlockStateS_a0 (x0 : List (Int × Int × Int)) (x1 : List (Int × Int × Int)) : Bool :=
  (↑(List.length x0) : Int) != (↑(List.length x1) : Int)

def laws_eqBlockStateS_a1 (x0 : List (Int × Int × Int)) (x1 : List (Int × Int × Int)) : Int × List (Int × Int × Int) × List (Int × Int × Int) :=
  ((0 : Int), x0, x1)

def laws_eqBlockStateS_0 (x0 : List (Int × Int × Int)) (x1 : List (Int × Int × Int)) : Bool :=
  bif laws_eqBlockStateS_a0 x0 x1 then false
  else bif Nat.beq (Prod.fst (Lp.res lp_laws_eqBlockStateS_l0 (laws_eqBlockStateS_a1 x0 x1))) (0 : Nat) then false else true

def laws_eqBlockStateS_1 (x0 : List (Int × Int × Int)) (x1 : List (Int × Int × Int)) : Bool :=
  allT [laws_eqBlockStateS_a0 x0 x1 || Lp.fin lp_laws_eqBlockStateS_l0 (laws_eqBlockStateS_a1 x0 x1)]

def F_laws_eqBlockStateS : List SV → List Entry → Option Out
  | [.one ⟨false, [.ref 0]⟩, .one ⟨false, [.ref 1]⟩], [.row false 28 (.pair (.int .i64) (.pair (.int .i64) (.int .i64))) x0, .row false 28 (.pair (.int .i64) (.pair (.int .i64) (.int .i64))) x1] => some ⟨(.one ⟨false, [(.val (.bool (laws_eqBlockStateS_0 x0 x1)))]⟩), [(.row false 28 (CTy.pair (CTy.int IntKind.i64) (CTy.pair (CTy.int IntKind.i64) (CTy.int IntKind.i64))) x0), (.row false 28 (CTy.pair (CTy.int IntKind.i64) (CTy.pair (CTy.int IntKind.i64) (CTy.int IntKind.i64))) x1)], [], [(laws_eqBlockStateS_1 x0 x1)]⟩
  | _, _ => none

def p_laws_eqBlockStateS : PF Tryd.prog := PF.ofG Tryd.prog [p_laws_eqBlockState] [lp_laws_eqBlockStateS_l0.F] hmix 91 Tryd.f91 Tryd.func91 (LOk.fnT (l := [loopAt Tryd.f91 0]) (by kernel_rfl) (.cons lpok_laws_eqBlockStateS_l0 (.nil _))) F_laws_eqBlockStateS (by
  intro vs es r h; unfold F_laws_eqBlockStateS at h; split at h
  · cases h; kernel_rfl
  · cases h)

def laws_eqTerm_0 (x0 : Int) (x1 : ByteArray) (x2 : Int) (x3 : Int) (x4 : ByteArray) (x5 : Int) : Bool :=
  bif x0 != x3 then false else bif !ByteArray.toList x1 == ByteArray.toList x4 then false else bif x2 != x5 then false else true

def F_laws_eqTerm : List SV → List Entry → Option Out
  | [.one ⟨true, [.val (.int .i64 x0), .val (.string x1), .val (.int .i64 x2)]⟩, .one ⟨true, [.val (.int .i64 x3), .val (.string x4), .val (.int .i64 x5)]⟩], [] => some ⟨(.one ⟨false, [(.val (.bool (laws_eqTerm_0 x0 x1 x2 x3 x4 x5)))]⟩), [], [], []⟩
  | _, _ => none

def p_laws_eqTerm : PF Tryd.prog := PF.ofG Tryd.prog [] [] hmix 122 Tryd.f122 Tryd.func122 (fun c _ => LOk.nil c) F_laws_eqTerm (by
  intro vs es r h; unfold F_laws_eqTerm at h; split at h
  · cases h; kernel_rfl
  · cases h)

abbrev X_laws_eqTermS_l0 := Int × List (Int × (ByteArray × Int)) × List (Int × (ByteArray × Int))

def laws_eqTermS_l0_a0 (y0 : Int) (y1 : List (Int × (ByteArray × Int))) : Int × ByteArray × Int :=
  Option.getD y1[Int.toNat y0]? ((0 : Int), ByteArray.empty, (0 : Int))

def laws_eqTermS_l0_a1 (y0 : Int) (y2 : List (Int × (ByteArray × Int))) : Int × ByteArray × Int :=
  Option.getD y2[Int.toNat y0]? ((0 : Int), ByteArray.empty, (0 : Int))

def laws_eqTermS_l0_0 (y0 : Int) (y1 : List (Int × (ByteArray × Int))) : Bool :=
  ltI y0 (↑(List.length y1) : Int)

def laws_eqTermS_l0_1 (y0 : Int) : Bool :=
  leI (0 : Int) y0

def laws_eqTermS_l0_2 (y0 : Int) (y1 : List (Int × (ByteArray × Int))) : Bool :=
  ltN (Int.toNat y0) (List.length y1)

def laws_eqTermS_l0_3 (y0 : Int) (y2 : List (Int × (ByteArray × Int))) : Bool :=
  ltI y0 (↑(List.length y2) : Int)

def laws_eqTermS_l0_4 (y0 : Int) (y2 : List (Int × (ByteArray × Int))) : Bool :=
  ltN (Int.toNat y0) (List.length y2)

def laws_eqTermS_l0_5 (y0 : Int) (y1 : List (Int × (ByteArray × Int))) (y2 : List (Int × (ByteArray × Int))) : Bool :=
  !laws_eqTerm_0 (Prod.fst (laws_eqTermS_l0_a0 y0 y1)) (Prod.fst (Prod.snd (laws_eqTermS_l0_a0 y0 y1))) (Prod.snd (Prod.snd (laws_eqTermS_l0_a0 y0 y1)))
    (Prod.fst (laws_eqTermS_l0_a1 y0 y2)) (Prod.fst (Prod.snd (laws_eqTermS_l0_a1 y0 y2))) (Prod.snd (Prod.snd (laws_eqTermS_l0_a1 y0 y2)))

def laws_eqTermS_l0_6 (y0 : Int) : Int :=
  IntKind.wrap IntKind.i64 (y0 + (1 : Int))

def JL_laws_eqTermS_l0 : X_laws_eqTermS_l0 → List (Nat × SV)
  | (y0, _, _) => [(5, (.one ⟨false, [(.val (.int IntKind.i64 y0))]⟩)), (0, (.one ⟨false, [(.ref 0)]⟩)), (1, (.one ⟨false, [(.ref 1)]⟩))]

def JE_laws_eqTermS_l0 : X_laws_eqTermS_l0 → List (Nat × Entry)
  | (_, y1, y2) => [(0, (.row false 31 (CTy.pair (CTy.int IntKind.i64) (CTy.pair CTy.str (CTy.int IntKind.i64))) y1)), (1, (.row false 31 (CTy.pair (CTy.int IntKind.i64) (CTy.pair CTy.str (CTy.int IntKind.i64))) y2))]

def XL_laws_eqTermS_l0 : Nat → X_laws_eqTermS_l0 → List (Nat × SV)
  | 0, (_, _, _) => [(4, (.one ⟨false, [(.val (.bool false))]⟩))]
  | _, (_, _, _) => []

def XE_laws_eqTermS_l0 : Nat → X_laws_eqTermS_l0 → List (Nat × Entry)
  | 0, (_, y1, y2) => [(0, (.row false 31 (CTy.pair (CTy.int IntKind.i64) (CTy.pair CTy.str (CTy.int IntKind.i64))) y1)), (1, (.row false 31 (CTy.pair (CTy.int IntKind.i64) (CTy.pair CTy.str (CTy.int IntKind.i64))) y2))]
  | _, (_, y1, y2) => [(0, (.row false 31 (CTy.pair (CTy.int IntKind.i64) (CTy.pair CTy.str (CTy.int IntKind.i64))) y1)), (1, (.row false 31 (CTy.pair (CTy.int IntKind.i64) (CTy.pair CTy.str (CTy.int IntKind.i64))) y2))]

def lt_laws_eqTermS_l0 : X_laws_eqTermS_l0 → LT X_laws_eqTermS_l0
  | (y0, y1, y2) => .ite (laws_eqTermS_l0_0 y0 y1) (.need [(laws_eqTermS_l0_1 y0), (laws_eqTermS_l0_0 y0 y1), (laws_eqTermS_l0_2 y0 y1), (laws_eqTermS_l0_1 y0), (laws_eqTermS_l0_3 y0 y2), (laws_eqTermS_l0_4 y0 y2)] (.ite (laws_eqTermS_l0_5 y0 y1 y2) (.ext 0 [(0, 0), (1, 1)]) (.nrm ((laws_eqTermS_l0_6 y0), y1, y2) [(0, 0), (1, 1)]))) (.ext 1 [(0, 0), (1, 1)])

def rd_laws_eqTermS_l0 (s : St) : Option X_laws_eqTermS_l0 :=
  (match s.look 5 with
  | some ⟨none, (.one ⟨false, [(.val (.int IntKind.i64 y0))]⟩)⟩ =>
  (match s.look 0 with
  | some ⟨none, (.one ⟨false, [(.ref 0)]⟩)⟩ =>
  (match s.look 1 with
  | some ⟨none, (.one ⟨false, [(.ref 1)]⟩)⟩ =>
  (match s.ent 0 with
  | some (.row false 31 (CTy.pair (CTy.int IntKind.i64) (CTy.pair CTy.str (CTy.int IntKind.i64))) y1) =>
  (match s.ent 1 with
  | some (.row false 31 (CTy.pair (CTy.int IntKind.i64) (CTy.pair CTy.str (CTy.int IntKind.i64))) y2) =>
  some (y0, y1, y2)
  | _ => none)
  | _ => none)
  | _ => none)
  | _ => none)
  | _ => none)

def lp_laws_eqTermS_l0 : Lp X_laws_eqTermS_l0 where
  h := ⟨[11, 12, 13, 14, 17, 18, 19, 20, 21, 22, 23, 24, 25, 26, 4, 15, 16, 5], [0, 1], [], []⟩
  JL := JL_laws_eqTermS_l0
  JE := JE_laws_eqTermS_l0
  XL := XL_laws_eqTermS_l0
  XE := XE_laws_eqTermS_l0
  q := fun j => match j with | 0 => .ret | _ => .exit 0
  tags := [0, 1]
  lt := lt_laws_eqTermS_l0
  fuel := fun (y0, y1, y2) => y0.natAbs + y1.length + y2.length
  fix := fun (_, y1, y2) (y0, _, _) => (y0, y1, y2)
  σ := [(0, 0), (1, 1)]
  rd := rd_laws_eqTermS_l0

theorem lpok_laws_eqTermS_l0 : LoopOk Tryd.prog (fun k => Nat.blt k Tryd.f92.ntmps) lp_laws_eqTermS_l0.F (loopAt Tryd.f92 0) := by
  refine Lp.ok (tbl := [p_laws_eqTerm]) (lf := []) hmix lp_laws_eqTermS_l0 (by kernel_rfl) (LOk.nil _) (fun _ => rfl) (fun j _ => by unfold lp_laws_eqTermS_l0; match j with | 0 => rfl | _ + 1 => rfl) ?_ ?_ ?_ ?_ (fun _ => rfl) ?_
  · intro x; obtain ⟨y0, y1, y2⟩ := x; kernel_rfl
  · intro x; obtain ⟨y0, y1, y2⟩ := x; kernel_rfl
  · intro s x h
    have h : rd_laws_eqTermS_l0 s = some x := h
    unfold rd_laws_eqTermS_l0 at h
    repeat' split at h
    all_goals cases h
    exact ⟨absS_cons (by assumption) rfl (absS_cons (by assumption) rfl (absS_cons (by assumption) rfl (rfl))), absE_cons rfl (by assumption) rfl (absE_cons rfl (by assumption) rfl (rfl))⟩
  · intro x; obtain ⟨y0, y1, y2⟩ := x; kernel_rfl
  · intro x z; obtain ⟨y0, y1, y2⟩ := x; exact (And.intro (And.intro trivial rfl) trivial)

def laws_eqTermS_a0 (x0 : List (Int × ByteArray × Int)) (x1 : List (Int × ByteArray × Int)) : Bool :=
  (↑(List.length x0) : Int) != (↑(List.length x1) : Int)

def laws_eqTermS_a1 (x0 : List (Int × ByteArray × Int)) (x1 : List (Int × ByteArray × Int)) : Int × List (Int × ByteArray × Int) × List (Int × ByteArray × Int) :=
  ((0 : Int), x0, x1)

def laws_eqTermS_0 (x0 : List (Int × ByteArray × Int)) (x1 : List (Int × ByteArray × Int)) : Bool :=
  bif laws_eqTermS_a0 x0 x1 then false else bif Nat.beq (Prod.fst (Lp.res lp_laws_eqTermS_l0 (laws_eqTermS_a1 x0 x1))) (0 : Nat) then false else true

def laws_eqTermS_1 (x0 : List (Int × ByteArray × Int)) (x1 : List (Int × ByteArray × Int)) : Bool :=
  allT [laws_eqTermS_a0 x0 x1 || Lp.fin lp_laws_eqTermS_l0 (laws_eqTermS_a1 x0 x1)]

def F_laws_eqTermS : List SV → List Entry → Option Out
  | [.one ⟨false, [.ref 0]⟩, .one ⟨false, [.ref 1]⟩], [.row false 31 (.pair (.int .i64) (.pair (.str) (.int .i64))) x0, .row false 31 (.pair (.int .i64) (.pair (.str) (.int .i64))) x1] => some ⟨(.one ⟨false, [(.val (.bool (laws_eqTermS_0 x0 x1)))]⟩), [(.row false 31 (CTy.pair (CTy.int IntKind.i64) (CTy.pair CTy.str (CTy.int IntKind.i64))) x0), (.row false 31 (CTy.pair (CTy.int IntKind.i64) (CTy.pair CTy.str (CTy.int IntKind.i64))) x1)], [], [(laws_eqTermS_1 x0 x1)]⟩
  | _, _ => none

def p_laws_eqTermS : PF Tryd.prog := PF.ofG Tryd.prog [p_laws_eqTerm] [lp_laws_eqTermS_l0.F] hmix 92 Tryd.f92 Tryd.func92 (LOk.fnT (l := [loopAt Tryd.f92 0]) (by kernel_rfl) (.cons lpok_laws_eqTermS_l0 (.nil _))) F_laws_eqTermS (by
  intro vs es r h; unfold F_laws_eqTermS at h; split at h
  · cases h; kernel_rfl
  · cases h)

def laws_eqInstruction_0 (x0 : Int) (x1 : Int) (x2 : Int) (x3 : Int) : Bool :=
  bif x0 != x2 then false else bif x1 != x3 then false else true

def F_laws_eqInstruction : List SV → List Entry → Option Out
  | [.one ⟨true, [.val (.int .i64 x0), .val (.int .i64 x1)]⟩, .one ⟨true, [.val (.int .i64 x2), .val (.int .i64 x3)]⟩], [] => some ⟨(.one ⟨false, [(.val (.bool (laws_eqInstruction_0 x0 x1 x2 x3)))]⟩), [], [], []⟩
  | _, _ => none

def p_laws_eqInstruction : PF Tryd.prog := PF.ofG Tryd.prog [] [] hmix 123 Tryd.f123 Tryd.func123 (fun c _ => LOk.nil c) F_laws_eqInstruction (by
  intro vs es r h; unfold F_laws_eqInstruction at h; split at h
  · cases h; kernel_rfl
  · cases h)

abbrev X_laws_eqInstructionS_l0 := Int × List (Int × Int) × List (Int × Int)

def laws_eqInstructionS_l0_a0 (y0 : Int) (y1 : List (Int × Int)) : Int × Int :=
  Option.getD y1[Int.toNat y0]? ((0 : Int), (0 : Int))

def laws_eqInstructionS_l0_a1 (y0 : Int) (y2 : List (Int × Int)) : Int × Int :=
  Option.getD y2[Int.toNat y0]? ((0 : Int), (0 : Int))

def laws_eqInstructionS_l0_0 (y0 : Int) (y1 : List (Int × Int)) : Bool :=
  ltI y0 (↑(List.length y1) : Int)

def laws_eqInstructionS_l0_1 (y0 : Int) : Bool :=
  leI (0 : Int) y0

def laws_eqInstructionS_l0_2 (y0 : Int) (y1 : List (Int × Int)) : Bool :=
  ltN (Int.toNat y0) (List.length y1)

def laws_eqInstructionS_l0_3 (y0 : Int) (y2 : List (Int × Int)) : Bool :=
  ltI y0 (↑(List.length y2) : Int)

def laws_eqInstructionS_l0_4 (y0 : Int) (y2 : List (Int × Int)) : Bool :=
  ltN (Int.toNat y0) (List.length y2)

def laws_eqInstructionS_l0_5 (y0 : Int) (y1 : List (Int × Int)) (y2 : List (Int × Int)) : Bool :=
  !laws_eqInstruction_0 (Prod.fst (laws_eqInstructionS_l0_a0 y0 y1)) (Prod.snd (laws_eqInstructionS_l0_a0 y0 y1))
    (Prod.fst (laws_eqInstructionS_l0_a1 y0 y2)) (Prod.snd (laws_eqInstructionS_l0_a1 y0 y2))

def laws_eqInstructionS_l0_6 (y0 : Int) : Int :=
  IntKind.wrap IntKind.i64 (y0 + (1 : Int))

def JL_laws_eqInstructionS_l0 : X_laws_eqInstructionS_l0 → List (Nat × SV)
  | (y0, _, _) => [(5, (.one ⟨false, [(.val (.int IntKind.i64 y0))]⟩)), (0, (.one ⟨false, [(.ref 0)]⟩)), (1, (.one ⟨false, [(.ref 1)]⟩))]

def JE_laws_eqInstructionS_l0 : X_laws_eqInstructionS_l0 → List (Nat × Entry)
  | (_, y1, y2) => [(0, (.row false 144 (CTy.pair (CTy.int IntKind.i64) (CTy.int IntKind.i64)) y1)), (1, (.row false 144 (CTy.pair (CTy.int IntKind.i64) (CTy.int IntKind.i64)) y2))]

def XL_laws_eqInstructionS_l0 : Nat → X_laws_eqInstructionS_l0 → List (Nat × SV)
  | 0, (_, _, _) => [(4, (.one ⟨false, [(.val (.bool false))]⟩))]
  | _, (_, _, _) => []

def XE_laws_eqInstructionS_l0 : Nat → X_laws_eqInstructionS_l0 → List (Nat × Entry)
  | 0, (_, y1, y2) => [(0, (.row false 144 (CTy.pair (CTy.int IntKind.i64) (CTy.int IntKind.i64)) y1)), (1, (.row false 144 (CTy.pair (CTy.int IntKind.i64) (CTy.int IntKind.i64)) y2))]
  | _, (_, y1, y2) => [(0, (.row false 144 (CTy.pair (CTy.int IntKind.i64) (CTy.int IntKind.i64)) y1)), (1, (.row false 144 (CTy.pair (CTy.int IntKind.i64) (CTy.int IntKind.i64)) y2))]

def lt_laws_eqInstructionS_l0 : X_laws_eqInstructionS_l0 → LT X_laws_eqInstructionS_l0
  | (y0, y1, y2) => .ite (laws_eqInstructionS_l0_0 y0 y1) (.need [(laws_eqInstructionS_l0_1 y0), (laws_eqInstructionS_l0_0 y0 y1), (laws_eqInstructionS_l0_2 y0 y1), (laws_eqInstructionS_l0_1 y0), (laws_eqInstructionS_l0_3 y0 y2), (laws_eqInstructionS_l0_4 y0 y2)] (.ite (laws_eqInstructionS_l0_5 y0 y1 y2) (.ext 0 [(0, 0), (1, 1)]) (.nrm ((laws_eqInstructionS_l0_6 y0), y1, y2) [(0, 0), (1, 1)]))) (.ext 1 [(0, 0), (1, 1)])

def rd_laws_eqInstructionS_l0 (s : St) : Option X_laws_eqInstructionS_l0 :=
  (match s.look 5 with
  | some ⟨none, (.one ⟨false, [(.val (.int IntKind.i64 y0))]⟩)⟩ =>
  (match s.look 0 with
  | some ⟨none, (.one ⟨false, [(.ref 0)]⟩)⟩ =>
  (match s.look 1 with
  | some ⟨none, (.one ⟨false, [(.ref 1)]⟩)⟩ =>
  (match s.ent 0 with
  | some (.row false 144 (CTy.pair (CTy.int IntKind.i64) (CTy.int IntKind.i64)) y1) =>
  (match s.ent 1 with
  | some (.row false 144 (CTy.pair (CTy.int IntKind.i64) (CTy.int IntKind.i64)) y2) =>
  some (y0, y1, y2)
  | _ => none)
  | _ => none)
  | _ => none)
  | _ => none)
  | _ => none)

def lp_laws_eqInstructionS_l0 : Lp X_laws_eqInstructionS_l0 where
  h := ⟨[11, 12, 13, 14, 17, 18, 19, 20, 21, 22, 23, 24, 25, 26, 4, 15, 16, 5], [0, 1], [], []⟩
  JL := JL_laws_eqInstructionS_l0
  JE := JE_laws_eqInstructionS_l0
  XL := XL_laws_eqInstructionS_l0
  XE := XE_laws_eqInstructionS_l0
  q := fun j => match j with | 0 => .ret | _ => .exit 0
  tags := [0, 1]
  lt := lt_laws_eqInstructionS_l0
  fuel := fun (y0, y1, y2) => y0.natAbs + y1.length + y2.length
  fix := fun (_, y1, y2) (y0, _, _) => (y0, y1, y2)
  σ := [(0, 0), (1, 1)]
  rd := rd_laws_eqInstructionS_l0

theorem lpok_laws_eqInstructionS_l0 : LoopOk Tryd.prog (fun k => Nat.blt k Tryd.f93.ntmps) lp_laws_eqInstructionS_l0.F (loopAt Tryd.f93 0) := by
  refine Lp.ok (tbl := [p_laws_eqInstruction]) (lf := []) hmix lp_laws_eqInstructionS_l0 (by kernel_rfl) (LOk.nil _) (fun _ => rfl) (fun j _ => by unfold lp_laws_eqInstructionS_l0; match j with | 0 => rfl | _ + 1 => rfl) ?_ ?_ ?_ ?_ (fun _ => rfl) ?_
  · intro x; obtain ⟨y0, y1, y2⟩ := x; kernel_rfl
  · intro x; obtain ⟨y0, y1, y2⟩ := x; kernel_rfl
  · intro s x h
    have h : rd_laws_eqInstructionS_l0 s = some x := h
    unfold rd_laws_eqInstructionS_l0 at h
    repeat' split at h
    all_goals cases h
    exact ⟨absS_cons (by assumption) rfl (absS_cons (by assumption) rfl (absS_cons (by assumption) rfl (rfl))), absE_cons rfl (by assumption) rfl (absE_cons rfl (by assumption) rfl (rfl))⟩
  · intro x; obtain ⟨y0, y1, y2⟩ := x; kernel_rfl
  · intro x z; obtain ⟨y0, y1, y2⟩ := x; exact (And.intro (And.intro trivial rfl) trivial)

def laws_eqInstructionS_a0 (x0 : List (Int × Int)) (x1 : List (Int × Int)) : Bool :=
  (↑(List.length x0) : Int) != (↑(List.length x1) : Int)

def laws_eqInstructionS_a1 (x0 : List (Int × Int)) (x1 : List (Int × Int)) : Int × List (Int × Int) × List (Int × Int) :=
  ((0 : Int), x0, x1)

def laws_eqInstructionS_0 (x0 : List (Int × Int)) (x1 : List (Int × Int)) : Bool :=
  bif laws_eqInstructionS_a0 x0 x1 then false
  else bif Nat.beq (Prod.fst (Lp.res lp_laws_eqInstructionS_l0 (laws_eqInstructionS_a1 x0 x1))) (0 : Nat) then false else true

def laws_eqInstructionS_1 (x0 : List (Int × Int)) (x1 : List (Int × Int)) : Bool :=
  allT [laws_eqInstructionS_a0 x0 x1 || Lp.fin lp_laws_eqInstructionS_l0 (laws_eqInstructionS_a1 x0 x1)]

def F_laws_eqInstructionS : List SV → List Entry → Option Out
  | [.one ⟨false, [.ref 0]⟩, .one ⟨false, [.ref 1]⟩], [.row false 144 (.pair (.int .i64) (.int .i64)) x0, .row false 144 (.pair (.int .i64) (.int .i64)) x1] => some ⟨(.one ⟨false, [(.val (.bool (laws_eqInstructionS_0 x0 x1)))]⟩), [(.row false 144 (CTy.pair (CTy.int IntKind.i64) (CTy.int IntKind.i64)) x0), (.row false 144 (CTy.pair (CTy.int IntKind.i64) (CTy.int IntKind.i64)) x1)], [], [(laws_eqInstructionS_1 x0 x1)]⟩
  | _, _ => none

def p_laws_eqInstructionS : PF Tryd.prog := PF.ofG Tryd.prog [p_laws_eqInstruction] [lp_laws_eqInstructionS_l0.F] hmix 93 Tryd.f93 Tryd.func93 (LOk.fnT (l := [loopAt Tryd.f93 0]) (by kernel_rfl) (.cons lpok_laws_eqInstructionS_l0 (.nil _))) F_laws_eqInstructionS (by
  intro vs es r h; unfold F_laws_eqInstructionS at h; split at h
  · cases h; kernel_rfl
  · cases h)

abbrev X_laws_markText_l0 := Int × ByteArray

def laws_markText_l0_a0 (y0 : Int) : ByteArray :=
  strOfNums [IntKind.wrap IntKind.u8 (IntKind.wrap IntKind.i64 ((48 : Int) + Int.tmod y0 (10 : Int)))]

def laws_markText_l0_0 (y0 : Int) : Bool :=
  ltI (0 : Int) y0

def laws_markText_l0_1  : Bool :=
  neI (10 : Int) (0 : Int)

def laws_markText_l0_2 (y0 : Int) (y1 : ByteArray) : Bool :=
  leN (ByteArray.size (laws_markText_l0_a0 y0) + ByteArray.size y1) (9223372036854775807 : Nat)

def laws_markText_l0_3 (y0 : Int) : Int :=
  IntKind.wrap IntKind.i64 (Int.tdiv y0 (10 : Int))

def laws_markText_l0_4 (y0 : Int) (y1 : ByteArray) : ByteArray :=
  laws_markText_l0_a0 y0 ++ y1

def JL_laws_markText_l0 : X_laws_markText_l0 → List (Nat × SV)
  | (y0, y1) => [(0, (.one ⟨false, [(.val (.int IntKind.i64 y0))]⟩)), (3, (.one ⟨false, [(.val (.string y1))]⟩))]

def JE_laws_markText_l0 : X_laws_markText_l0 → List (Nat × Entry)
  | (_, _) => []

def XL_laws_markText_l0 : Nat → X_laws_markText_l0 → List (Nat × SV)
  | _, (y0, y1) => [(3, (.one ⟨false, [(.val (.string y1))]⟩)), (0, (.one ⟨false, [(.val (.int IntKind.i64 y0))]⟩))]

def XE_laws_markText_l0 : Nat → X_laws_markText_l0 → List (Nat × Entry)
  | _, (_, _) => []

def lt_laws_markText_l0 : X_laws_markText_l0 → LT X_laws_markText_l0
  | (y0, y1) => .ite (laws_markText_l0_0 y0) (.need [(laws_markText_l0_1), (laws_markText_l0_2 y0 y1)] (.need [(laws_markText_l0_1)] (.nrm ((laws_markText_l0_3 y0), (laws_markText_l0_4 y0 y1)) []))) (.ext 0 [])

def rd_laws_markText_l0 (s : St) : Option X_laws_markText_l0 :=
  (match s.look 0 with
  | some ⟨none, (.one ⟨false, [(.val (.int IntKind.i64 y0))]⟩)⟩ =>
  (match s.look 3 with
  | some ⟨none, (.one ⟨false, [(.val (.string y1))]⟩)⟩ =>
  some (y0, y1)
  | _ => none)
  | _ => none)

def lp_laws_markText_l0 : Lp X_laws_markText_l0 where
  h := ⟨[6, 7, 8, 9, 10, 11, 12, 13, 14, 15, 3, 16, 17, 0], [], [], []⟩
  JL := JL_laws_markText_l0
  JE := JE_laws_markText_l0
  XL := XL_laws_markText_l0
  XE := XE_laws_markText_l0
  q := fun j => match j with | _ => .exit 0
  tags := [0]
  lt := lt_laws_markText_l0
  fuel := fun (y0, y1) => y0.natAbs + y1.size
  fix := fun (_, _) (y0, y1) => (y0, y1)
  σ := []
  rd := rd_laws_markText_l0

theorem lpok_laws_markText_l0 : LoopOk Tryd.prog (fun k => Nat.blt k Tryd.f124.ntmps) lp_laws_markText_l0.F (loopAt Tryd.f124 0) := by
  refine Lp.ok (tbl := []) (lf := []) hmix lp_laws_markText_l0 (by kernel_rfl) (LOk.nil _) (fun _ => rfl) (fun _ _ => rfl) ?_ ?_ ?_ ?_ (fun _ => rfl) ?_
  · intro x; obtain ⟨y0, y1⟩ := x; kernel_rfl
  · intro x; obtain ⟨y0, y1⟩ := x; kernel_rfl
  · intro s x h
    have h : rd_laws_markText_l0 s = some x := h
    unfold rd_laws_markText_l0 at h
    repeat' split at h
    all_goals cases h
    exact ⟨absS_cons (by assumption) rfl (absS_cons (by assumption) rfl (rfl)), rfl⟩
  · intro x; obtain ⟨y0, y1⟩ := x; kernel_rfl
  · intro x z; obtain ⟨y0, y1⟩ := x; exact (And.intro rfl trivial)

def laws_markText_a0 (x0 : Int) : ByteArray :=
  Prod.snd (Prod.snd (Lp.res lp_laws_markText_l0 (x0, { data := #[] })))

def laws_markText_0 (x0 : Int) : ByteArray :=
  bif leI x0 (0 : Int) then { data := #[(109 : UInt8), (48 : UInt8)] } else { data := #[(109 : UInt8)] } ++ laws_markText_a0 x0

def laws_markText_1 (x0 : Int) : Bool :=
  allT
  [leI x0 (0 : Int) || Lp.fin lp_laws_markText_l0 (x0, { data := #[] }),
    leI x0 (0 : Int) || leN (ByteArray.size { data := #[(109 : UInt8)] } + ByteArray.size (laws_markText_a0 x0)) (9223372036854775807 : Nat)]

def F_laws_markText : List SV → List Entry → Option Out
  | [.one ⟨false, [.val (.int .i64 x0)]⟩], [] => some ⟨(.one ⟨false, [(.val (.string (laws_markText_0 x0)))]⟩), [], [], [(laws_markText_1 x0)]⟩
  | _, _ => none

def p_laws_markText : PF Tryd.prog := PF.ofG Tryd.prog [] [lp_laws_markText_l0.F] hmix 124 Tryd.f124 Tryd.func124 (LOk.fnT (l := [loopAt Tryd.f124 0]) (by kernel_rfl) (.cons lpok_laws_markText_l0 (.nil _))) F_laws_markText (by
  intro vs es r h; unfold F_laws_markText at h; split at h
  · cases h; kernel_rfl
  · cases h)

abbrev X_laws_markTermS_l0 := Int × Int × List (Int × (ByteArray × Int))

def laws_markTermS_l0_a0 (y1 : Int) : Int :=
  IntKind.wrap IntKind.i64 (y1 + (1 : Int))

def laws_markTermS_l0_a1 (y0 : Int) (y2 : List (Int × (ByteArray × Int))) : ByteArray × Int :=
  Prod.snd (Option.getD y2[Int.toNat y0]? ((0 : Int), ByteArray.empty, (0 : Int)))

def laws_markTermS_l0_a2 (y0 : Int) (y1 : Int) (y2 : List (Int × (ByteArray × Int))) : List (Int × ByteArray × Int) :=
  List.set y2 (Int.toNat y0) (y1, Prod.fst (laws_markTermS_l0_a1 y0 y2), Prod.snd (laws_markTermS_l0_a1 y0 y2))

def laws_markTermS_l0_a3 (y0 : Int) (y1 : Int) (y2 : List (Int × (ByteArray × Int))) : Int × ByteArray × Int :=
  Option.getD (laws_markTermS_l0_a2 y0 y1 y2)[Int.toNat y0]? ((0 : Int), ByteArray.empty, (0 : Int))

def laws_markTermS_l0_a4 (y0 : Int) (y1 : Int) (y2 : List (Int × (ByteArray × Int))) : List (Int × ByteArray × Int) :=
  List.set (laws_markTermS_l0_a2 y0 y1 y2) (Int.toNat y0)
  (Prod.fst (laws_markTermS_l0_a3 y0 y1 y2), laws_markText_0 (laws_markTermS_l0_a0 y1), Prod.snd (Prod.snd (laws_markTermS_l0_a3 y0 y1 y2)))

def laws_markTermS_l0_a5 (y1 : Int) : Int :=
  IntKind.wrap IntKind.i64 (laws_markTermS_l0_a0 y1 + (1 : Int))

def laws_markTermS_l0_a6 (y0 : Int) (y1 : Int) (y2 : List (Int × (ByteArray × Int))) : Int × ByteArray × Int :=
  Option.getD (laws_markTermS_l0_a4 y0 y1 y2)[Int.toNat y0]? ((0 : Int), ByteArray.empty, (0 : Int))

def laws_markTermS_l0_0 (y0 : Int) (y2 : List (Int × (ByteArray × Int))) : Bool :=
  ltI y0 (↑(List.length y2) : Int)

def laws_markTermS_l0_1 (y0 : Int) : Bool :=
  leI (0 : Int) y0

def laws_markTermS_l0_2 (y0 : Int) (y2 : List (Int × (ByteArray × Int))) : Bool :=
  ltN (Int.toNat y0) (List.length y2)

def laws_markTermS_l0_3 (y1 : Int) : Bool :=
  laws_markText_1 (laws_markTermS_l0_a0 y1)

def laws_markTermS_l0_4 (y0 : Int) (y1 : Int) (y2 : List (Int × (ByteArray × Int))) : Bool :=
  ltI y0 (↑(List.length (laws_markTermS_l0_a2 y0 y1 y2)) : Int)

def laws_markTermS_l0_5 (y0 : Int) (y1 : Int) (y2 : List (Int × (ByteArray × Int))) : Bool :=
  ltN (Int.toNat y0) (List.length (laws_markTermS_l0_a2 y0 y1 y2))

def laws_markTermS_l0_6 (y0 : Int) (y1 : Int) (y2 : List (Int × (ByteArray × Int))) : Bool :=
  ltI y0 (↑(List.length (laws_markTermS_l0_a4 y0 y1 y2)) : Int)

def laws_markTermS_l0_7 (y0 : Int) (y1 : Int) (y2 : List (Int × (ByteArray × Int))) : Bool :=
  ltN (Int.toNat y0) (List.length (laws_markTermS_l0_a4 y0 y1 y2))

def laws_markTermS_l0_8 (y0 : Int) : Int :=
  IntKind.wrap IntKind.i64 (y0 + (1 : Int))

def laws_markTermS_l0_9 (y1 : Int) : Int :=
  IntKind.wrap IntKind.i64 (laws_markTermS_l0_a5 y1 + (1 : Int))

def laws_markTermS_l0_10 (y0 : Int) (y1 : Int) (y2 : List (Int × (ByteArray × Int))) : List (Int × (ByteArray × Int)) :=
  List.set (laws_markTermS_l0_a4 y0 y1 y2) (Int.toNat y0)
  (Prod.fst (laws_markTermS_l0_a6 y0 y1 y2), Prod.fst (Prod.snd (laws_markTermS_l0_a6 y0 y1 y2)), laws_markTermS_l0_a5 y1)

def JL_laws_markTermS_l0 : X_laws_markTermS_l0 → List (Nat × SV)
  | (y0, y1, _) => [(5, (.one ⟨false, [(.val (.int IntKind.i64 y0))]⟩)), (0, (.one ⟨false, [(.ref 0)]⟩)), (1, (.one ⟨false, [(.val (.int IntKind.i64 y1))]⟩))]

def JE_laws_markTermS_l0 : X_laws_markTermS_l0 → List (Nat × Entry)
  | (_, _, y2) => [(0, (.row true 31 (CTy.pair (CTy.int IntKind.i64) (CTy.pair CTy.str (CTy.int IntKind.i64))) y2))]

def XL_laws_markTermS_l0 : Nat → X_laws_markTermS_l0 → List (Nat × SV)
  | _, (_, y1, _) => [(1, (.one ⟨false, [(.val (.int IntKind.i64 y1))]⟩))]

def XE_laws_markTermS_l0 : Nat → X_laws_markTermS_l0 → List (Nat × Entry)
  | _, (_, _, y2) => [(0, (.row true 31 (CTy.pair (CTy.int IntKind.i64) (CTy.pair CTy.str (CTy.int IntKind.i64))) y2))]

def lt_laws_markTermS_l0 : X_laws_markTermS_l0 → LT X_laws_markTermS_l0
  | (y0, y1, y2) => .ite (laws_markTermS_l0_0 y0 y2) (.need [(laws_markTermS_l0_1 y0), (laws_markTermS_l0_0 y0 y2), (laws_markTermS_l0_2 y0 y2)] (.need [(laws_markTermS_l0_3 y1), (laws_markTermS_l0_1 y0), (laws_markTermS_l0_4 y0 y1 y2), (laws_markTermS_l0_5 y0 y1 y2)] (.need [(laws_markTermS_l0_1 y0), (laws_markTermS_l0_6 y0 y1 y2), (laws_markTermS_l0_7 y0 y1 y2)] (.nrm ((laws_markTermS_l0_8 y0), (laws_markTermS_l0_9 y1), (laws_markTermS_l0_10 y0 y1 y2)) [(0, 0)])))) (.ext 0 [(0, 0)])

def rd_laws_markTermS_l0 (s : St) : Option X_laws_markTermS_l0 :=
  (match s.look 5 with
  | some ⟨none, (.one ⟨false, [(.val (.int IntKind.i64 y0))]⟩)⟩ =>
  (match s.look 0 with
  | some ⟨none, (.one ⟨false, [(.ref 0)]⟩)⟩ =>
  (match s.look 1 with
  | some ⟨none, (.one ⟨false, [(.val (.int IntKind.i64 y1))]⟩)⟩ =>
  (match s.ent 0 with
  | some (.row true 31 (CTy.pair (CTy.int IntKind.i64) (CTy.pair CTy.str (CTy.int IntKind.i64))) y2) =>
  some (y0, y1, y2)
  | _ => none)
  | _ => none)
  | _ => none)
  | _ => none)

def lp_laws_markTermS_l0 : Lp X_laws_markTermS_l0 where
  h := ⟨[6, 7, 8, 9, 12, 13, 14, 15, 16, 17, 18, 1, 19, 20, 21, 22, 23, 24, 25, 26, 27, 28, 29, 30, 31, 32, 33, 10, 11, 5], [0], [], []⟩
  JL := JL_laws_markTermS_l0
  JE := JE_laws_markTermS_l0
  XL := XL_laws_markTermS_l0
  XE := XE_laws_markTermS_l0
  q := fun j => match j with | _ => .exit 0
  tags := [0]
  lt := lt_laws_markTermS_l0
  fuel := fun (y0, y1, y2) => y0.natAbs + y1.natAbs + y2.length
  fix := fun (_, _, _) (y0, y1, y2) => (y0, y1, y2)
  σ := [(0, 0)]
  rd := rd_laws_markTermS_l0

theorem lpok_laws_markTermS_l0 : LoopOk Tryd.prog (fun k => Nat.blt k Tryd.f94.ntmps) lp_laws_markTermS_l0.F (loopAt Tryd.f94 0) := by
  refine Lp.ok (tbl := [p_laws_markText]) (lf := []) hmix lp_laws_markTermS_l0 (by kernel_rfl) (LOk.nil _) (fun _ => rfl) (fun _ _ => rfl) ?_ ?_ ?_ ?_ (fun _ => rfl) ?_
  · intro x; obtain ⟨y0, y1, y2⟩ := x; kernel_rfl
  · intro x; obtain ⟨y0, y1, y2⟩ := x; kernel_rfl
  · intro s x h
    have h : rd_laws_markTermS_l0 s = some x := h
    unfold rd_laws_markTermS_l0 at h
    repeat' split at h
    all_goals cases h
    exact ⟨absS_cons (by assumption) rfl (absS_cons (by assumption) rfl (absS_cons (by assumption) rfl (rfl))), absE_cons rfl (by assumption) rfl (rfl)⟩
  · intro x; obtain ⟨y0, y1, y2⟩ := x; kernel_rfl
  · intro x z; obtain ⟨y0, y1, y2⟩ := x; exact (And.intro rfl trivial)

def laws_markTermS_a0 (x0 : Int) (x1 : List (Int × ByteArray × Int)) : Int × Int × List (Int × ByteArray × Int) :=
  ((0 : Int), x0, x1)

def laws_markTermS_a1 (x0 : Int) (x1 : List (Int × ByteArray × Int)) : Int × List (Int × ByteArray × Int) :=
  Prod.snd (Prod.snd (Lp.res lp_laws_markTermS_l0 (laws_markTermS_a0 x0 x1)))

def laws_markTermS_0 (x0 : Int) (x1 : List (Int × ByteArray × Int)) : Int :=
  Prod.fst (laws_markTermS_a1 x0 x1)

def laws_markTermS_1 (x0 : Int) (x1 : List (Int × ByteArray × Int)) : List (Int × (ByteArray × Int)) :=
  Prod.snd (laws_markTermS_a1 x0 x1)

def laws_markTermS_2 (x0 : Int) (x1 : List (Int × ByteArray × Int)) : Bool :=
  allT [Lp.fin lp_laws_markTermS_l0 (laws_markTermS_a0 x0 x1)]

def F_laws_markTermS : List SV → List Entry → Option Out
  | [.one ⟨false, [.ref 0]⟩, .one ⟨false, [.val (.int .i64 x0)]⟩], [.row true 31 (.pair (.int .i64) (.pair (.str) (.int .i64))) x1] => some ⟨(.one ⟨false, [(.val (.int IntKind.i64 (laws_markTermS_0 x0 x1)))]⟩), [(.row true 31 (CTy.pair (CTy.int IntKind.i64) (CTy.pair CTy.str (CTy.int IntKind.i64))) (laws_markTermS_1 x0 x1))], [], [(laws_markTermS_2 x0 x1)]⟩
  | _, _ => none

def p_laws_markTermS : PF Tryd.prog := PF.ofG Tryd.prog [p_laws_markText] [lp_laws_markTermS_l0.F] hmix 94 Tryd.f94 Tryd.func94 (LOk.fnT (l := [loopAt Tryd.f94 0]) (by kernel_rfl) (.cons lpok_laws_markTermS_l0 (.nil _))) F_laws_markTermS (by
  intro vs es r h; unfold F_laws_markTermS at h; split at h
  · cases h; kernel_rfl
  · cases h)

abbrev X_laws_markInstructionS_l0 := Int × Int × List (Int × Int)

def laws_markInstructionS_l0_a0 (y0 : Int) (y1 : Int) (y2 : List (Int × Int)) : List (Int × Int) :=
  List.set y2 (Int.toNat y0) (y1, Prod.snd (Option.getD y2[Int.toNat y0]? ((0 : Int), (0 : Int))))

def laws_markInstructionS_l0_a1 (y1 : Int) : Int :=
  IntKind.wrap IntKind.i64 (y1 + (1 : Int))

def laws_markInstructionS_l0_0 (y0 : Int) (y2 : List (Int × Int)) : Bool :=
  ltI y0 (↑(List.length y2) : Int)

def laws_markInstructionS_l0_1 (y0 : Int) : Bool :=
  leI (0 : Int) y0

def laws_markInstructionS_l0_2 (y0 : Int) (y2 : List (Int × Int)) : Bool :=
  ltN (Int.toNat y0) (List.length y2)

def laws_markInstructionS_l0_3 (y0 : Int) (y1 : Int) (y2 : List (Int × Int)) : Bool :=
  ltI y0 (↑(List.length (laws_markInstructionS_l0_a0 y0 y1 y2)) : Int)

def laws_markInstructionS_l0_4 (y0 : Int) (y1 : Int) (y2 : List (Int × Int)) : Bool :=
  ltN (Int.toNat y0) (List.length (laws_markInstructionS_l0_a0 y0 y1 y2))

def laws_markInstructionS_l0_5 (y0 : Int) : Int :=
  IntKind.wrap IntKind.i64 (y0 + (1 : Int))

def laws_markInstructionS_l0_6 (y1 : Int) : Int :=
  IntKind.wrap IntKind.i64 (laws_markInstructionS_l0_a1 y1 + (1 : Int))

def laws_markInstructionS_l0_7 (y0 : Int) (y1 : Int) (y2 : List (Int × Int)) : List (Int × Int) :=
  List.set (laws_markInstructionS_l0_a0 y0 y1 y2) (Int.toNat y0)
  (Prod.fst (Option.getD (laws_markInstructionS_l0_a0 y0 y1 y2)[Int.toNat y0]? ((0 : Int), (0 : Int))), laws_markInstructionS_l0_a1 y1)

def JL_laws_markInstructionS_l0 : X_laws_markInstructionS_l0 → List (Nat × SV)
  | (y0, y1, _) => [(5, (.one ⟨false, [(.val (.int IntKind.i64 y0))]⟩)), (0, (.one ⟨false, [(.ref 0)]⟩)), (1, (.one ⟨false, [(.val (.int IntKind.i64 y1))]⟩))]

def JE_laws_markInstructionS_l0 : X_laws_markInstructionS_l0 → List (Nat × Entry)
  | (_, _, y2) => [(0, (.row true 144 (CTy.pair (CTy.int IntKind.i64) (CTy.int IntKind.i64)) y2))]

def XL_laws_markInstructionS_l0 : Nat → X_laws_markInstructionS_l0 → List (Nat × SV)
  | _, (_, y1, _) => [(1, (.one ⟨false, [(.val (.int IntKind.i64 y1))]⟩))]

def XE_laws_markInstructionS_l0 : Nat → X_laws_markInstructionS_l0 → List (Nat × Entry)
  | _, (_, _, y2) => [(0, (.row true 144 (CTy.pair (CTy.int IntKind.i64) (CTy.int IntKind.i64)) y2))]

def lt_laws_markInstructionS_l0 : X_laws_markInstructionS_l0 → LT X_laws_markInstructionS_l0
  | (y0, y1, y2) => .ite (laws_markInstructionS_l0_0 y0 y2) (.need [(laws_markInstructionS_l0_1 y0), (laws_markInstructionS_l0_0 y0 y2), (laws_markInstructionS_l0_2 y0 y2)] (.need [(laws_markInstructionS_l0_1 y0), (laws_markInstructionS_l0_3 y0 y1 y2), (laws_markInstructionS_l0_4 y0 y1 y2)] (.nrm ((laws_markInstructionS_l0_5 y0), (laws_markInstructionS_l0_6 y1), (laws_markInstructionS_l0_7 y0 y1 y2)) [(0, 0)]))) (.ext 0 [(0, 0)])

def rd_laws_markInstructionS_l0 (s : St) : Option X_laws_markInstructionS_l0 :=
  (match s.look 5 with
  | some ⟨none, (.one ⟨false, [(.val (.int IntKind.i64 y0))]⟩)⟩ =>
  (match s.look 0 with
  | some ⟨none, (.one ⟨false, [(.ref 0)]⟩)⟩ =>
  (match s.look 1 with
  | some ⟨none, (.one ⟨false, [(.val (.int IntKind.i64 y1))]⟩)⟩ =>
  (match s.ent 0 with
  | some (.row true 144 (CTy.pair (CTy.int IntKind.i64) (CTy.int IntKind.i64)) y2) =>
  some (y0, y1, y2)
  | _ => none)
  | _ => none)
  | _ => none)
  | _ => none)

def lp_laws_markInstructionS_l0 : Lp X_laws_markInstructionS_l0 where
  h := ⟨[6, 7, 8, 9, 12, 13, 14, 15, 16, 17, 18, 1, 19, 20, 21, 22, 23, 24, 25, 10, 11, 5], [0], [], []⟩
  JL := JL_laws_markInstructionS_l0
  JE := JE_laws_markInstructionS_l0
  XL := XL_laws_markInstructionS_l0
  XE := XE_laws_markInstructionS_l0
  q := fun j => match j with | _ => .exit 0
  tags := [0]
  lt := lt_laws_markInstructionS_l0
  fuel := fun (y0, y1, y2) => y0.natAbs + y1.natAbs + y2.length
  fix := fun (_, _, _) (y0, y1, y2) => (y0, y1, y2)
  σ := [(0, 0)]
  rd := rd_laws_markInstructionS_l0

theorem lpok_laws_markInstructionS_l0 : LoopOk Tryd.prog (fun k => Nat.blt k Tryd.f95.ntmps) lp_laws_markInstructionS_l0.F (loopAt Tryd.f95 0) := by
  refine Lp.ok (tbl := []) (lf := []) hmix lp_laws_markInstructionS_l0 (by kernel_rfl) (LOk.nil _) (fun _ => rfl) (fun _ _ => rfl) ?_ ?_ ?_ ?_ (fun _ => rfl) ?_
  · intro x; obtain ⟨y0, y1, y2⟩ := x; kernel_rfl
  · intro x; obtain ⟨y0, y1, y2⟩ := x; kernel_rfl
  · intro s x h
    have h : rd_laws_markInstructionS_l0 s = some x := h
    unfold rd_laws_markInstructionS_l0 at h
    repeat' split at h
    all_goals cases h
    exact ⟨absS_cons (by assumption) rfl (absS_cons (by assumption) rfl (absS_cons (by assumption) rfl (rfl))), absE_cons rfl (by assumption) rfl (rfl)⟩
  · intro x; obtain ⟨y0, y1, y2⟩ := x; kernel_rfl
  · intro x z; obtain ⟨y0, y1, y2⟩ := x; exact (And.intro rfl trivial)

def laws_markInstructionS_a0 (x0 : Int) (x1 : List (Int × Int)) : Int × Int × List (Int × Int) :=
  ((0 : Int), x0, x1)

def laws_markInstructionS_a1 (x0 : Int) (x1 : List (Int × Int)) : Int × List (Int × Int) :=
  Prod.snd (Prod.snd (Lp.res lp_laws_markInstructionS_l0 (laws_markInstructionS_a0 x0 x1)))

def laws_markInstructionS_0 (x0 : Int) (x1 : List (Int × Int)) : Int :=
  Prod.fst (laws_markInstructionS_a1 x0 x1)

def laws_markInstructionS_1 (x0 : Int) (x1 : List (Int × Int)) : List (Int × Int) :=
  Prod.snd (laws_markInstructionS_a1 x0 x1)

def laws_markInstructionS_2 (x0 : Int) (x1 : List (Int × Int)) : Bool :=
  allT [Lp.fin lp_laws_markInstructionS_l0 (laws_markInstructionS_a0 x0 x1)]

def F_laws_markInstructionS : List SV → List Entry → Option Out
  | [.one ⟨false, [.ref 0]⟩, .one ⟨false, [.val (.int .i64 x0)]⟩], [.row true 144 (.pair (.int .i64) (.int .i64)) x1] => some ⟨(.one ⟨false, [(.val (.int IntKind.i64 (laws_markInstructionS_0 x0 x1)))]⟩), [(.row true 144 (CTy.pair (CTy.int IntKind.i64) (CTy.int IntKind.i64)) (laws_markInstructionS_1 x0 x1))], [], [(laws_markInstructionS_2 x0 x1)]⟩
  | _, _ => none

def p_laws_markInstructionS : PF Tryd.prog := PF.ofG Tryd.prog [] [lp_laws_markInstructionS_l0.F] hmix 95 Tryd.f95 Tryd.func95 (LOk.fnT (l := [loopAt Tryd.f95 0]) (by kernel_rfl) (.cons lpok_laws_markInstructionS_l0 (.nil _))) F_laws_markInstructionS (by
  intro vs es r h; unfold F_laws_markInstructionS at h; split at h
  · cases h; kernel_rfl
  · cases h)

abbrev X_laws_markBlockStateS_l0 := Int × Int × List (Int × (Int × Int))

def laws_markBlockStateS_l0_a0 (y0 : Int) (y2 : List (Int × (Int × Int))) : Int × Int :=
  Prod.snd (Option.getD y2[Int.toNat y0]? ((0 : Int), (0 : Int), (0 : Int)))

def laws_markBlockStateS_l0_a1 (y0 : Int) (y1 : Int) (y2 : List (Int × (Int × Int))) : List (Int × Int × Int) :=
  List.set y2 (Int.toNat y0) (y1, Prod.fst (laws_markBlockStateS_l0_a0 y0 y2), Prod.snd (laws_markBlockStateS_l0_a0 y0 y2))

def laws_markBlockStateS_l0_a2 (y0 : Int) (y1 : Int) (y2 : List (Int × (Int × Int))) : Int × Int × Int :=
  Option.getD (laws_markBlockStateS_l0_a1 y0 y1 y2)[Int.toNat y0]? ((0 : Int), (0 : Int), (0 : Int))

def laws_markBlockStateS_l0_a3 (y1 : Int) : Int :=
  IntKind.wrap IntKind.i64 (y1 + (1 : Int))

def laws_markBlockStateS_l0_a4 (y0 : Int) (y1 : Int) (y2 : List (Int × (Int × Int))) : List (Int × Int × Int) :=
  List.set (laws_markBlockStateS_l0_a1 y0 y1 y2) (Int.toNat y0)
  (Prod.fst (laws_markBlockStateS_l0_a2 y0 y1 y2), laws_markBlockStateS_l0_a3 y1, Prod.snd (Prod.snd (laws_markBlockStateS_l0_a2 y0 y1 y2)))

def laws_markBlockStateS_l0_a5 (y1 : Int) : Int :=
  IntKind.wrap IntKind.i64 (laws_markBlockStateS_l0_a3 y1 + (1 : Int))

def laws_markBlockStateS_l0_a6 (y0 : Int) (y1 : Int) (y2 : List (Int × (Int × Int))) : Int × Int × Int :=
  Option.getD (laws_markBlockStateS_l0_a4 y0 y1 y2)[Int.toNat y0]? ((0 : Int), (0 : Int), (0 : Int))

def laws_markBlockStateS_l0_0 (y0 : Int) (y2 : List (Int × (Int × Int))) : Bool :=
  ltI y0 (↑(List.length y2) : Int)

def laws_markBlockStateS_l0_1 (y0 : Int) : Bool :=
  leI (0 : Int) y0

def laws_markBlockStateS_l0_2 (y0 : Int) (y2 : List (Int × (Int × Int))) : Bool :=
  ltN (Int.toNat y0) (List.length y2)

def laws_markBlockStateS_l0_3 (y0 : Int) (y1 : Int) (y2 : List (Int × (Int × Int))) : Bool :=
  ltI y0 (↑(List.length (laws_markBlockStateS_l0_a1 y0 y1 y2)) : Int)

def laws_markBlockStateS_l0_4 (y0 : Int) (y1 : Int) (y2 : List (Int × (Int × Int))) : Bool :=
  ltN (Int.toNat y0) (List.length (laws_markBlockStateS_l0_a1 y0 y1 y2))

def laws_markBlockStateS_l0_5 (y0 : Int) (y1 : Int) (y2 : List (Int × (Int × Int))) : Bool :=
  ltI y0 (↑(List.length (laws_markBlockStateS_l0_a4 y0 y1 y2)) : Int)

def laws_markBlockStateS_l0_6 (y0 : Int) (y1 : Int) (y2 : List (Int × (Int × Int))) : Bool :=
  ltN (Int.toNat y0) (List.length (laws_markBlockStateS_l0_a4 y0 y1 y2))

def laws_markBlockStateS_l0_7 (y0 : Int) : Int :=
  IntKind.wrap IntKind.i64 (y0 + (1 : Int))

def laws_markBlockStateS_l0_8 (y1 : Int) : Int :=
  IntKind.wrap IntKind.i64 (laws_markBlockStateS_l0_a5 y1 + (1 : Int))

def laws_markBlockStateS_l0_9 (y0 : Int) (y1 : Int) (y2 : List (Int × (Int × Int))) : List (Int × (Int × Int)) :=
  List.set (laws_markBlockStateS_l0_a4 y0 y1 y2) (Int.toNat y0)
  (Prod.fst (laws_markBlockStateS_l0_a6 y0 y1 y2), Prod.fst (Prod.snd (laws_markBlockStateS_l0_a6 y0 y1 y2)), laws_markBlockStateS_l0_a5 y1)

def JL_laws_markBlockStateS_l0 : X_laws_markBlockStateS_l0 → List (Nat × SV)
  | (y0, y1, _) => [(5, (.one ⟨false, [(.val (.int IntKind.i64 y0))]⟩)), (0, (.one ⟨false, [(.ref 0)]⟩)), (1, (.one ⟨false, [(.val (.int IntKind.i64 y1))]⟩))]

def JE_laws_markBlockStateS_l0 : X_laws_markBlockStateS_l0 → List (Nat × Entry)
  | (_, _, y2) => [(0, (.row true 28 (CTy.pair (CTy.int IntKind.i64) (CTy.pair (CTy.int IntKind.i64) (CTy.int IntKind.i64))) y2))]

def XL_laws_markBlockStateS_l0 : Nat → X_laws_markBlockStateS_l0 → List (Nat × SV)
  | _, (_, y1, _) => [(1, (.one ⟨false, [(.val (.int IntKind.i64 y1))]⟩))]

def XE_laws_markBlockStateS_l0 : Nat → X_laws_markBlockStateS_l0 → List (Nat × Entry)
  | _, (_, _, y2) => [(0, (.row true 28 (CTy.pair (CTy.int IntKind.i64) (CTy.pair (CTy.int IntKind.i64) (CTy.int IntKind.i64))) y2))]

def lt_laws_markBlockStateS_l0 : X_laws_markBlockStateS_l0 → LT X_laws_markBlockStateS_l0
  | (y0, y1, y2) => .ite (laws_markBlockStateS_l0_0 y0 y2) (.need [(laws_markBlockStateS_l0_1 y0), (laws_markBlockStateS_l0_0 y0 y2), (laws_markBlockStateS_l0_2 y0 y2)] (.need [(laws_markBlockStateS_l0_1 y0), (laws_markBlockStateS_l0_3 y0 y1 y2), (laws_markBlockStateS_l0_4 y0 y1 y2)] (.need [(laws_markBlockStateS_l0_1 y0), (laws_markBlockStateS_l0_5 y0 y1 y2), (laws_markBlockStateS_l0_6 y0 y1 y2)] (.nrm ((laws_markBlockStateS_l0_7 y0), (laws_markBlockStateS_l0_8 y1), (laws_markBlockStateS_l0_9 y0 y1 y2)) [(0, 0)])))) (.ext 0 [(0, 0)])

def rd_laws_markBlockStateS_l0 (s : St) : Option X_laws_markBlockStateS_l0 :=
  (match s.look 5 with
  | some ⟨none, (.one ⟨false, [(.val (.int IntKind.i64 y0))]⟩)⟩ =>
  (match s.look 0 with
  | some ⟨none, (.one ⟨false, [(.ref 0)]⟩)⟩ =>
  (match s.look 1 with
  | some ⟨none, (.one ⟨false, [(.val (.int IntKind.i64 y1))]⟩)⟩ =>
  (match s.ent 0 with
  | some (.row true 28 (CTy.pair (CTy.int IntKind.i64) (CTy.pair (CTy.int IntKind.i64) (CTy.int IntKind.i64))) y2) =>
  some (y0, y1, y2)
  | _ => none)
  | _ => none)
  | _ => none)
  | _ => none)

def lp_laws_markBlockStateS_l0 : Lp X_laws_markBlockStateS_l0 where
  h := ⟨[6, 7, 8, 9, 12, 13, 14, 15, 16, 17, 18, 1, 19, 20, 21, 22, 23, 24, 25, 26, 27, 28, 29, 30, 31, 32, 10, 11, 5], [0], [], []⟩
  JL := JL_laws_markBlockStateS_l0
  JE := JE_laws_markBlockStateS_l0
  XL := XL_laws_markBlockStateS_l0
  XE := XE_laws_markBlockStateS_l0
  q := fun j => match j with | _ => .exit 0
  tags := [0]
  lt := lt_laws_markBlockStateS_l0
  fuel := fun (y0, y1, y2) => y0.natAbs + y1.natAbs + y2.length
  fix := fun (_, _, _) (y0, y1, y2) => (y0, y1, y2)
  σ := [(0, 0)]
  rd := rd_laws_markBlockStateS_l0

theorem lpok_laws_markBlockStateS_l0 : LoopOk Tryd.prog (fun k => Nat.blt k Tryd.f96.ntmps) lp_laws_markBlockStateS_l0.F (loopAt Tryd.f96 0) := by
  refine Lp.ok (tbl := []) (lf := []) hmix lp_laws_markBlockStateS_l0 (by kernel_rfl) (LOk.nil _) (fun _ => rfl) (fun _ _ => rfl) ?_ ?_ ?_ ?_ (fun _ => rfl) ?_
  · intro x; obtain ⟨y0, y1, y2⟩ := x; kernel_rfl
  · intro x; obtain ⟨y0, y1, y2⟩ := x; kernel_rfl
  · intro s x h
    have h : rd_laws_markBlockStateS_l0 s = some x := h
    unfold rd_laws_markBlockStateS_l0 at h
    repeat' split at h
    all_goals cases h
    exact ⟨absS_cons (by assumption) rfl (absS_cons (by assumption) rfl (absS_cons (by assumption) rfl (rfl))), absE_cons rfl (by assumption) rfl (rfl)⟩
  · intro x; obtain ⟨y0, y1, y2⟩ := x; kernel_rfl
  · intro x z; obtain ⟨y0, y1, y2⟩ := x; exact (And.intro rfl trivial)

def laws_markBlockStateS_a0 (x0 : Int) (x1 : List (Int × Int × Int)) : Int × Int × List (Int × Int × Int) :=
  ((0 : Int), x0, x1)

def laws_markBlockStateS_a1 (x0 : Int) (x1 : List (Int × Int × Int)) : Int × List (Int × Int × Int) :=
  Prod.snd (Prod.snd (Lp.res lp_laws_markBlockStateS_l0 (laws_markBlockStateS_a0 x0 x1)))

def laws_markBlockStateS_0 (x0 : Int) (x1 : List (Int × Int × Int)) : Int :=
  Prod.fst (laws_markBlockStateS_a1 x0 x1)

def laws_markBlockStateS_1 (x0 : Int) (x1 : List (Int × Int × Int)) : List (Int × (Int × Int)) :=
  Prod.snd (laws_markBlockStateS_a1 x0 x1)

def laws_markBlockStateS_2 (x0 : Int) (x1 : List (Int × Int × Int)) : Bool :=
  allT [Lp.fin lp_laws_markBlockStateS_l0 (laws_markBlockStateS_a0 x0 x1)]

def F_laws_markBlockStateS : List SV → List Entry → Option Out
  | [.one ⟨false, [.ref 0]⟩, .one ⟨false, [.val (.int .i64 x0)]⟩], [.row true 28 (.pair (.int .i64) (.pair (.int .i64) (.int .i64))) x1] => some ⟨(.one ⟨false, [(.val (.int IntKind.i64 (laws_markBlockStateS_0 x0 x1)))]⟩), [(.row true 28 (CTy.pair (CTy.int IntKind.i64) (CTy.pair (CTy.int IntKind.i64) (CTy.int IntKind.i64))) (laws_markBlockStateS_1 x0 x1))], [], [(laws_markBlockStateS_2 x0 x1)]⟩
  | _, _ => none

def p_laws_markBlockStateS : PF Tryd.prog := PF.ofG Tryd.prog [] [lp_laws_markBlockStateS_l0.F] hmix 96 Tryd.f96 Tryd.func96 (LOk.fnT (l := [loopAt Tryd.f96 0]) (by kernel_rfl) (.cons lpok_laws_markBlockStateS_l0 (.nil _))) F_laws_markBlockStateS (by
  intro vs es r h; unfold F_laws_markBlockStateS at h; split at h
  · cases h; kernel_rfl
  · cases h)

abbrev X_laws_heldBlockStateS_l0 := Int × Int × List (Int × (Int × Int))

def laws_heldBlockStateS_l0_a0 (y0 : Int) (y2 : List (Int × (Int × Int))) : Int × Int × Int :=
  Option.getD y2[Int.toNat y0]? ((0 : Int), (0 : Int), (0 : Int))

def laws_heldBlockStateS_l0_a1 (y1 : Int) : Int :=
  IntKind.wrap IntKind.i64 (y1 + (1 : Int))

def laws_heldBlockStateS_l0_a2 (y1 : Int) : Int :=
  IntKind.wrap IntKind.i64 (laws_heldBlockStateS_l0_a1 y1 + (1 : Int))

def laws_heldBlockStateS_l0_0 (y0 : Int) (y2 : List (Int × (Int × Int))) : Bool :=
  ltI y0 (↑(List.length y2) : Int)

def laws_heldBlockStateS_l0_1 (y0 : Int) : Bool :=
  leI (0 : Int) y0

def laws_heldBlockStateS_l0_2 (y0 : Int) (y2 : List (Int × (Int × Int))) : Bool :=
  ltN (Int.toNat y0) (List.length y2)

def laws_heldBlockStateS_l0_3 (y0 : Int) (y1 : Int) (y2 : List (Int × (Int × Int))) : Bool :=
  Prod.fst (laws_heldBlockStateS_l0_a0 y0 y2) != y1

def laws_heldBlockStateS_l0_4  : Int :=
  (-1 : Int)

def laws_heldBlockStateS_l0_5 (y0 : Int) (y1 : Int) (y2 : List (Int × (Int × Int))) : Bool :=
  Prod.fst (Prod.snd (laws_heldBlockStateS_l0_a0 y0 y2)) != laws_heldBlockStateS_l0_a1 y1

def laws_heldBlockStateS_l0_6 (y0 : Int) (y1 : Int) (y2 : List (Int × (Int × Int))) : Bool :=
  Prod.snd (Prod.snd (laws_heldBlockStateS_l0_a0 y0 y2)) != laws_heldBlockStateS_l0_a2 y1

def laws_heldBlockStateS_l0_7 (y0 : Int) : Int :=
  IntKind.wrap IntKind.i64 (y0 + (1 : Int))

def laws_heldBlockStateS_l0_8 (y1 : Int) : Int :=
  IntKind.wrap IntKind.i64 (laws_heldBlockStateS_l0_a2 y1 + (1 : Int))

def JL_laws_heldBlockStateS_l0 : X_laws_heldBlockStateS_l0 → List (Nat × SV)
  | (y0, y1, _) => [(5, (.one ⟨false, [(.val (.int IntKind.i64 y0))]⟩)), (0, (.one ⟨false, [(.ref 0)]⟩)), (1, (.one ⟨false, [(.val (.int IntKind.i64 y1))]⟩))]

def JE_laws_heldBlockStateS_l0 : X_laws_heldBlockStateS_l0 → List (Nat × Entry)
  | (_, _, y2) => [(0, (.row false 28 (CTy.pair (CTy.int IntKind.i64) (CTy.pair (CTy.int IntKind.i64) (CTy.int IntKind.i64))) y2))]

def XL_laws_heldBlockStateS_l0 : Nat → X_laws_heldBlockStateS_l0 → List (Nat × SV)
  | 0, (_, _, _) => [(4, (.one ⟨false, [(.val (.int IntKind.i64 (laws_heldBlockStateS_l0_4)))]⟩))]
  | 1, (_, _, _) => [(4, (.one ⟨false, [(.val (.int IntKind.i64 (laws_heldBlockStateS_l0_4)))]⟩))]
  | 2, (_, _, _) => [(4, (.one ⟨false, [(.val (.int IntKind.i64 (laws_heldBlockStateS_l0_4)))]⟩))]
  | _, (_, y1, _) => [(1, (.one ⟨false, [(.val (.int IntKind.i64 y1))]⟩))]

def XE_laws_heldBlockStateS_l0 : Nat → X_laws_heldBlockStateS_l0 → List (Nat × Entry)
  | 0, (_, _, y2) => [(0, (.row false 28 (CTy.pair (CTy.int IntKind.i64) (CTy.pair (CTy.int IntKind.i64) (CTy.int IntKind.i64))) y2))]
  | 1, (_, _, y2) => [(0, (.row false 28 (CTy.pair (CTy.int IntKind.i64) (CTy.pair (CTy.int IntKind.i64) (CTy.int IntKind.i64))) y2))]
  | 2, (_, _, y2) => [(0, (.row false 28 (CTy.pair (CTy.int IntKind.i64) (CTy.pair (CTy.int IntKind.i64) (CTy.int IntKind.i64))) y2))]
  | _, (_, _, y2) => [(0, (.row false 28 (CTy.pair (CTy.int IntKind.i64) (CTy.pair (CTy.int IntKind.i64) (CTy.int IntKind.i64))) y2))]

def lt_laws_heldBlockStateS_l0 : X_laws_heldBlockStateS_l0 → LT X_laws_heldBlockStateS_l0
  | (y0, y1, y2) => .ite (laws_heldBlockStateS_l0_0 y0 y2) (.need [(laws_heldBlockStateS_l0_1 y0), (laws_heldBlockStateS_l0_0 y0 y2), (laws_heldBlockStateS_l0_2 y0 y2)] (.ite (laws_heldBlockStateS_l0_3 y0 y1 y2) (.ext 0 [(0, 0)]) (.need [(laws_heldBlockStateS_l0_1 y0), (laws_heldBlockStateS_l0_0 y0 y2), (laws_heldBlockStateS_l0_2 y0 y2)] (.ite (laws_heldBlockStateS_l0_5 y0 y1 y2) (.ext 1 [(0, 0)]) (.need [(laws_heldBlockStateS_l0_1 y0), (laws_heldBlockStateS_l0_0 y0 y2), (laws_heldBlockStateS_l0_2 y0 y2)] (.ite (laws_heldBlockStateS_l0_6 y0 y1 y2) (.ext 2 [(0, 0)]) (.nrm ((laws_heldBlockStateS_l0_7 y0), (laws_heldBlockStateS_l0_8 y1), y2) [(0, 0)]))))))) (.ext 3 [(0, 0)])

def rd_laws_heldBlockStateS_l0 (s : St) : Option X_laws_heldBlockStateS_l0 :=
  (match s.look 5 with
  | some ⟨none, (.one ⟨false, [(.val (.int IntKind.i64 y0))]⟩)⟩ =>
  (match s.look 0 with
  | some ⟨none, (.one ⟨false, [(.ref 0)]⟩)⟩ =>
  (match s.look 1 with
  | some ⟨none, (.one ⟨false, [(.val (.int IntKind.i64 y1))]⟩)⟩ =>
  (match s.ent 0 with
  | some (.row false 28 (CTy.pair (CTy.int IntKind.i64) (CTy.pair (CTy.int IntKind.i64) (CTy.int IntKind.i64))) y2) =>
  some (y0, y1, y2)
  | _ => none)
  | _ => none)
  | _ => none)
  | _ => none)

def lp_laws_heldBlockStateS_l0 : Lp X_laws_heldBlockStateS_l0 where
  h := ⟨[6, 7, 8, 9, 12, 13, 14, 15, 16, 17, 18, 4, 19, 20, 1, 21, 22, 23, 24, 25, 26, 27, 28, 29, 30, 31, 32, 33, 34, 35, 36, 37, 38, 10, 11, 5], [0], [], []⟩
  JL := JL_laws_heldBlockStateS_l0
  JE := JE_laws_heldBlockStateS_l0
  XL := XL_laws_heldBlockStateS_l0
  XE := XE_laws_heldBlockStateS_l0
  q := fun j => match j with | 0 => .ret | 1 => .ret | 2 => .ret | _ => .exit 0
  tags := [0, 1, 2, 3]
  lt := lt_laws_heldBlockStateS_l0
  fuel := fun (y0, y1, y2) => y0.natAbs + y1.natAbs + y2.length
  fix := fun (_, _, y2) (y0, y1, _) => (y0, y1, y2)
  σ := [(0, 0)]
  rd := rd_laws_heldBlockStateS_l0

theorem lpok_laws_heldBlockStateS_l0 : LoopOk Tryd.prog (fun k => Nat.blt k Tryd.f97.ntmps) lp_laws_heldBlockStateS_l0.F (loopAt Tryd.f97 0) := by
  refine Lp.ok (tbl := []) (lf := []) hmix lp_laws_heldBlockStateS_l0 (by kernel_rfl) (LOk.nil _) (fun _ => rfl) (fun j _ => by unfold lp_laws_heldBlockStateS_l0; match j with | 0 => rfl | 1 => rfl | 2 => rfl | _ + 3 => rfl) ?_ ?_ ?_ ?_ (fun _ => rfl) ?_
  · intro x; obtain ⟨y0, y1, y2⟩ := x; kernel_rfl
  · intro x; obtain ⟨y0, y1, y2⟩ := x; kernel_rfl
  · intro s x h
    have h : rd_laws_heldBlockStateS_l0 s = some x := h
    unfold rd_laws_heldBlockStateS_l0 at h
    repeat' split at h
    all_goals cases h
    exact ⟨absS_cons (by assumption) rfl (absS_cons (by assumption) rfl (absS_cons (by assumption) rfl (rfl))), absE_cons rfl (by assumption) rfl (rfl)⟩
  · intro x; obtain ⟨y0, y1, y2⟩ := x; kernel_rfl
  · intro x z; obtain ⟨y0, y1, y2⟩ := x; exact (And.intro (And.intro trivial (And.intro trivial (And.intro trivial rfl))) trivial)

def laws_heldBlockStateS_a0 (x0 : Int) (x1 : List (Int × Int × Int)) : Int × Int × List (Int × Int × Int) :=
  ((0 : Int), x0, x1)

def laws_heldBlockStateS_0 (x0 : Int) (x1 : List (Int × Int × Int)) : Int :=
  bif Nat.beq (Prod.fst (Lp.res lp_laws_heldBlockStateS_l0 (laws_heldBlockStateS_a0 x0 x1))) (0 : Nat) then laws_heldBlockStateS_l0_4
  else
  bif Nat.beq (Prod.fst (Lp.res lp_laws_heldBlockStateS_l0 (laws_heldBlockStateS_a0 x0 x1))) (1 : Nat) then laws_heldBlockStateS_l0_4
  else
    bif Nat.beq (Prod.fst (Lp.res lp_laws_heldBlockStateS_l0 (laws_heldBlockStateS_a0 x0 x1))) (2 : Nat) then laws_heldBlockStateS_l0_4
    else Prod.fst (Prod.snd (Prod.snd (Lp.res lp_laws_heldBlockStateS_l0 (laws_heldBlockStateS_a0 x0 x1))))

def laws_heldBlockStateS_1 (x0 : Int) (x1 : List (Int × Int × Int)) : Bool :=
  allT [Lp.fin lp_laws_heldBlockStateS_l0 (laws_heldBlockStateS_a0 x0 x1)]

def F_laws_heldBlockStateS : List SV → List Entry → Option Out
  | [.one ⟨false, [.ref 0]⟩, .one ⟨false, [.val (.int .i64 x0)]⟩], [.row false 28 (.pair (.int .i64) (.pair (.int .i64) (.int .i64))) x1] => some ⟨(.one ⟨false, [(.val (.int IntKind.i64 (laws_heldBlockStateS_0 x0 x1)))]⟩), [(.row false 28 (CTy.pair (CTy.int IntKind.i64) (CTy.pair (CTy.int IntKind.i64) (CTy.int IntKind.i64))) x1)], [], [(laws_heldBlockStateS_1 x0 x1)]⟩
  | _, _ => none

def p_laws_heldBlockStateS : PF Tryd.prog := PF.ofG Tryd.prog [] [lp_laws_heldBlockStateS_l0.F] hmix 97 Tryd.f97 Tryd.func97 (LOk.fnT (l := [loopAt Tryd.f97 0]) (by kernel_rfl) (.cons lpok_laws_heldBlockStateS_l0 (.nil _))) F_laws_heldBlockStateS (by
  intro vs es r h; unfold F_laws_heldBlockStateS at h; split at h
  · cases h; kernel_rfl
  · cases h)

end Go.SX

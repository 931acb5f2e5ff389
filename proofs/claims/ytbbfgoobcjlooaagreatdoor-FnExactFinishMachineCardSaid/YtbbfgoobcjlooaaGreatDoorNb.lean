/- What functions of the program come to, and what that says in plain words: part 2. -/
import Derived.Test.YtbbfgoobcjlooaaGreatDoorNa
import Derived.Test.YtbbfgoobcjlooaaGreatDoorTXh
import Derived.Test.YtbbfgoobcjlooaaGreatDoorProg
set_option linter.unusedSimpArgs false
set_option linter.unusedVariables false
namespace Go.SX
open Go.Proofs
set_option maxRecDepth 100000

abbrev kbq := Int × Int × List (Int × (ByteArray × Int))

def kho (y0 : Int) (y1 : Int) (y2 : List (Int × (ByteArray × Int))) : Int :=
  kg6 (Prod.fst (Prod.snd (Option.getD y2[Int.toNat y0]? ((0 : Int), ByteArray.empty, (0 : Int))))) y1

def kiy (y0 : Int) (y2 : List (Int × (ByteArray × Int))) : Bool :=
  ltI y0 (↑(List.length y2) : Int)

def kmm (y0 : Int) : Bool :=
  leI (0 : Int) y0

def kmq (y0 : Int) (y2 : List (Int × (ByteArray × Int))) : Bool :=
  ltN (Int.toNat y0) (List.length y2)

def km7 (y0 : Int) (y1 : Int) (y2 : List (Int × (ByteArray × Int))) : Bool :=
  ltI (kho y0 y1 y2) (0 : Int)

def kgx  : Int :=
  (-1 : Int)

def kma (y0 : Int) : Int :=
  IntKind.wrap IntKind.i64 (y0 + (1 : Int))

def kmx (y0 : Int) (y1 : Int) (y2 : List (Int × (ByteArray × Int))) : Int :=
  kho y0 y1 y2

def k12s : kbq → List (Nat × SV)
  | (y0, y1, _) => [(5, (.one ⟨false, [(.val (.int IntKind.i64 y0))]⟩)), (0, (.one ⟨false, [(.ref 0)]⟩)), (1, (.one ⟨false, [(.val (.int IntKind.i64 y1))]⟩))]

def k133 : kbq → List (Nat × Entry)
  | (_, _, y2) => [(0, (.row false 175 (CTy.pair (CTy.int IntKind.i64) (CTy.pair CTy.str (CTy.int IntKind.i64))) y2))]

def k12u : Nat → kbq → List (Nat × SV)
  | 0, (_, _, _) => [(4, (.one ⟨false, [(.val (.int IntKind.i64 (kgx)))]⟩))]
  | _, (_, y1, _) => [(1, (.one ⟨false, [(.val (.int IntKind.i64 y1))]⟩))]

def k12m : Nat → kbq → List (Nat × Entry)
  | 0, (_, _, y2) => [(0, (.row false 175 (CTy.pair (CTy.int IntKind.i64) (CTy.pair CTy.str (CTy.int IntKind.i64))) y2))]
  | _, (_, _, y2) => [(0, (.row false 175 (CTy.pair (CTy.int IntKind.i64) (CTy.pair CTy.str (CTy.int IntKind.i64))) y2))]

def kkh : kbq → LT kbq
  | (y0, y1, y2) => .ite (kiy y0 y2) (.need [(kmm y0), (kiy y0 y2), (kmq y0 y2)] (.ite (km7 y0 y1 y2) (.ext 0 [(0, 0)]) (.nrm ((kma y0), (kmx y0 y1 y2), y2) [(0, 0)]))) (.ext 1 [(0, 0)])

def krs (s : St) : Option kbq :=
  (match s.look 5 with
  | some ⟨none, (.one ⟨false, [(.val (.int IntKind.i64 y0))]⟩)⟩ =>
  (match s.look 0 with
  | some ⟨none, (.one ⟨false, [(.ref 0)]⟩)⟩ =>
  (match s.look 1 with
  | some ⟨none, (.one ⟨false, [(.val (.int IntKind.i64 y1))]⟩)⟩ =>
  (match s.ent 0 with
  | some (.row false 175 (CTy.pair (CTy.int IntKind.i64) (CTy.pair CTy.str (CTy.int IntKind.i64))) y2) =>
  some (y0, y1, y2)
  | _ => none)
  | _ => none)
  | _ => none)
  | _ => none)

def k4e : Lp kbq where
  h := ⟨[12, 13, 14, 15, 18, 19, 20, 21, 22, 23, 1, 24, 25, 4, 16, 17, 5], [0], [], []⟩
  JL := k12s
  JE := k133
  XL := k12u
  XE := k12m
  q := fun j => match j with | 0 => .ret | _ => .exit 0
  tags := [0, 1]
  lt := kkh
  fuel := fun (y0, y1, y2) => y0.natAbs + y1.natAbs + y2.length
  fix := fun (_, _, y2) (y0, y1, _) => (y0, y1, y2)
  σ := [(0, 0)]
  rd := krs

theorem k10n : LoopOk Tryz.prog (fun k => Nat.blt k Tryz.f84.ntmps) k4e.F (loopAt Tryz.f84 0) := by
  refine Lp.ok (tbl := [k136]) (lf := []) hmix k4e (by kernel_rfl) (LOk.nil _) (fun _ => rfl) (fun j _ => by unfold k4e; match j with | 0 => rfl | _ + 1 => rfl) ?_ ?_ ?_ ?_ (fun _ => rfl) ?_
  · intro x; obtain ⟨y0, y1, y2⟩ := x; kernel_rfl
  · intro x; obtain ⟨y0, y1, y2⟩ := x; kernel_rfl
  · intro s x h
    have h : krs s = some x := h
    unfold krs at h
    repeat' split at h
    all_goals cases h
    exact ⟨absS_cons (by assumption) rfl (absS_cons (by assumption) rfl (absS_cons (by assumption) rfl (rfl))), absE_cons rfl (by assumption) rfl (rfl)⟩
  · intro x; obtain ⟨y0, y1, y2⟩ := x; kernel_rfl
  · intro x z; obtain ⟨y0, y1, y2⟩ := x; exact (And.intro (And.intro trivial rfl) trivial)

def ksh (x0 : Int) (x1 : List (Int × ByteArray × Int)) : Int :=
  IntKind.wrap IntKind.i64 (x0 - (↑(List.length x1) : Int))

def ksq (x0 : Int) (x1 : List (Int × ByteArray × Int)) : Int × Int × List (Int × ByteArray × Int) :=
  ((0 : Int), ksh x0 x1, x1)

def kxo (x0 : Int) (x1 : List (Int × ByteArray × Int)) : Int :=
  bif ltI (ksh x0 x1) (0 : Int) then (-1 : Int)
  else
  bif Nat.beq (Prod.fst (Lp.res k4e (ksq x0 x1))) (0 : Nat) then kgx
  else Prod.fst (Prod.snd (Prod.snd (Lp.res k4e (ksq x0 x1))))

def kxs (x0 : Int) (x1 : List (Int × ByteArray × Int)) : Bool :=
  allT [ltI (ksh x0 x1) (0 : Int) || Lp.fin k4e (ksq x0 x1)]

def k114 : List SV → List Entry → Option Out
  | [.one ⟨false, [.ref 0]⟩, .one ⟨false, [.val (.int .i64 x0)]⟩], [.row false 175 (.pair (.int .i64) (.pair (.str) (.int .i64))) x1] => some ⟨(.one ⟨false, [(.val (.int IntKind.i64 (kxo x0 x1)))]⟩), [(.row false 175 (CTy.pair (CTy.int IntKind.i64) (CTy.pair CTy.str (CTy.int IntKind.i64))) x1)], [], [(kxs x0 x1)]⟩
  | _, _ => none

def k15o : PF Tryz.prog := PF.ofG Tryz.prog [k136] [k4e.F] hmix 84 Tryz.f84 Tryz.func84 (LOk.fnT (l := [loopAt Tryz.f84 0]) (by kernel_rfl) (.cons k10n (.nil _))) k114 (by
  intro vs es r h; unfold k114 at h; split at h
  · cases h; kernel_rfl
  · cases h)

def knz (x0 : Int) (x1 : List (Int × Int)) : Int :=
  IntKind.wrap IntKind.i64 (x0 - (↑(List.length x1) : Int))

def kp4 (x0 : Int) (x1 : List (Int × Int)) : Int :=
  bif ltI (knz x0 x1) (0 : Int) then (-1 : Int) else knz x0 x1

def ktj : List SV → List Entry → Option Out
  | [.one ⟨false, [.ref 0]⟩, .one ⟨false, [.val (.int .i64 x0)]⟩], [.row false 183 (.pair (.int .i64) (.int .i64)) x1] => some ⟨(.one ⟨false, [(.val (.int IntKind.i64 (kp4 x0 x1)))]⟩), [(.row false 183 (CTy.pair (CTy.int IntKind.i64) (CTy.int IntKind.i64)) x1)], [], []⟩
  | _, _ => none

def kz9 : PF Tryz.prog := PF.ofG Tryz.prog [] [] hmix 85 Tryz.f85 Tryz.func85 (fun c _ => LOk.nil c) ktj (by
  intro vs es r h; unfold ktj at h; split at h
  · cases h; kernel_rfl
  · cases h)

def kab (x3 : Int) : Bool :=
  bif x3 == (1 : Int) then x3 == (1 : Int) else bif x3 == (2 : Int) then x3 == (2 : Int) else x3 == (3 : Int)

def ka2 (x3 : Int) : Bool :=
  bif x3 == (5 : Int) then x3 == (5 : Int) else x3 == (6 : Int)

def kec (x3 : Int) : Bool :=
  bif x3 == (8 : Int) then x3 == (8 : Int) else x3 == (9 : Int)

def k4l (x3 : Int) (x4 : Int) (x5 : List (Int × ByteArray × Int)) : Int :=
  bif kab x3 then (0 : Int)
  else
  bif x3 == (4 : Int) then (1 : Int)
  else
    bif ka2 x3 then (2 : Int)
    else
      bif x3 == (7 : Int) then kn6 (Prod.fst (Option.getD x5[Int.toNat x4]? ((0 : Int), ByteArray.empty, (0 : Int))))
      else bif kec x3 then (1 : Int) else (0 : Int)

def k7x (x3 : Int) : Int :=
  bif kab x3 then (1 : Int)
  else
  bif x3 == (4 : Int) then (1 : Int)
  else bif ka2 x3 then (1 : Int) else bif x3 == (7 : Int) then (1 : Int) else bif kec x3 then (0 : Int) else (0 : Int)

def kh9 (x3 : Int) (x4 : Int) (x5 : List (Int × ByteArray × Int)) : Bool :=
  allT
  [kab x3 || (x3 == (4 : Int) || (ka2 x3 || (!x3 == (7 : Int) || leI (0 : Int) x4))),
    kab x3 || (x3 == (4 : Int) || (ka2 x3 || (!x3 == (7 : Int) || ltI x4 (↑(List.length x5) : Int)))),
    kab x3 || (x3 == (4 : Int) || (ka2 x3 || (!x3 == (7 : Int) || ltN (Int.toNat x4) (List.length x5))))]

def kzw : List SV → List Entry → Option Out
  | [.one ⟨true, [.val (.int .i64 _x0), .val (.int .i64 _x1), .val (.int .i64 _x2), .ref 0, .ref 1]⟩, .one ⟨true, [.val (.int .i64 x3), .val (.int .i64 x4)]⟩], [.row false 178 (.pair (.int .i64) (.pair (.str) (.int .i64))) x5, .row false 150 (.pair (.int .i64) (.int .i64)) x6] => some ⟨(.tup [⟨false, [(.val (.int IntKind.i64 (k4l x3 x4 x5)))]⟩, ⟨false, [(.val (.int IntKind.i64 (k7x x3)))]⟩]), [(.row false 178 (CTy.pair (CTy.int IntKind.i64) (CTy.pair CTy.str (CTy.int IntKind.i64))) x5), (.row false 150 (CTy.pair (CTy.int IntKind.i64) (CTy.int IntKind.i64)) x6)], [], [(kh9 x3 x4 x5)]⟩
  | _, _ => none

def kg3 : PF Tryz.prog := PF.ofG Tryz.prog [k151] [] hmix 189 Tryz.f189 Tryz.func189 (fun c _ => LOk.nil c) kzw (by
  intro vs es r h; unfold kzw at h; split at h
  · cases h; kernel_rfl
  · cases h)

def kh7 (x0 : Int) (x1 : Int) (x2 : Int) (x3 : Int) (x4 : Int) (x5 : List (Int × ByteArray × Int)) : Bool :=
  bif x3 == (1 : Int) then k1u x4 (0 : Int) (1 : Int)
  else
  bif bif x3 == (2 : Int) then x3 == (2 : Int) else x3 == (10 : Int) then k1u x4 (0 : Int) (IntKind.wrap IntKind.i64 (x0 - (1 : Int)))
  else
    bif bif x3 == (3 : Int) then x3 == (3 : Int) else bif x3 == (8 : Int) then x3 == (8 : Int) else x3 == (11 : Int) then
      k1u x4 (0 : Int) (IntKind.wrap IntKind.i64 (x1 - (1 : Int)))
    else
      bif bif x3 == (4 : Int) then x3 == (4 : Int) else bif x3 == (5 : Int) then x3 == (5 : Int) else x3 == (6 : Int) then x4 == (0 : Int)
      else
        bif x3 == (7 : Int) then k1u x4 (0 : Int) (IntKind.wrap IntKind.i64 ((↑(List.length x5) : Int) - (1 : Int)))
        else bif x3 == (9 : Int) then k1u x4 (0 : Int) (IntKind.wrap IntKind.i64 (x2 - (1 : Int))) else false

def k126 : List SV → List Entry → Option Out
  | [.one ⟨true, [.val (.int .i64 x0), .val (.int .i64 x1), .val (.int .i64 x2), .ref 0, .ref 1]⟩, .one ⟨true, [.val (.int .i64 x3), .val (.int .i64 x4)]⟩], [.row false 178 (.pair (.int .i64) (.pair (.str) (.int .i64))) x5, .row false 150 (.pair (.int .i64) (.int .i64)) x6] => some ⟨(.one ⟨false, [(.val (.bool (kh7 x0 x1 x2 x3 x4 x5)))]⟩), [(.row false 178 (CTy.pair (CTy.int IntKind.i64) (CTy.pair CTy.str (CTy.int IntKind.i64))) x5), (.row false 150 (CTy.pair (CTy.int IntKind.i64) (CTy.int IntKind.i64)) x6)], [], []⟩
  | _, _ => none

def koo : PF Tryz.prog := PF.ofG Tryz.prog [khu] [] hmix 213 Tryz.f213 Tryz.func213 (fun c _ => LOk.nil c) k126 (by
  intro vs es r h; unfold k126 at h; split at h
  · cases h; kernel_rfl
  · cases h)

abbrev k7w := Int × Int × Int × Int × Int × List Int × List (Int × (ByteArray × Int)) × List (Int × Int)

def k3h (y0 : Int) (y7 : List (Int × Int)) : Int × Int :=
  Option.getD y7[Int.toNat y0]? ((0 : Int), (0 : Int))

def kh1 (y0 : Int) (y6 : List (Int × (ByteArray × Int))) (y7 : List (Int × Int)) : Int :=
  k4l (Prod.fst (k3h y0 y7)) (Prod.snd (k3h y0 y7)) y6

def kau (y0 : Int) (y1 : Int) (y6 : List (Int × (ByteArray × Int))) (y7 : List (Int × Int)) : Int :=
  IntKind.wrap IntKind.i64 (IntKind.wrap IntKind.i64 (y1 - kh1 y0 y6 y7) + k7x (Prod.fst (k3h y0 y7)))

def kdh (y0 : Int) (y7 : List (Int × Int)) : Bool :=
  ltI y0 (↑(List.length y7) : Int)

def kid (y0 : Int) : Bool :=
  leI (0 : Int) y0

def kht (y0 : Int) (y7 : List (Int × Int)) : Bool :=
  ltN (Int.toNat y0) (List.length y7)

def ki0 (y0 : Int) (y2 : Int) (y3 : Int) (y4 : Int) (y6 : List (Int × (ByteArray × Int))) (y7 : List (Int × Int)) : Bool :=
  !kh7 y2 y3 y4 (Prod.fst (k3h y0 y7)) (Prod.snd (k3h y0 y7)) y6

def klt (y0 : Int) (y6 : List (Int × (ByteArray × Int))) (y7 : List (Int × Int)) : Bool :=
  kh9 (Prod.fst (k3h y0 y7)) (Prod.snd (k3h y0 y7)) y6

def kln (y0 : Int) (y1 : Int) (y6 : List (Int × (ByteArray × Int))) (y7 : List (Int × Int)) : Bool :=
  bif ltI y1 (kh1 y0 y6 y7) then true else ltI (40 : Int) (kau y0 y1 y6 y7)

def klp (y0 : Int) (y1 : Int) (y5 : List Int) (y6 : List (Int × (ByteArray × Int))) (y7 : List (Int × Int)) : Bool :=
  leN (List.length y5 + List.length [kau y0 y1 y6 y7]) (9223372036854775807 : Nat)

def kle (y0 : Int) (y1 : Int) (y5 : List Int) (y6 : List (Int × (ByteArray × Int))) (y7 : List (Int × Int)) : Bool :=
  leN ((List.length y5 + List.length [kau y0 y1 y6 y7]) * (8 : Nat)) (140737488355328 : Nat)

def klh (y0 : Int) : Int :=
  IntKind.wrap IntKind.i64 (y0 + (1 : Int))

def klx (y0 : Int) (y1 : Int) (y6 : List (Int × (ByteArray × Int))) (y7 : List (Int × Int)) : Int :=
  kau y0 y1 y6 y7

def kk3 (y0 : Int) (y1 : Int) (y5 : List Int) (y6 : List (Int × (ByteArray × Int))) (y7 : List (Int × Int)) : List Int :=
  y5 ++ [kau y0 y1 y6 y7]

def kze : k7w → List (Nat × SV)
  | (y0, y1, _, _, _, _, _, _) => [(6, (.one ⟨false, [(.val (.int IntKind.i64 y0))]⟩)), (1, (.one ⟨false, [(.ptr 0 0)]⟩)), (5, (.one ⟨false, [(.val (.int IntKind.i64 y1))]⟩)), (4, (.one ⟨false, [(.ref 1)]⟩))]

def kzk : k7w → List (Nat × Entry)
  | (_, _, y2, y3, y4, y5, y6, y7) => [(0, (.box 34 [(.val (.int IntKind.i64 y2)), (.val (.int IntKind.i64 y3)), (.val (.int IntKind.i64 y4)), (.ref 2), (.ref 3)])), (2, (.row false 178 (CTy.pair (CTy.int IntKind.i64) (CTy.pair CTy.str (CTy.int IntKind.i64))) y6)), (3, (.row false 150 (CTy.pair (CTy.int IntKind.i64) (CTy.int IntKind.i64)) y7)), (1, (.row true 2 (CTy.int IntKind.i64) y5))]

def kzg : Nat → k7w → List (Nat × SV)
  | 0, (_, _, _, _, _, _, _, _) => [(2, (.one ⟨false, [(.ref 4)]⟩)), (3, (.one ⟨false, [(.val (.bool false))]⟩))]
  | 1, (_, _, _, _, _, _, _, _) => [(2, (.one ⟨false, [(.ref 4)]⟩)), (3, (.one ⟨false, [(.val (.bool false))]⟩))]
  | _, (_, y1, _, _, _, _, _, _) => [(5, (.one ⟨false, [(.val (.int IntKind.i64 y1))]⟩)), (4, (.one ⟨false, [(.ref 1)]⟩))]

def kzq : Nat → k7w → List (Nat × Entry)
  | 0, (_, _, y2, y3, y4, y5, y6, y7) => [(0, (.box 34 [(.val (.int IntKind.i64 y2)), (.val (.int IntKind.i64 y3)), (.val (.int IntKind.i64 y4)), (.ref 2), (.ref 3)])), (1, (.row true 2 (CTy.int IntKind.i64) y5)), (2, (.row false 178 (CTy.pair (CTy.int IntKind.i64) (CTy.pair CTy.str (CTy.int IntKind.i64))) y6)), (3, (.row false 150 (CTy.pair (CTy.int IntKind.i64) (CTy.int IntKind.i64)) y7)), (4, (.row true 2 (CTy.int IntKind.i64) []))]
  | 1, (_, _, y2, y3, y4, y5, y6, y7) => [(0, (.box 34 [(.val (.int IntKind.i64 y2)), (.val (.int IntKind.i64 y3)), (.val (.int IntKind.i64 y4)), (.ref 2), (.ref 3)])), (1, (.row true 2 (CTy.int IntKind.i64) y5)), (2, (.row false 178 (CTy.pair (CTy.int IntKind.i64) (CTy.pair CTy.str (CTy.int IntKind.i64))) y6)), (3, (.row false 150 (CTy.pair (CTy.int IntKind.i64) (CTy.int IntKind.i64)) y7)), (4, (.row true 2 (CTy.int IntKind.i64) []))]
  | _, (_, _, y2, y3, y4, y5, y6, y7) => [(0, (.box 34 [(.val (.int IntKind.i64 y2)), (.val (.int IntKind.i64 y3)), (.val (.int IntKind.i64 y4)), (.ref 2), (.ref 3)])), (1, (.row true 2 (CTy.int IntKind.i64) y5)), (2, (.row false 178 (CTy.pair (CTy.int IntKind.i64) (CTy.pair CTy.str (CTy.int IntKind.i64))) y6)), (3, (.row false 150 (CTy.pair (CTy.int IntKind.i64) (CTy.int IntKind.i64)) y7))]

def kh0 : k7w → LT k7w
  | (y0, y1, y2, y3, y4, y5, y6, y7) => .ite (kdh y0 y7) (.need [(kid y0), (kdh y0 y7), (kht y0 y7)] (.ite (ki0 y0 y2 y3 y4 y6 y7) (.ext 0 [(0, 0), (1, 1), (2, 2), (3, 3), (4, 896)]) (.need [(kid y0), (kdh y0 y7), (kht y0 y7), (klt y0 y6 y7)] (.ite (kln y0 y1 y6 y7) (.ext 1 [(0, 0), (1, 1), (2, 2), (3, 3), (4, 2368)]) (.need [(klp y0 y1 y5 y6 y7), (kle y0 y1 y5 y6 y7)] (.nrm ((klh y0), (klx y0 y1 y6 y7), y2, y3, y4, (kk3 y0 y1 y5 y6 y7), y6, y7) [(0, 0), (1, 2944), (2, 2), (3, 3)])))))) (.ext 2 [(0, 0), (1, 1), (2, 2), (3, 3)])

def kpc (s : St) : Option k7w :=
  (match s.look 6 with
  | some ⟨none, (.one ⟨false, [(.val (.int IntKind.i64 y0))]⟩)⟩ =>
  (match s.look 1 with
  | some ⟨none, (.one ⟨false, [(.ptr 192 0)]⟩)⟩ =>
  (match s.look 5 with
  | some ⟨none, (.one ⟨false, [(.val (.int IntKind.i64 y1))]⟩)⟩ =>
  (match s.look 4 with
  | some ⟨none, (.one ⟨false, [(.ref 384)]⟩)⟩ =>
  (match s.ent 192 with
  | some (.box 34 [(.val (.int IntKind.i64 y2)), (.val (.int IntKind.i64 y3)), (.val (.int IntKind.i64 y4)), (.ref 0), (.ref 1)]) =>
  (match s.ent 0 with
  | some (.row false 178 (CTy.pair (CTy.int IntKind.i64) (CTy.pair CTy.str (CTy.int IntKind.i64))) y6) =>
  (match s.ent 1 with
  | some (.row false 150 (CTy.pair (CTy.int IntKind.i64) (CTy.int IntKind.i64)) y7) =>
  (match s.ent 384 with
  | some (.row true 2 (CTy.int IntKind.i64) y5) =>
  some (y0, y1, y2, y3, y4, y5, y6, y7)
  | _ => none)
  | _ => none)
  | _ => none)
  | _ => none)
  | _ => none)
  | _ => none)
  | _ => none)
  | _ => none)

def k2o : Lp k7w where
  h := ⟨[10, 11, 12, 13, 14, 17, 18, 19, 20, 21, 22, 23, 24, 2, 3, 26, 27, 28, 29, 30, 31, 32, 25, 33, 34, 7, 8, 35, 36, 37, 38, 39, 40, 41, 42, 43, 44, 45, 46, 47, 48, 49, 50, 5, 51, 52, 53, 54, 4, 15, 16, 6], [0, 2, 3], [1], [4]⟩
  JL := kze
  JE := kzk
  XL := kzg
  XE := kzq
  q := fun j => match j with | 0 => .ret | 1 => .ret | _ => .exit 0
  tags := [0, 1, 2]
  lt := kh0
  fuel := fun (y0, y1, y2, y3, y4, y5, y6, y7) => y0.natAbs + y1.natAbs + y2.natAbs + y3.natAbs + y4.natAbs + y5.length + y6.length + y7.length
  fix := fun (_, _, y2, y3, y4, _, y6, y7) (y0, y1, _, _, _, y5, _, _) => (y0, y1, y2, y3, y4, y5, y6, y7)
  σ := [(0, 192), (2, 0), (3, 1), (1, 384)]
  rd := kpc

theorem ky7 : LoopOk Tryz.prog (fun k => Nat.blt k Tryz.f155.ntmps) k2o.F (loopAt Tryz.f155 0) := by
  refine Lp.ok (tbl := [kg3, PF.lend kg3, PF.fz kg3, koo, PF.lend koo, PF.fz koo]) (lf := []) hmix k2o (by kernel_rfl) (LOk.nil _) (fun _ => rfl) (fun j _ => by unfold k2o; match j with | 0 => rfl | 1 => rfl | _ + 2 => rfl) ?_ ?_ ?_ ?_ (fun _ => rfl) ?_
  · intro x; obtain ⟨y0, y1, y2, y3, y4, y5, y6, y7⟩ := x; kernel_rfl
  · intro x; obtain ⟨y0, y1, y2, y3, y4, y5, y6, y7⟩ := x; kernel_rfl
  · intro s x h
    have h : kpc s = some x := h
    unfold kpc at h
    repeat' split at h
    all_goals cases h
    exact ⟨absS_cons (by assumption) rfl (absS_cons (by assumption) rfl (absS_cons (by assumption) rfl (absS_cons (by assumption) rfl (rfl)))), absE_cons rfl (by assumption) rfl (absE_cons rfl (by assumption) rfl (absE_cons rfl (by assumption) rfl (absE_cons rfl (by assumption) rfl (rfl))))⟩
  · intro x; obtain ⟨y0, y1, y2, y3, y4, y5, y6, y7⟩ := x; kernel_rfl
  · intro x z; obtain ⟨y0, y1, y2, y3, y4, y5, y6, y7⟩ := x; exact (And.intro (And.intro trivial (And.intro trivial rfl)) trivial)

def kkq (x0 : Int) (x1 : Int) (x2 : Int) (x3 : List (Int × ByteArray × Int)) (x4 : List (Int × Int)) : Int × Int × Int × Int × Int × List Int × List (Int × ByteArray × Int) × List (Int × Int) :=
  ((0 : Int), (0 : Int), x0, x1, x2, [], x3, x4)

def ksa (x0 : Int) (x1 : Int) (x2 : Int) (x3 : List (Int × ByteArray × Int)) (x4 : List (Int × Int)) : Bool :=
  Nat.beq (Prod.fst (Lp.res k2o (kkq x0 x1 x2 x3 x4))) (0 : Nat)

def kru (x0 : Int) (x1 : Int) (x2 : Int) (x3 : List (Int × ByteArray × Int)) (x4 : List (Int × Int)) : Bool :=
  Nat.beq (Prod.fst (Lp.res k2o (kkq x0 x1 x2 x3 x4))) (1 : Nat)

def ksg (x0 : Int) (x1 : Int) (x2 : Int) (x3 : List (Int × ByteArray × Int)) (x4 : List (Int × Int)) : Int × Int × Int × Int × List Int × List (Int × ByteArray × Int) × List (Int × Int) :=
  Prod.snd (Prod.snd (Lp.res k2o (kkq x0 x1 x2 x3 x4)))

def kpp (x0 : Int) (x1 : Int) (x2 : Int) (x3 : List (Int × ByteArray × Int)) (x4 : List (Int × Int)) : Bool :=
  bif ksa x0 x1 x2 x3 x4 then false
  else bif kru x0 x1 x2 x3 x4 then false else Prod.fst (ksg x0 x1 x2 x3 x4) == (0 : Int)

def kt9 (x0 : Int) (x1 : Int) (x2 : Int) (x3 : List (Int × ByteArray × Int)) (x4 : List (Int × Int)) : List Int :=
  bif ksa x0 x1 x2 x3 x4 then []
  else bif kru x0 x1 x2 x3 x4 then [] else Prod.fst (Prod.snd (Prod.snd (Prod.snd (Prod.snd (ksg x0 x1 x2 x3 x4)))))

def kpm (x0 : Int) (x1 : Int) (x2 : Int) (x3 : List (Int × ByteArray × Int)) (x4 : List (Int × Int)) : Bool :=
  allT [Lp.fin k2o (kkq x0 x1 x2 x3 x4)]

def kxu : List SV → List Entry → Option Out
  | [.one ⟨true, [.val (.int .i64 x0), .val (.int .i64 x1), .val (.int .i64 x2), .ref 0, .ref 1]⟩], [.row false 178 (.pair (.int .i64) (.pair (.str) (.int .i64))) x3, .row false 150 (.pair (.int .i64) (.int .i64)) x4] => some ⟨(.tup [⟨false, [(.ref 2)]⟩, ⟨false, [(.val (.bool (kpp x0 x1 x2 x3 x4)))]⟩]), [(.row false 178 (CTy.pair (CTy.int IntKind.i64) (CTy.pair CTy.str (CTy.int IntKind.i64))) x3), (.row false 150 (CTy.pair (CTy.int IntKind.i64) (CTy.int IntKind.i64)) x4)], [(.row true 2 (CTy.int IntKind.i64) (kt9 x0 x1 x2 x3 x4))], [(kpm x0 x1 x2 x3 x4)]⟩
  | _, _ => none

def kgy : PF Tryz.prog := PF.ofG Tryz.prog [kg3, PF.lend kg3, PF.fz kg3, koo, PF.lend koo, PF.fz koo] [k2o.F] hmix 155 Tryz.f155 Tryz.func155 (LOk.fnT (l := [loopAt Tryz.f155 0]) (by kernel_rfl) (.cons ky7 (.nil _))) kxu (by
  intro vs es r h; unfold kxu at h; split at h
  · cases h; kernel_rfl
  · cases h)

abbrev kd0 := Int × Int × Int × Int × List (Int × (ByteArray × Int)) × List (Int × Int)

def kbt (y0 : Int) (y4 : List (Int × (ByteArray × Int))) : Int × ByteArray × Int :=
  Option.getD y4[Int.toNat y0]? ((0 : Int), ByteArray.empty, (0 : Int))

def kkw (y0 : Int) (y4 : List (Int × (ByteArray × Int))) : Bool :=
  ltI y0 (↑(List.length y4) : Int)

def kqs (y0 : Int) : Bool :=
  leI (0 : Int) y0

def kqk (y0 : Int) (y4 : List (Int × (ByteArray × Int))) : Bool :=
  ltN (Int.toNat y0) (List.length y4)

def kqt (y0 : Int) (y4 : List (Int × (ByteArray × Int))) : Bool :=
  leN (ByteArray.size (Prod.fst (Prod.snd (kbt y0 y4)))) (9223372036854775807 : Nat)

def ko5 (y0 : Int) (y4 : List (Int × (ByteArray × Int))) : Bool :=
  !blockB (Prod.fst (kbt y0 y4)) (Prod.fst (Prod.snd (kbt y0 y4))) (Prod.snd (Prod.snd (kbt y0 y4)))

def kqv (y0 : Int) : Int :=
  IntKind.wrap IntKind.i64 (y0 + (1 : Int))

def k143 : kd0 → List (Nat × SV)
  | (y0, _, _, _, _, _) => [(3, (.one ⟨false, [(.val (.int IntKind.i64 y0))]⟩)), (1, (.one ⟨false, [(.ptr 0 0)]⟩))]

def k147 : kd0 → List (Nat × Entry)
  | (_, y1, y2, y3, y4, y5) => [(0, (.box 34 [(.val (.int IntKind.i64 y1)), (.val (.int IntKind.i64 y2)), (.val (.int IntKind.i64 y3)), (.ref 1), (.ref 2)])), (1, (.row false 178 (CTy.pair (CTy.int IntKind.i64) (CTy.pair CTy.str (CTy.int IntKind.i64))) y4)), (2, (.row false 150 (CTy.pair (CTy.int IntKind.i64) (CTy.int IntKind.i64)) y5))]

def k140 : Nat → kd0 → List (Nat × SV)
  | 0, (_, _, _, _, _, _) => [(2, (.one ⟨false, [(.val (.bool false))]⟩))]
  | _, (_, _, _, _, _, _) => []

def k13z : Nat → kd0 → List (Nat × Entry)
  | 0, (_, y1, y2, y3, y4, y5) => [(0, (.box 34 [(.val (.int IntKind.i64 y1)), (.val (.int IntKind.i64 y2)), (.val (.int IntKind.i64 y3)), (.ref 1), (.ref 2)])), (1, (.row false 178 (CTy.pair (CTy.int IntKind.i64) (CTy.pair CTy.str (CTy.int IntKind.i64))) y4)), (2, (.row false 150 (CTy.pair (CTy.int IntKind.i64) (CTy.int IntKind.i64)) y5))]
  | _, (_, y1, y2, y3, y4, y5) => [(0, (.box 34 [(.val (.int IntKind.i64 y1)), (.val (.int IntKind.i64 y2)), (.val (.int IntKind.i64 y3)), (.ref 1), (.ref 2)])), (1, (.row false 178 (CTy.pair (CTy.int IntKind.i64) (CTy.pair CTy.str (CTy.int IntKind.i64))) y4)), (2, (.row false 150 (CTy.pair (CTy.int IntKind.i64) (CTy.int IntKind.i64)) y5))]

def km4 : kd0 → LT kd0
  | (y0, y1, y2, y3, y4, y5) => .ite (kkw y0 y4) (.need [(kqs y0), (kkw y0 y4), (kqk y0 y4), (kqt y0 y4)] (.ite (ko5 y0 y4) (.ext 0 [(0, 0), (1, 1), (2, 2)]) (.nrm ((kqv y0), y1, y2, y3, y4, y5) [(0, 0), (1, 1), (2, 2)]))) (.ext 1 [(0, 0), (1, 1), (2, 2)])

def ktc (s : St) : Option kd0 :=
  (match s.look 3 with
  | some ⟨none, (.one ⟨false, [(.val (.int IntKind.i64 y0))]⟩)⟩ =>
  (match s.look 1 with
  | some ⟨none, (.one ⟨false, [(.ptr 192 0)]⟩)⟩ =>
  (match s.ent 192 with
  | some (.box 34 [(.val (.int IntKind.i64 y1)), (.val (.int IntKind.i64 y2)), (.val (.int IntKind.i64 y3)), (.ref 0), (.ref 1)]) =>
  (match s.ent 0 with
  | some (.row false 178 (CTy.pair (CTy.int IntKind.i64) (CTy.pair CTy.str (CTy.int IntKind.i64))) y4) =>
  (match s.ent 1 with
  | some (.row false 150 (CTy.pair (CTy.int IntKind.i64) (CTy.int IntKind.i64)) y5) =>
  some (y0, y1, y2, y3, y4, y5)
  | _ => none)
  | _ => none)
  | _ => none)
  | _ => none)
  | _ => none)

def k6h : Lp kd0 where
  h := ⟨[34, 35, 36, 37, 38, 41, 42, 43, 44, 45, 46, 47, 2, 39, 40, 3], [0, 1, 2], [], []⟩
  JL := k143
  JE := k147
  XL := k140
  XE := k13z
  q := fun j => match j with | 0 => .ret | _ => .exit 0
  tags := [0, 1]
  lt := km4
  fuel := fun (y0, y1, y2, y3, y4, y5) => y0.natAbs + y1.natAbs + y2.natAbs + y3.natAbs + y4.length + y5.length
  fix := fun (_, y1, y2, y3, y4, y5) (y0, _, _, _, _, _) => (y0, y1, y2, y3, y4, y5)
  σ := [(0, 192), (1, 0), (2, 1)]
  rd := ktc

theorem k11a : LoopOk Tryz.prog (fun k => Nat.blt k Tryz.f87.ntmps) k6h.F (loopAt Tryz.f87 0) := by
  refine Lp.ok (tbl := [khu, k120, kgy, PF.lend kgy, PF.fz kgy]) (lf := []) hmix k6h (by kernel_rfl) (LOk.nil _) (fun _ => rfl) (fun j _ => by unfold k6h; match j with | 0 => rfl | _ + 1 => rfl) ?_ ?_ ?_ ?_ (fun _ => rfl) ?_
  · intro x; obtain ⟨y0, y1, y2, y3, y4, y5⟩ := x; kernel_rfl
  · intro x; obtain ⟨y0, y1, y2, y3, y4, y5⟩ := x; kernel_rfl
  · intro s x h
    have h : ktc s = some x := h
    unfold ktc at h
    repeat' split at h
    all_goals cases h
    exact ⟨absS_cons (by assumption) rfl (absS_cons (by assumption) rfl (rfl)), absE_cons rfl (by assumption) rfl (absE_cons rfl (by assumption) rfl (absE_cons rfl (by assumption) rfl (rfl)))⟩
  · intro x; obtain ⟨y0, y1, y2, y3, y4, y5⟩ := x; kernel_rfl
  · intro x z; obtain ⟨y0, y1, y2, y3, y4, y5⟩ := x; exact (And.intro (And.intro trivial rfl) trivial)

def kll (x0 : Int) (x1 : Int) (x2 : Int) (x3 : List (Int × ByteArray × Int)) (x4 : List (Int × Int)) : Bool :=
  bif
    bif
        bif bif !k1u x0 (0 : Int) (20 : Int) then true else !k1u x1 (0 : Int) (20 : Int) then true
        else !k1u x2 (0 : Int) (20 : Int) then
      true
    else ltI (2000 : Int) (↑(List.length x3) : Int) then
  true
  else ltI (2000 : Int) (↑(List.length x4) : Int)

def kx7 (x0 : Int) (x1 : Int) (x2 : Int) (x3 : List (Int × ByteArray × Int)) (x4 : List (Int × Int)) : Int × Int × Int × Int × List (Int × ByteArray × Int) × List (Int × Int) :=
  ((0 : Int), x0, x1, x2, x3, x4)

def kx5 (x0 : Int) (x1 : Int) (x2 : Int) (x3 : List (Int × ByteArray × Int)) (x4 : List (Int × Int)) : Bool :=
  Nat.beq (Prod.fst (Lp.res k6h (kx7 x0 x1 x2 x3 x4))) (0 : Nat)

def kz6 (x0 : Int) (x1 : Int) (x2 : Int) (x3 : List (Int × ByteArray × Int)) (x4 : List (Int × Int)) : Bool :=
  bif kll x0 x1 x2 x3 x4 then false else bif kx5 x0 x1 x2 x3 x4 then false else kpp x0 x1 x2 x3 x4

def kz0 (x0 : Int) (x1 : Int) (x2 : Int) (x3 : List (Int × ByteArray × Int)) (x4 : List (Int × Int)) : Bool :=
  allT
  [kll x0 x1 x2 x3 x4 || Lp.fin k6h (kx7 x0 x1 x2 x3 x4),
    kll x0 x1 x2 x3 x4 || (kx5 x0 x1 x2 x3 x4 || kpm x0 x1 x2 x3 x4)]

def k13c : List SV → List Entry → Option Out
  | [.one ⟨true, [.val (.int .i64 x0), .val (.int .i64 x1), .val (.int .i64 x2), .ref 0, .ref 1]⟩], [.row false 178 (.pair (.int .i64) (.pair (.str) (.int .i64))) x3, .row false 150 (.pair (.int .i64) (.int .i64)) x4] => some ⟨(.one ⟨false, [(.val (.bool (kz6 x0 x1 x2 x3 x4)))]⟩), [(.row false 178 (CTy.pair (CTy.int IntKind.i64) (CTy.pair CTy.str (CTy.int IntKind.i64))) x3), (.row false 150 (CTy.pair (CTy.int IntKind.i64) (CTy.int IntKind.i64)) x4)], [], [(kz0 x0 x1 x2 x3 x4)]⟩
  | _, _ => none

def k160 : PF Tryz.prog := PF.ofG Tryz.prog [khu, k120, kgy, PF.lend kgy, PF.fz kgy] [k6h.F] hmix 87 Tryz.f87 Tryz.func87 (LOk.fnT (l := [loopAt Tryz.f87 0]) (by kernel_rfl) (.cons k11a (.nil _))) k13c (by
  intro vs es r h; unfold k13c at h; split at h
  · cases h; kernel_rfl
  · cases h)

abbrev kbs := Int × List (Int × (ByteArray × Int)) × List (Int × (ByteArray × Int))

def kfl (y0 : Int) (y1 : List (Int × (ByteArray × Int))) : Int × ByteArray × Int :=
  Option.getD y1[Int.toNat y0]? ((0 : Int), ByteArray.empty, (0 : Int))

def kit (y0 : Int) (y1 : List (Int × (ByteArray × Int))) : Bool :=
  ltI y0 (↑(List.length y1) : Int)

def kiz (y0 : Int) : Bool :=
  leI (0 : Int) y0

def kmz (y0 : Int) (y1 : List (Int × (ByteArray × Int))) : Bool :=
  ltN (Int.toNat y0) (List.length y1)

def kmd (y0 : Int) (y2 : List (Int × (ByteArray × Int))) : Bool :=
  ltI y0 (↑(List.length y2) : Int)

def km0 (y0 : Int) (y2 : List (Int × (ByteArray × Int))) : Bool :=
  ltN (Int.toNat y0) (List.length y2)

def kmk (y0 : Int) : Int :=
  IntKind.wrap IntKind.i64 (y0 + (1 : Int))

def kmh (y0 : Int) (y1 : List (Int × (ByteArray × Int))) (y2 : List (Int × (ByteArray × Int))) : List (Int × (ByteArray × Int)) :=
  List.set y2 (Int.toNat y0)
  (Prod.fst (kfl y0 y1), Prod.fst (Prod.snd (kfl y0 y1)), Prod.snd (Prod.snd (kfl y0 y1)))

def k12h : kbs → List (Nat × SV)
  | (y0, _, _) => [(4, (.one ⟨false, [(.val (.int IntKind.i64 y0))]⟩)), (0, (.one ⟨false, [(.ref 0)]⟩)), (3, (.one ⟨false, [(.ref 1)]⟩))]

def k12i : kbs → List (Nat × Entry)
  | (_, y1, y2) => [(0, (.row false 175 (CTy.pair (CTy.int IntKind.i64) (CTy.pair CTy.str (CTy.int IntKind.i64))) y1)), (1, (.row true 178 (CTy.pair (CTy.int IntKind.i64) (CTy.pair CTy.str (CTy.int IntKind.i64))) y2))]

def k132 : Nat → kbs → List (Nat × SV)
  | _, (_, _, _) => []

def k12f : Nat → kbs → List (Nat × Entry)
  | _, (_, y1, y2) => [(0, (.row false 175 (CTy.pair (CTy.int IntKind.i64) (CTy.pair CTy.str (CTy.int IntKind.i64))) y1)), (1, (.row true 178 (CTy.pair (CTy.int IntKind.i64) (CTy.pair CTy.str (CTy.int IntKind.i64))) y2))]

def kke : kbs → LT kbs
  | (y0, y1, y2) => .ite (kit y0 y1) (.need [(kiz y0), (kit y0 y1), (kmz y0 y1), (kiz y0), (kmd y0 y2), (km0 y0 y2)] (.nrm ((kmk y0), y1, (kmh y0 y1 y2)) [(0, 0), (1, 1)])) (.ext 0 [(0, 0), (1, 1)])

def ks7 (s : St) : Option kbs :=
  (match s.look 4 with
  | some ⟨none, (.one ⟨false, [(.val (.int IntKind.i64 y0))]⟩)⟩ =>
  (match s.look 0 with
  | some ⟨none, (.one ⟨false, [(.ref 0)]⟩)⟩ =>
  (match s.look 3 with
  | some ⟨none, (.one ⟨false, [(.ref 320)]⟩)⟩ =>
  (match s.ent 0 with
  | some (.row false 175 (CTy.pair (CTy.int IntKind.i64) (CTy.pair CTy.str (CTy.int IntKind.i64))) y1) =>
  (match s.ent 320 with
  | some (.row true 178 (CTy.pair (CTy.int IntKind.i64) (CTy.pair CTy.str (CTy.int IntKind.i64))) y2) =>
  some (y0, y1, y2)
  | _ => none)
  | _ => none)
  | _ => none)
  | _ => none)
  | _ => none)

def k6e : Lp kbs where
  h := ⟨[8, 9, 10, 11, 14, 15, 16, 17, 18, 19, 20, 21, 12, 13, 4], [0, 1], [], []⟩
  JL := k12h
  JE := k12i
  XL := k132
  XE := k12f
  q := fun j => match j with | _ => .exit 0
  tags := [0]
  lt := kke
  fuel := fun (y0, y1, y2) => y0.natAbs + y1.length + y2.length
  fix := fun (_, y1, _) (y0, _, y2) => (y0, y1, y2)
  σ := [(0, 0), (1, 320)]
  rd := ks7

theorem k10h : LoopOk Tryz.prog (fun k => Nat.blt k Tryz.f90.ntmps) k6e.F (loopAt Tryz.f90 0) := by
  refine Lp.ok (tbl := [k13b]) (lf := []) hmix k6e (by kernel_rfl) (LOk.nil _) (fun _ => rfl) (fun _ _ => rfl) ?_ ?_ ?_ ?_ (fun _ => rfl) ?_
  · intro x; obtain ⟨y0, y1, y2⟩ := x; kernel_rfl
  · intro x; obtain ⟨y0, y1, y2⟩ := x; kernel_rfl
  · intro s x h
    have h : ks7 s = some x := h
    unfold ks7 at h
    repeat' split at h
    all_goals cases h
    exact ⟨absS_cons (by assumption) rfl (absS_cons (by assumption) rfl (absS_cons (by assumption) rfl (rfl))), absE_cons rfl (by assumption) rfl (absE_cons rfl (by assumption) rfl (rfl))⟩
  · intro x; obtain ⟨y0, y1, y2⟩ := x; kernel_rfl
  · intro x z; obtain ⟨y0, y1, y2⟩ := x; exact (And.intro rfl trivial)

def kst (x0 : List (Int × ByteArray × Int)) : Int × List (Int × ByteArray × Int) × List (Int × ByteArray × Int) :=
  ((0 : Int), x0, List.replicate (Int.toNat (↑(List.length x0) : Int)) ((0 : Int), { data := #[] }, (0 : Int)))

def kts (x0 : List (Int × ByteArray × Int)) : List (Int × (ByteArray × Int)) :=
  Prod.snd (Prod.snd (Prod.snd (Lp.res k6e (kst x0))))

def ktv (x0 : List (Int × ByteArray × Int)) : Bool :=
  allT
  [leI (0 : Int) (↑(List.length x0) : Int), leI (↑(List.length x0) : Int) (↑(List.length x0) : Int),
    leI ((↑(32 : Nat) : Int) * (↑(List.length x0) : Int)) (281474976710656 : Int), leI (↑(List.length x0) : Int) (9223372036854775807 : Int),
    Lp.fin k6e (kst x0)]

def k11m : List SV → List Entry → Option Out
  | [.one ⟨false, [.ref 0]⟩], [.row false 175 (.pair (.int .i64) (.pair (.str) (.int .i64))) x0] => some ⟨(.one ⟨false, [(.ref 1)]⟩), [(.row false 175 (CTy.pair (CTy.int IntKind.i64) (CTy.pair CTy.str (CTy.int IntKind.i64))) x0)], [(.row true 178 (CTy.pair (CTy.int IntKind.i64) (CTy.pair CTy.str (CTy.int IntKind.i64))) (kts x0))], [(ktv x0)]⟩
  | _, _ => none

def k15i : PF Tryz.prog := PF.ofG Tryz.prog [k13b] [k6e.F] hmix 90 Tryz.f90 Tryz.func90 (LOk.fnT (l := [loopAt Tryz.f90 0]) (by kernel_rfl) (.cons k10h (.nil _))) k11m (by
  intro vs es r h; unfold k11m at h; split at h
  · cases h; kernel_rfl
  · cases h)

def kuf : List SV → List Entry → Option Out
  | [.one ⟨true, [.val (.int .i64 x0), .val (.int .i64 x1)]⟩], [] => some ⟨(.one ⟨true, [(.val (.int IntKind.i64 x0)), (.val (.int IntKind.i64 x1))]⟩), [], [], []⟩
  | _, _ => none

def ku3 : PF Tryz.prog := PF.ofG Tryz.prog [] [] hmix 157 Tryz.f157 Tryz.func157 (fun c _ => LOk.nil c) kuf (by
  intro vs es r h; unfold kuf at h; split at h
  · cases h; kernel_rfl
  · cases h)

abbrev k4i := Int × List (Int × Int) × List (Int × Int)

def kb6 (y0 : Int) (y1 : List (Int × Int)) : Int × Int :=
  Option.getD y1[Int.toNat y0]? ((0 : Int), (0 : Int))

def kc0 (y0 : Int) (y1 : List (Int × Int)) : Bool :=
  ltI y0 (↑(List.length y1) : Int)

def kbw (y0 : Int) : Bool :=
  leI (0 : Int) y0

def ke9 (y0 : Int) (y1 : List (Int × Int)) : Bool :=
  ltN (Int.toNat y0) (List.length y1)

def kee (y0 : Int) (y2 : List (Int × Int)) : Bool :=
  ltI y0 (↑(List.length y2) : Int)

def kem (y0 : Int) (y2 : List (Int × Int)) : Bool :=
  ltN (Int.toNat y0) (List.length y2)

def ket (y0 : Int) : Int :=
  IntKind.wrap IntKind.i64 (y0 + (1 : Int))

def kef (y0 : Int) (y1 : List (Int × Int)) (y2 : List (Int × Int)) : List (Int × Int) :=
  List.set y2 (Int.toNat y0) (Prod.fst (kb6 y0 y1), Prod.snd (kb6 y0 y1))

def kwa : k4i → List (Nat × SV)
  | (y0, _, _) => [(4, (.one ⟨false, [(.val (.int IntKind.i64 y0))]⟩)), (0, (.one ⟨false, [(.ref 0)]⟩)), (3, (.one ⟨false, [(.ref 1)]⟩))]

def kwf : k4i → List (Nat × Entry)
  | (_, y1, y2) => [(0, (.row false 183 (CTy.pair (CTy.int IntKind.i64) (CTy.int IntKind.i64)) y1)), (1, (.row true 150 (CTy.pair (CTy.int IntKind.i64) (CTy.int IntKind.i64)) y2))]

def kwo : Nat → k4i → List (Nat × SV)
  | _, (_, _, _) => []

def kwt : Nat → k4i → List (Nat × Entry)
  | _, (_, y1, y2) => [(0, (.row false 183 (CTy.pair (CTy.int IntKind.i64) (CTy.int IntKind.i64)) y1)), (1, (.row true 150 (CTy.pair (CTy.int IntKind.i64) (CTy.int IntKind.i64)) y2))]

def kdl : k4i → LT k4i
  | (y0, y1, y2) => .ite (kc0 y0 y1) (.need [(kbw y0), (kc0 y0 y1), (ke9 y0 y1), (kbw y0), (kee y0 y2), (kem y0 y2)] (.nrm ((ket y0), y1, (kef y0 y1 y2)) [(0, 0), (1, 1)])) (.ext 0 [(0, 0), (1, 1)])

def kkv (s : St) : Option k4i :=
  (match s.look 4 with
  | some ⟨none, (.one ⟨false, [(.val (.int IntKind.i64 y0))]⟩)⟩ =>
  (match s.look 0 with
  | some ⟨none, (.one ⟨false, [(.ref 0)]⟩)⟩ =>
  (match s.look 3 with
  | some ⟨none, (.one ⟨false, [(.ref 320)]⟩)⟩ =>
  (match s.ent 0 with
  | some (.row false 183 (CTy.pair (CTy.int IntKind.i64) (CTy.int IntKind.i64)) y1) =>
  (match s.ent 320 with
  | some (.row true 150 (CTy.pair (CTy.int IntKind.i64) (CTy.int IntKind.i64)) y2) =>
  some (y0, y1, y2)
  | _ => none)
  | _ => none)
  | _ => none)
  | _ => none)
  | _ => none)

def k2n : Lp k4i where
  h := ⟨[8, 9, 10, 11, 14, 15, 16, 17, 18, 19, 20, 21, 12, 13, 4], [0, 1], [], []⟩
  JL := kwa
  JE := kwf
  XL := kwo
  XE := kwt
  q := fun j => match j with | _ => .exit 0
  tags := [0]
  lt := kdl
  fuel := fun (y0, y1, y2) => y0.natAbs + y1.length + y2.length
  fix := fun (_, y1, _) (y0, _, y2) => (y0, y1, y2)
  σ := [(0, 0), (1, 320)]
  rd := kkv

theorem kv1 : LoopOk Tryz.prog (fun k => Nat.blt k Tryz.f91.ntmps) k2n.F (loopAt Tryz.f91 0) := by
  refine Lp.ok (tbl := [ku3]) (lf := []) hmix k2n (by kernel_rfl) (LOk.nil _) (fun _ => rfl) (fun _ _ => rfl) ?_ ?_ ?_ ?_ (fun _ => rfl) ?_
  · intro x; obtain ⟨y0, y1, y2⟩ := x; kernel_rfl
  · intro x; obtain ⟨y0, y1, y2⟩ := x; kernel_rfl
  · intro s x h
    have h : kkv s = some x := h
    unfold kkv at h
    repeat' split at h
    all_goals cases h
    exact ⟨absS_cons (by assumption) rfl (absS_cons (by assumption) rfl (absS_cons (by assumption) rfl (rfl))), absE_cons rfl (by assumption) rfl (absE_cons rfl (by assumption) rfl (rfl))⟩
  · intro x; obtain ⟨y0, y1, y2⟩ := x; kernel_rfl
  · intro x z; obtain ⟨y0, y1, y2⟩ := x; exact (And.intro rfl trivial)

def kjg (x0 : List (Int × Int)) : Int × List (Int × Int) × List (Int × Int) :=
  ((0 : Int), x0, List.replicate (Int.toNat (↑(List.length x0) : Int)) ((0 : Int), (0 : Int)))

def kjx (x0 : List (Int × Int)) : List (Int × Int) :=
  Prod.snd (Prod.snd (Prod.snd (Lp.res k2n (kjg x0))))

def kjw (x0 : List (Int × Int)) : Bool :=
  allT
  [leI (0 : Int) (↑(List.length x0) : Int), leI (↑(List.length x0) : Int) (↑(List.length x0) : Int),
    leI ((↑(16 : Nat) : Int) * (↑(List.length x0) : Int)) (281474976710656 : Int), leI (↑(List.length x0) : Int) (9223372036854775807 : Int),
    Lp.fin k2n (kjg x0)]

def ktq : List SV → List Entry → Option Out
  | [.one ⟨false, [.ref 0]⟩], [.row false 183 (.pair (.int .i64) (.int .i64)) x0] => some ⟨(.one ⟨false, [(.ref 1)]⟩), [(.row false 183 (CTy.pair (CTy.int IntKind.i64) (CTy.int IntKind.i64)) x0)], [(.row true 150 (CTy.pair (CTy.int IntKind.i64) (CTy.int IntKind.i64)) (kjx x0))], [(kjw x0)]⟩
  | _, _ => none

def kzs : PF Tryz.prog := PF.ofG Tryz.prog [ku3] [k2n.F] hmix 91 Tryz.f91 Tryz.func91 (LOk.fnT (l := [loopAt Tryz.f91 0]) (by kernel_rfl) (.cons kv1 (.nil _))) ktq (by
  intro vs es r h; unfold ktq at h; split at h
  · cases h; kernel_rfl
  · cases h)

def k156 (x0 : Int) (x1 : ByteArray) (x2 : Int) : Bool :=
  !blockB x0 x1 x2

def k101 : List SV → List Entry → Option Out
  | [.one ⟨true, [.val (.int .i64 x0), .val (.string x1), .val (.int .i64 x2)]⟩], [] => some ⟨(.one ⟨false, [(.val (.bool (k156 x0 x1 x2)))]⟩), [], [], []⟩
  | _, _ => none

def k14z : PF Tryz.prog := PF.ofG Tryz.prog [k11z] [] hmix 160 Tryz.f160 Tryz.func160 (fun c _ => LOk.nil c) k101 (by
  intro vs es r h; unfold k101 at h; split at h
  · cases h; kernel_rfl
  · cases h)

def kyp (x0 : Int) : Int :=
  bif bif x0 == (1 : Int) then x0 == (1 : Int) else bif x0 == (2 : Int) then x0 == (2 : Int) else x0 == (3 : Int) then (0 : Int)
  else
  bif
      bif x0 == (4 : Int) then x0 == (4 : Int)
      else bif x0 == (7 : Int) then x0 == (7 : Int) else bif x0 == (8 : Int) then x0 == (8 : Int) else x0 == (9 : Int) then
    (1 : Int)
  else (2 : Int)

def kys : List SV → List Entry → Option Out
  | [.one ⟨false, [.val (.int .i64 x0)]⟩], [] => some ⟨(.one ⟨false, [(.val (.int IntKind.i64 (kyp x0)))]⟩), [], [], []⟩
  | _, _ => none

def k14g : PF Tryz.prog := PF.ofG Tryz.prog [] [] hmix 222 Tryz.f222 Tryz.func222 (fun c _ => LOk.nil c) kys (by
  intro vs es r h; unfold kys at h; split at h
  · cases h; kernel_rfl
  · cases h)

def k53 (x3 : Int) : Bool :=
  bif x3 == (1 : Int) then x3 == (1 : Int) else bif x3 == (2 : Int) then x3 == (2 : Int) else x3 == (3 : Int)

def k54 (x3 : Int) : Bool :=
  bif x3 == (5 : Int) then x3 == (5 : Int) else x3 == (6 : Int)

def kgm (x3 : Int) : Bool :=
  bif x3 == (8 : Int) then x3 == (8 : Int) else x3 == (9 : Int)

def k1c (x3 : Int) (x4 : Int) (x5 : List (Int × ByteArray × Int)) : Int :=
  bif k53 x3 then (0 : Int)
  else
  bif x3 == (4 : Int) then (1 : Int)
  else
    bif k54 x3 then (2 : Int)
    else
      bif x3 == (7 : Int) then kyp (Prod.fst (Option.getD x5[Int.toNat x4]? ((0 : Int), ByteArray.empty, (0 : Int))))
      else bif kgm x3 then (1 : Int) else (0 : Int)

def k1t (x3 : Int) : Int :=
  bif k53 x3 then (1 : Int)
  else
  bif x3 == (4 : Int) then (1 : Int)
  else
    bif k54 x3 then (1 : Int)
    else bif x3 == (7 : Int) then (1 : Int) else bif kgm x3 then (0 : Int) else (0 : Int)

def k5f (x3 : Int) (x4 : Int) (x5 : List (Int × ByteArray × Int)) : Bool :=
  allT
  [k53 x3 ||
      (x3 == (4 : Int) || (k54 x3 || (!x3 == (7 : Int) || leI (0 : Int) x4))),
    k53 x3 ||
      (x3 == (4 : Int) || (k54 x3 || (!x3 == (7 : Int) || ltI x4 (↑(List.length x5) : Int)))),
    k53 x3 ||
      (x3 == (4 : Int) || (k54 x3 || (!x3 == (7 : Int) || ltN (Int.toNat x4) (List.length x5))))]

def kh4 : List SV → List Entry → Option Out
  | [.one ⟨true, [.val (.int .i64 _x0), .val (.int .i64 _x1), .val (.int .i64 _x2), .ref 0, .ref 1]⟩, .one ⟨true, [.val (.int .i64 x3), .val (.int .i64 x4)]⟩], [.row false 178 (.pair (.int .i64) (.pair (.str) (.int .i64))) x5, .row false 150 (.pair (.int .i64) (.int .i64)) x6] => some ⟨(.tup [⟨false, [(.val (.int IntKind.i64 (k1c x3 x4 x5)))]⟩, ⟨false, [(.val (.int IntKind.i64 (k1t x3)))]⟩]), [(.row false 178 (CTy.pair (CTy.int IntKind.i64) (CTy.pair CTy.str (CTy.int IntKind.i64))) x5), (.row false 150 (CTy.pair (CTy.int IntKind.i64) (CTy.int IntKind.i64)) x6)], [], [(k5f x3 x4 x5)]⟩
  | _, _ => none

def k2g : PF Tryz.prog := PF.ofG Tryz.prog [k14g] [] hmix 196 Tryz.f196 Tryz.func196 (fun c _ => LOk.nil c) kh4 (by
  intro vs es r h; unfold kh4 at h; split at h
  · cases h; kernel_rfl
  · cases h)

def knc (x0 : List (Int × ByteArray × Int)) : Int :=
  (↑(List.length x0) : Int)

def kre : List SV → List Entry → Option Out
  | [.one ⟨false, [.ref 0]⟩], [.row false 178 (.pair (.int .i64) (.pair (.str) (.int .i64))) x0] => some ⟨(.one ⟨false, [(.val (.int IntKind.i64 (knc x0)))]⟩), [(.row false 178 (CTy.pair (CTy.int IntKind.i64) (CTy.pair CTy.str (CTy.int IntKind.i64))) x0)], [], []⟩
  | _, _ => none

def knb : PF Tryz.prog := PF.ofG Tryz.prog [] [] hmix 254 Tryz.f254 Tryz.func254 (fun c _ => LOk.nil c) kre (by
  intro vs es r h; unfold kre at h; split at h
  · cases h; kernel_rfl
  · cases h)

def k4b (x0 : Int) (x1 : Int) (x2 : Int) (x3 : Int) (x4 : List (Int × ByteArray × Int)) : Int :=
  bif x3 == (1 : Int) then (2 : Int)
  else
  bif bif x3 == (2 : Int) then x3 == (2 : Int) else x3 == (10 : Int) then x0
  else
    bif bif x3 == (3 : Int) then x3 == (3 : Int) else bif x3 == (8 : Int) then x3 == (8 : Int) else x3 == (11 : Int) then x1
    else
      bif bif x3 == (4 : Int) then x3 == (4 : Int) else bif x3 == (5 : Int) then x3 == (5 : Int) else x3 == (6 : Int) then (1 : Int)
      else bif x3 == (7 : Int) then knc x4 else bif x3 == (9 : Int) then x2 else (0 : Int)

def ki6 : List SV → List Entry → Option Out
  | [.one ⟨true, [.val (.int .i64 x0), .val (.int .i64 x1), .val (.int .i64 x2), .ref 0, .ref 1]⟩, .one ⟨false, [.val (.int .i64 x3)]⟩], [.row false 178 (.pair (.int .i64) (.pair (.str) (.int .i64))) x4, .row false 150 (.pair (.int .i64) (.int .i64)) x5] => some ⟨(.one ⟨false, [(.val (.int IntKind.i64 (k4b x0 x1 x2 x3 x4)))]⟩), [(.row false 178 (CTy.pair (CTy.int IntKind.i64) (CTy.pair CTy.str (CTy.int IntKind.i64))) x4), (.row false 150 (CTy.pair (CTy.int IntKind.i64) (CTy.int IntKind.i64)) x5)], [], []⟩
  | _, _ => none

def k4d : PF Tryz.prog := PF.ofG Tryz.prog [knb, PF.lend knb, PF.fz knb] [] hmix 216 Tryz.f216 Tryz.func216 (fun c _ => LOk.nil c) ki6 (by
  intro vs es r h; unfold ki6 at h; split at h
  · cases h; kernel_rfl
  · cases h)

abbrev k1l := Int × Int × Int × List (Int × Int) × Int × Int × Int × List Int × List (Int × (ByteArray × Int))

def kz (y0 : Int) (y3 : List (Int × Int)) : Int × Int :=
  Option.getD y3[Int.toNat y0]? ((0 : Int), (0 : Int))

def k3p (y0 : Int) (y3 : List (Int × Int)) (y8 : List (Int × (ByteArray × Int))) : Int :=
  k1c (Prod.fst (kz y0 y3))
  (Prod.snd (kz y0 y3)) y8

def k1z (y0 : Int) (y2 : Int) (y3 : List (Int × Int)) (y8 : List (Int × (ByteArray × Int))) : Int :=
  IntKind.wrap IntKind.i64
  (y2 +
    IntKind.wrap IntKind.i64
      (k1t (Prod.fst (kz y0 y3)) -
        k3p y0 y3 y8))

def k42 (y0 : Int) (y1 : Int) : Bool :=
  ltI y0 y1

def k6w (y0 : Int) : Bool :=
  leI (0 : Int) y0

def k6s (y0 : Int) (y3 : List (Int × Int)) : Bool :=
  ltI y0 (↑(List.length y3) : Int)

def k6p (y0 : Int) (y3 : List (Int × Int)) : Bool :=
  ltN (Int.toNat y0) (List.length y3)

def k40 (y0 : Int) (y3 : List (Int × Int)) (y4 : Int) (y5 : Int) (y6 : Int) (y8 : List (Int × (ByteArray × Int))) : Bool :=
  bif ltI (Prod.snd (kz y0 y3)) (0 : Int) then true
  else
  leI (k4b y4 y5 y6 (Prod.fst (kz y0 y3)) y8)
    (Prod.snd (kz y0 y3))

def k6r (y0 : Int) (y3 : List (Int × Int)) (y8 : List (Int × (ByteArray × Int))) : Bool :=
  k5f (Prod.fst (kz y0 y3))
  (Prod.snd (kz y0 y3)) y8

def k6v (y0 : Int) (y2 : Int) (y3 : List (Int × Int)) (y8 : List (Int × (ByteArray × Int))) : Bool :=
  ltI y2 (k3p y0 y3 y8)

def k6t (y0 : Int) (y2 : Int) (y3 : List (Int × Int)) (y8 : List (Int × (ByteArray × Int))) : Bool :=
  ltI (40 : Int) (k1z y0 y2 y3 y8)

def k6q (y0 : Int) (y2 : Int) (y3 : List (Int × Int)) (y7 : List Int) (y8 : List (Int × (ByteArray × Int))) : Bool :=
  leN (List.length y7 + List.length [k1z y0 y2 y3 y8]) (9223372036854775807 : Nat)

def k6u (y0 : Int) (y2 : Int) (y3 : List (Int × Int)) (y7 : List Int) (y8 : List (Int × (ByteArray × Int))) : Bool :=
  leN ((List.length y7 + List.length [k1z y0 y2 y3 y8]) * (8 : Nat)) (140737488355328 : Nat)

def k6g (y0 : Int) : Int :=
  IntKind.wrap IntKind.i64 (y0 + (1 : Int))

def k6f (y0 : Int) (y2 : Int) (y3 : List (Int × Int)) (y8 : List (Int × (ByteArray × Int))) : Int :=
  k1z y0 y2 y3 y8

def k6j (y0 : Int) (y2 : Int) (y3 : List (Int × Int)) (y7 : List Int) (y8 : List (Int × (ByteArray × Int))) : List Int :=
  y7 ++ [k1z y0 y2 y3 y8]

def kmj : k1l → List (Nat × SV)
  | (y0, y1, y2, _, _, _, _, _, _) => [(13, (.one ⟨false, [(.val (.int IntKind.i64 y0))]⟩)), (12, (.one ⟨false, [(.val (.int IntKind.i64 y1))]⟩)), (11, (.one ⟨false, [(.ref 0)]⟩)), (1, (.one ⟨false, [(.ptr 1 0)]⟩)), (5, (.one ⟨false, [(.val (.int IntKind.i64 y2))]⟩)), (4, (.one ⟨false, [(.ref 2)]⟩))]

def km1 : k1l → List (Nat × Entry)
  | (_, _, _, y3, y4, y5, y6, y7, y8) => [(0, (.row false 150 (CTy.pair (CTy.int IntKind.i64) (CTy.int IntKind.i64)) y3)), (1, (.box 34 [(.val (.int IntKind.i64 y4)), (.val (.int IntKind.i64 y5)), (.val (.int IntKind.i64 y6)), (.ref 3), (.ref 0)])), (3, (.row false 178 (CTy.pair (CTy.int IntKind.i64) (CTy.pair CTy.str (CTy.int IntKind.i64))) y8)), (2, (.row true 2 (CTy.int IntKind.i64) y7))]

def km8 : Nat → k1l → List (Nat × SV)
  | 0, (_, _, _, _, _, _, _, _, _) => [(2, (.one ⟨false, [(.ref 4)]⟩)), (3, (.one ⟨false, [(.val (.bool false))]⟩))]
  | 1, (_, _, _, _, _, _, _, _, _) => [(2, (.one ⟨false, [(.ref 4)]⟩)), (3, (.one ⟨false, [(.val (.bool false))]⟩))]
  | 2, (_, _, _, _, _, _, _, _, _) => [(2, (.one ⟨false, [(.ref 4)]⟩)), (3, (.one ⟨false, [(.val (.bool false))]⟩))]
  | _, (_, _, y2, _, _, _, _, _, _) => [(5, (.one ⟨false, [(.val (.int IntKind.i64 y2))]⟩)), (4, (.one ⟨false, [(.ref 2)]⟩))]

def kmb : Nat → k1l → List (Nat × Entry)
  | 0, (_, _, _, y3, y4, y5, y6, y7, y8) => [(0, (.row false 150 (CTy.pair (CTy.int IntKind.i64) (CTy.int IntKind.i64)) y3)), (1, (.box 34 [(.val (.int IntKind.i64 y4)), (.val (.int IntKind.i64 y5)), (.val (.int IntKind.i64 y6)), (.ref 3), (.ref 0)])), (2, (.row true 2 (CTy.int IntKind.i64) y7)), (3, (.row false 178 (CTy.pair (CTy.int IntKind.i64) (CTy.pair CTy.str (CTy.int IntKind.i64))) y8)), (4, (.row true 2 (CTy.int IntKind.i64) []))]
  | 1, (_, _, _, y3, y4, y5, y6, y7, y8) => [(0, (.row false 150 (CTy.pair (CTy.int IntKind.i64) (CTy.int IntKind.i64)) y3)), (1, (.box 34 [(.val (.int IntKind.i64 y4)), (.val (.int IntKind.i64 y5)), (.val (.int IntKind.i64 y6)), (.ref 3), (.ref 0)])), (2, (.row true 2 (CTy.int IntKind.i64) y7)), (3, (.row false 178 (CTy.pair (CTy.int IntKind.i64) (CTy.pair CTy.str (CTy.int IntKind.i64))) y8)), (4, (.row true 2 (CTy.int IntKind.i64) []))]
  | 2, (_, _, _, y3, y4, y5, y6, y7, y8) => [(0, (.row false 150 (CTy.pair (CTy.int IntKind.i64) (CTy.int IntKind.i64)) y3)), (1, (.box 34 [(.val (.int IntKind.i64 y4)), (.val (.int IntKind.i64 y5)), (.val (.int IntKind.i64 y6)), (.ref 3), (.ref 0)])), (2, (.row true 2 (CTy.int IntKind.i64) y7)), (3, (.row false 178 (CTy.pair (CTy.int IntKind.i64) (CTy.pair CTy.str (CTy.int IntKind.i64))) y8)), (4, (.row true 2 (CTy.int IntKind.i64) []))]
  | _, (_, _, _, y3, y4, y5, y6, y7, y8) => [(0, (.row false 150 (CTy.pair (CTy.int IntKind.i64) (CTy.int IntKind.i64)) y3)), (1, (.box 34 [(.val (.int IntKind.i64 y4)), (.val (.int IntKind.i64 y5)), (.val (.int IntKind.i64 y6)), (.ref 3), (.ref 0)])), (2, (.row true 2 (CTy.int IntKind.i64) y7)), (3, (.row false 178 (CTy.pair (CTy.int IntKind.i64) (CTy.pair CTy.str (CTy.int IntKind.i64))) y8))]

def k3l : k1l → LT k1l
  | (y0, y1, y2, y3, y4, y5, y6, y7, y8) => .ite (k42 y0 y1) (.need [(k6w y0), (k6s y0 y3), (k6p y0 y3)] (.ite (k40 y0 y3 y4 y5 y6 y8) (.ext 0 [(0, 0), (1, 1), (2, 2), (3, 3), (4, 1152)]) (.need [(k6r y0 y3 y8)] (.ite (k6v y0 y2 y3 y8) (.ext 1 [(0, 0), (1, 1), (2, 2), (3, 3), (4, 1856)]) (.ite (k6t y0 y2 y3 y8) (.ext 2 [(0, 0), (1, 1), (2, 2), (3, 3), (4, 2368)]) (.need [(k6q y0 y2 y3 y7 y8), (k6u y0 y2 y3 y7 y8)] (.nrm ((k6g y0), y1, (k6f y0 y2 y3 y8), y3, y4, y5, y6, (k6j y0 y2 y3 y7 y8), y8) [(0, 0), (1, 1), (2, 2560), (3, 3)]))))))) (.ext 3 [(0, 0), (1, 1), (2, 2), (3, 3)])

def ka7 (s : St) : Option k1l :=
  (match s.look 13 with
  | some ⟨none, (.one ⟨false, [(.val (.int IntKind.i64 y0))]⟩)⟩ =>
  (match s.look 12 with
  | some ⟨none, (.one ⟨false, [(.val (.int IntKind.i64 y1))]⟩)⟩ =>
  (match s.look 11 with
  | some ⟨none, (.one ⟨false, [(.ref 1)]⟩)⟩ =>
  (match s.look 1 with
  | some ⟨none, (.one ⟨false, [(.ptr 192 0)]⟩)⟩ =>
  (match s.look 5 with
  | some ⟨none, (.one ⟨false, [(.val (.int IntKind.i64 y2))]⟩)⟩ =>
  (match s.look 4 with
  | some ⟨none, (.one ⟨false, [(.ref 384)]⟩)⟩ =>
  (match s.ent 1 with
  | some (.row false 150 (CTy.pair (CTy.int IntKind.i64) (CTy.int IntKind.i64)) y3) =>
  (match s.ent 192 with
  | some (.box 34 [(.val (.int IntKind.i64 y4)), (.val (.int IntKind.i64 y5)), (.val (.int IntKind.i64 y6)), (.ref 0), (.ref 1)]) =>
  (match s.ent 0 with
  | some (.row false 178 (CTy.pair (CTy.int IntKind.i64) (CTy.pair CTy.str (CTy.int IntKind.i64))) y8) =>
  (match s.ent 384 with
  | some (.row true 2 (CTy.int IntKind.i64) y7) =>
  some (y0, y1, y2, y3, y4, y5, y6, y7, y8)
  | _ => none)
  | _ => none)
  | _ => none)
  | _ => none)
  | _ => none)
  | _ => none)
  | _ => none)
  | _ => none)
  | _ => none)
  | _ => none)

def kk : Lp k1l where
  h := ⟨[14, 15, 16, 7, 17, 18, 19, 20, 21, 22, 23, 24, 25, 26, 27, 28, 2, 3, 30, 31, 32, 29, 33, 34, 8, 9, 35, 36, 37, 38, 39, 40, 41, 42, 5, 43, 44, 45, 46, 47, 48, 4, 49, 13], [0, 1, 3], [2], [4]⟩
  JL := kmj
  JE := km1
  XL := km8
  XE := kmb
  q := fun j => match j with | 0 => .ret | 1 => .ret | 2 => .ret | _ => .exit 0
  tags := [0, 1, 2, 3]
  lt := k3l
  fuel := fun (y0, y1, y2, y3, y4, y5, y6, y7, y8) => y0.natAbs + y1.natAbs + y2.natAbs + y3.length + y4.natAbs + y5.natAbs + y6.natAbs + y7.length + y8.length
  fix := fun (_, y1, _, y3, y4, y5, y6, _, y8) (y0, _, y2, _, _, _, _, y7, _) => (y0, y1, y2, y3, y4, y5, y6, y7, y8)
  σ := [(0, 1), (1, 192), (3, 0), (2, 384)]
  rd := ka7

theorem kl9 : LoopOk Tryz.prog (fun k => Nat.blt k Tryz.f162.ntmps) kk.F (loopAt Tryz.f162 0) := by
  refine Lp.ok (tbl := [k2g, PF.lend k2g, PF.fz k2g, k4d, PF.lend k4d, PF.fz k4d]) (lf := []) hmix kk (by kernel_rfl) (LOk.nil _) (fun _ => rfl) (fun j _ => by unfold kk; match j with | 0 => rfl | 1 => rfl | 2 => rfl | _ + 3 => rfl) ?_ ?_ ?_ ?_ (fun _ => rfl) ?_
  · intro x; obtain ⟨y0, y1, y2, y3, y4, y5, y6, y7, y8⟩ := x; kernel_rfl
  · intro x; obtain ⟨y0, y1, y2, y3, y4, y5, y6, y7, y8⟩ := x; kernel_rfl
  · intro s x h
    have h : ka7 s = some x := h
    unfold ka7 at h
    repeat' split at h
    all_goals cases h
    exact ⟨absS_cons (by assumption) rfl (absS_cons (by assumption) rfl (absS_cons (by assumption) rfl (absS_cons (by assumption) rfl (absS_cons (by assumption) rfl (absS_cons (by assumption) rfl (rfl)))))), absE_cons rfl (by assumption) rfl (absE_cons rfl (by assumption) rfl (absE_cons rfl (by assumption) rfl (absE_cons rfl (by assumption) rfl (rfl))))⟩
  · intro x; obtain ⟨y0, y1, y2, y3, y4, y5, y6, y7, y8⟩ := x; kernel_rfl
  · intro x z; obtain ⟨y0, y1, y2, y3, y4, y5, y6, y7, y8⟩ := x; exact (And.intro (And.intro trivial (And.intro trivial (And.intro trivial rfl))) trivial)

def k3c (x0 : Int) (x1 : Int) (x2 : Int) (x3 : List (Int × ByteArray × Int)) (x4 : List (Int × Int)) : Int × Int × Int × List (Int × Int) × Int × Int × Int × List Int × List (Int × ByteArray × Int) :=
  ((0 : Int), (↑(List.length x4) : Int), (0 : Int), x4, x0, x1, x2, [], x3)

def kbm (x0 : Int) (x1 : Int) (x2 : Int) (x3 : List (Int × ByteArray × Int)) (x4 : List (Int × Int)) : Bool :=
  Nat.beq (Prod.fst (Lp.res kk (k3c x0 x1 x2 x3 x4))) (0 : Nat)

def kbe (x0 : Int) (x1 : Int) (x2 : Int) (x3 : List (Int × ByteArray × Int)) (x4 : List (Int × Int)) : Bool :=
  Nat.beq (Prod.fst (Lp.res kk (k3c x0 x1 x2 x3 x4))) (1 : Nat)

def kbo (x0 : Int) (x1 : Int) (x2 : Int) (x3 : List (Int × ByteArray × Int)) (x4 : List (Int × Int)) : Bool :=
  Nat.beq (Prod.fst (Lp.res kk (k3c x0 x1 x2 x3 x4))) (2 : Nat)

def kbl (x0 : Int) (x1 : Int) (x2 : Int) (x3 : List (Int × ByteArray × Int)) (x4 : List (Int × Int)) : Int × List (Int × Int) × Int × Int × Int × List Int × List (Int × ByteArray × Int) :=
  Prod.snd (Prod.snd (Prod.snd (Lp.res kk (k3c x0 x1 x2 x3 x4))))

def k83 (x0 : Int) (x1 : Int) (x2 : Int) (x3 : List (Int × ByteArray × Int)) (x4 : List (Int × Int)) : Bool :=
  bif kbm x0 x1 x2 x3 x4 then false
  else
  bif kbe x0 x1 x2 x3 x4 then false
  else
    bif kbo x0 x1 x2 x3 x4 then false
    else Prod.fst (kbl x0 x1 x2 x3 x4) == (0 : Int)

def kbz (x0 : Int) (x1 : Int) (x2 : Int) (x3 : List (Int × ByteArray × Int)) (x4 : List (Int × Int)) : List Int :=
  bif kbm x0 x1 x2 x3 x4 then []
  else
  bif kbe x0 x1 x2 x3 x4 then []
  else
    bif kbo x0 x1 x2 x3 x4 then []
    else Prod.fst (Prod.snd (Prod.snd (Prod.snd (Prod.snd (Prod.snd (kbl x0 x1 x2 x3 x4))))))

def k81 (x0 : Int) (x1 : Int) (x2 : Int) (x3 : List (Int × ByteArray × Int)) (x4 : List (Int × Int)) : Bool :=
  allT [Lp.fin kk (k3c x0 x1 x2 x3 x4)]

def kgo : List SV → List Entry → Option Out
  | [.one ⟨true, [.val (.int .i64 x0), .val (.int .i64 x1), .val (.int .i64 x2), .ref 0, .ref 1]⟩], [.row false 178 (.pair (.int .i64) (.pair (.str) (.int .i64))) x3, .row false 150 (.pair (.int .i64) (.int .i64)) x4] => some ⟨(.tup [⟨false, [(.ref 2)]⟩, ⟨false, [(.val (.bool (k83 x0 x1 x2 x3 x4)))]⟩]), [(.row false 178 (CTy.pair (CTy.int IntKind.i64) (CTy.pair CTy.str (CTy.int IntKind.i64))) x3), (.row false 150 (CTy.pair (CTy.int IntKind.i64) (CTy.int IntKind.i64)) x4)], [(.row true 2 (CTy.int IntKind.i64) (kbz x0 x1 x2 x3 x4))], [(k81 x0 x1 x2 x3 x4)]⟩
  | _, _ => none

def k85 : PF Tryz.prog := PF.ofG Tryz.prog [k2g, PF.lend k2g, PF.fz k2g, k4d, PF.lend k4d, PF.fz k4d] [kk.F] hmix 162 Tryz.f162 Tryz.func162 (LOk.fnT (l := [loopAt Tryz.f162 0]) (by kernel_rfl) (.cons kl9 (.nil _))) kgo (by
  intro vs es r h; unfold kgo at h; split at h
  · cases h; kernel_rfl
  · cases h)

def kp8 (x0 : Int) (x1 : ByteArray) (x2 : Int) : Bool :=
  !blockB x0 x1 x2

def ktp : List SV → List Entry → Option Out
  | [(.one ⟨true, [(.val (.int IntKind.i64 x0)), (.val (.string x1)), (.val (.int IntKind.i64 x2))]⟩)], [] => some ⟨(.one ⟨false, [(.val (.bool (kp8 x0 x1 x2)))]⟩), [], [], []⟩
  | _, _ => none

def ktk : PF Tryz.prog := PF.ofG Tryz.prog [k11z] [] hmix 160 Tryz.f160 Tryz.func160 (fun c _ => LOk.nil c) ktp (by
  intro vs es r h; unfold ktp at h; split at h
  · cases h; kernel_rfl
  · cases h)

abbrev k1v := Int × Int × List (Int × (ByteArray × Int))

def k31 (y0 : Int) (y2 : List (Int × (ByteArray × Int))) : Int × ByteArray × Int :=
  Option.getD y2[Int.toNat y0]? ((0 : Int), ByteArray.empty, (0 : Int))

def k61 (y0 : Int) (y1 : Int) : Bool :=
  ltI y0 y1

def k6a (y0 : Int) : Bool :=
  leI (0 : Int) y0

def k63 (y0 : Int) (y2 : List (Int × (ByteArray × Int))) : Bool :=
  ltI y0 (↑(List.length y2) : Int)

def k6c (y0 : Int) (y2 : List (Int × (ByteArray × Int))) : Bool :=
  ltN (Int.toNat y0) (List.length y2)

def k65 (y0 : Int) (y2 : List (Int × (ByteArray × Int))) : Bool :=
  kp8 (Prod.fst (k31 y0 y2)) (Prod.fst (Prod.snd (k31 y0 y2)))
  (Prod.snd (Prod.snd (k31 y0 y2)))

def k6b (y0 : Int) : Int :=
  IntKind.wrap IntKind.i64 (y0 + (1 : Int))

def kp6 : k1v → List (Nat × SV)
  | (y0, y1, _) => [(8, (.one ⟨false, [(.val (.int IntKind.i64 y0))]⟩)), (7, (.one ⟨false, [(.val (.int IntKind.i64 y1))]⟩)), (1, (.one ⟨false, [(.val (.func (.func 160) ⟨[]⟩ ⟨[]⟩))]⟩)), (0, (.one ⟨false, [(.ref 0)]⟩))]

def kov : k1v → List (Nat × Entry)
  | (_, _, y2) => [(0, (.row false 178 (CTy.pair (CTy.int IntKind.i64) (CTy.pair CTy.str (CTy.int IntKind.i64))) y2))]

def kp3 : Nat → k1v → List (Nat × SV)
  | 0, (y0, _, _) => [(4, (.one ⟨false, [(.val (.int IntKind.i64 y0))]⟩))]
  | _, (_, _, _) => []

def kp9 : Nat → k1v → List (Nat × Entry)
  | 0, (_, _, y2) => [(0, (.row false 178 (CTy.pair (CTy.int IntKind.i64) (CTy.pair CTy.str (CTy.int IntKind.i64))) y2))]
  | _, (_, _, y2) => [(0, (.row false 178 (CTy.pair (CTy.int IntKind.i64) (CTy.pair CTy.str (CTy.int IntKind.i64))) y2))]

def k5e : k1v → LT k1v
  | (y0, y1, y2) => .ite (k61 y0 y1) (.need [(k6a y0), (k63 y0 y2), (k6c y0 y2)] (.ite (k65 y0 y2) (.ext 0 [(0, 0)]) (.nrm ((k6b y0), y1, y2) [(0, 0)]))) (.ext 1 [(0, 0)])

def kca (s : St) : Option k1v :=
  (match s.look 8 with
  | some ⟨none, (.one ⟨false, [(.val (.int IntKind.i64 y0))]⟩)⟩ =>
  (match s.look 7 with
  | some ⟨none, (.one ⟨false, [(.val (.int IntKind.i64 y1))]⟩)⟩ =>
  (match s.look 1 with
  | some ⟨none, (.one ⟨false, [(.val (.func (.func 160) ⟨[]⟩ ⟨[]⟩))]⟩)⟩ =>
  (match s.look 0 with
  | some ⟨none, (.one ⟨false, [(.ref 0)]⟩)⟩ =>
  (match s.ent 0 with
  | some (.row false 178 (CTy.pair (CTy.int IntKind.i64) (CTy.pair CTy.str (CTy.int IntKind.i64))) y2) =>
  some (y0, y1, y2)
  | _ => none)
  | _ => none)
  | _ => none)
  | _ => none)
  | _ => none)

def k16 : Lp k1v where
  h := ⟨[9, 10, 5, 11, 12, 13, 14, 15, 16, 17, 4, 18, 8], [0], [], []⟩
  JL := kp6
  JE := kov
  XL := kp3
  XE := kp9
  q := fun j => match j with | 0 => .ret | _ => .exit 0
  tags := [0, 1]
  lt := k5e
  fuel := fun (y0, y1, y2) => y0.natAbs + y1.natAbs + y2.length
  fix := fun (_, y1, y2) (y0, _, _) => (y0, y1, y2)
  σ := [(0, 0)]
  rd := kca

theorem knx : LoopOk Tryz.prog (fun k => Nat.blt k Tryz.f214.ntmps) k16.F (loopAt Tryz.f214 0) := by
  refine Lp.ok (tbl := [ktk]) (lf := []) hmix k16 (by kernel_rfl) (LOk.nil _) (fun _ => rfl) (fun j _ => by unfold k16; match j with | 0 => rfl | _ + 1 => rfl) ?_ ?_ ?_ ?_ (fun _ => rfl) ?_
  · intro x; obtain ⟨y0, y1, y2⟩ := x; kernel_rfl
  · intro x; obtain ⟨y0, y1, y2⟩ := x; kernel_rfl
  · intro s x h
    have h : kca s = some x := h
    unfold kca at h
    repeat' split at h
    all_goals cases h
    exact ⟨absS_cons (by assumption) rfl (absS_cons (by assumption) rfl (absS_cons (by assumption) rfl (absS_cons (by assumption) rfl (rfl)))), absE_cons rfl (by assumption) rfl (rfl)⟩
  · intro x; obtain ⟨y0, y1, y2⟩ := x; kernel_rfl
  · intro x z; obtain ⟨y0, y1, y2⟩ := x; exact (And.intro (And.intro trivial rfl) trivial)

def kac (x0 : List (Int × ByteArray × Int)) : Int × Int × List (Int × ByteArray × Int) :=
  ((0 : Int), (↑(List.length x0) : Int), x0)

def ked (x0 : List (Int × ByteArray × Int)) : Int :=
  bif Nat.beq (Prod.fst (Lp.res k16 (kac x0))) (0 : Nat) then
  Prod.fst (Prod.snd (Lp.res k16 (kac x0)))
  else (-1 : Int)

def kek (x0 : List (Int × ByteArray × Int)) : Bool :=
  allT [Lp.fin k16 (kac x0)]

def kjj : List SV → List Entry → Option Out
  | [(.one ⟨false, [(.ref 0)]⟩), (.one ⟨false, [(.val (.func (.func 160) ⟨[]⟩ ⟨[]⟩))]⟩)], [(.row false 178 (CTy.pair (CTy.int IntKind.i64) (CTy.pair CTy.str (CTy.int IntKind.i64))) x0)] => some ⟨(.one ⟨false, [(.val (.int IntKind.i64 (ked x0)))]⟩), [(.row false 178 (CTy.pair (CTy.int IntKind.i64) (CTy.pair CTy.str (CTy.int IntKind.i64))) x0)], [], [(kek x0)]⟩
  | _, _ => none

def ken : PF Tryz.prog := PF.ofG Tryz.prog [ktk] [k16.F] hmix 214 Tryz.f214 Tryz.func214 (LOk.fnT (l := [loopAt Tryz.f214 0]) (by kernel_rfl) (.cons knx (.nil _))) kjj (by
  intro vs es r h; unfold kjj at h; split at h
  · cases h; kernel_rfl
  · cases h)

def k93 (x0 : List (Int × ByteArray × Int)) : Bool :=
  leI (0 : Int) (ked x0)

def kd2 (x0 : List (Int × ByteArray × Int)) : Bool :=
  allT [kek x0]

def khd : List SV → List Entry → Option Out
  | [(.one ⟨false, [(.ref 0)]⟩), (.one ⟨false, [(.val (.func (.func 160) ⟨[]⟩ ⟨[]⟩))]⟩)], [(.row false 178 (CTy.pair (CTy.int IntKind.i64) (CTy.pair CTy.str (CTy.int IntKind.i64))) x0)] => some ⟨(.one ⟨false, [(.val (.bool (k93 x0)))]⟩), [(.row false 178 (CTy.pair (CTy.int IntKind.i64) (CTy.pair CTy.str (CTy.int IntKind.i64))) x0)], [], [(kd2 x0)]⟩
  | _, _ => none

def kcy : PF Tryz.prog := PF.ofG Tryz.prog [ken, PF.lend ken, PF.fz ken] [] hmix 159 Tryz.f159 Tryz.func159 (fun c _ => LOk.nil c) khd (by
  intro vs es r h; unfold khd at h; split at h
  · cases h; kernel_rfl
  · cases h)

def kqz (x0 : Int) (x1 : Int) (x2 : Int) (x3 : List (Int × ByteArray × Int)) (x4 : List (Int × Int)) : Bool :=
  bif
    bif
        bif bif !k3n x0 (0 : Int) (20 : Int) then true else !k3n x1 (0 : Int) (20 : Int) then true
        else !k3n x2 (0 : Int) (20 : Int) then
      true
    else ltI (2000 : Int) (↑(List.length x3) : Int) then
  true
  else ltI (2000 : Int) (↑(List.length x4) : Int)

def kyt (x0 : Int) (x1 : Int) (x2 : Int) (x3 : List (Int × ByteArray × Int)) (x4 : List (Int × Int)) : Bool :=
  bif kqz x0 x1 x2 x3 x4 then false
  else bif k93 x3 then false else k83 x0 x1 x2 x3 x4

def kz5 (x0 : Int) (x1 : Int) (x2 : Int) (x3 : List (Int × ByteArray × Int)) (x4 : List (Int × Int)) : Bool :=
  allT
  [kqz x0 x1 x2 x3 x4 || kd2 x3,
    kqz x0 x1 x2 x3 x4 || (k93 x3 || k81 x0 x1 x2 x3 x4)]

def k135 : List SV → List Entry → Option Out
  | [.one ⟨true, [.val (.int .i64 x0), .val (.int .i64 x1), .val (.int .i64 x2), .ref 0, .ref 1]⟩], [.row false 178 (.pair (.int .i64) (.pair (.str) (.int .i64))) x3, .row false 150 (.pair (.int .i64) (.int .i64)) x4] => some ⟨(.one ⟨false, [(.val (.bool (kyt x0 x1 x2 x3 x4)))]⟩), [(.row false 178 (CTy.pair (CTy.int IntKind.i64) (CTy.pair CTy.str (CTy.int IntKind.i64))) x3), (.row false 150 (CTy.pair (CTy.int IntKind.i64) (CTy.int IntKind.i64)) x4)], [], [(kz5 x0 x1 x2 x3 x4)]⟩
  | _, _ => none

def k166 : PF Tryz.prog := PF.ofG Tryz.prog [ksx, k14z, k85, PF.lend k85, PF.fz k85, kcy, PF.lend kcy, PF.fz kcy] [] hmix 92 Tryz.f92 Tryz.func92 (fun c _ => LOk.nil c) k135 (by
  intro vs es r h; unfold k135 at h; split at h
  · cases h; kernel_rfl
  · cases h)

abbrev k1k := Int × Int × List (Int × (ByteArray × Int)) × List Int × List (Int × (Int × Int))

def k2z (y0 : Int) (y2 : List (Int × (ByteArray × Int))) : Int × ByteArray × Int :=
  Option.getD y2[Int.toNat y0]? ((0 : Int), ByteArray.empty, (0 : Int))

def k2d (y0 : Int) (y4 : List (Int × (Int × Int))) : Int × Int × Int :=
  Option.getD y4[Int.toNat y0]? ((0 : Int), (0 : Int), (0 : Int))

def k3x (y0 : Int) (y1 : Int) : Bool :=
  ltI y0 y1

def k33 (y0 : Int) : Bool :=
  leI (0 : Int) y0

def k46 (y0 : Int) (y2 : List (Int × (ByteArray × Int))) : Bool :=
  ltI y0 (↑(List.length y2) : Int)

def k41 (y0 : Int) (y2 : List (Int × (ByteArray × Int))) : Bool :=
  ltN (Int.toNat y0) (List.length y2)

def k45 (y0 : Int) (y4 : List (Int × (Int × Int))) : Bool :=
  ltI y0 (↑(List.length y4) : Int)

def k3y (y0 : Int) (y4 : List (Int × (Int × Int))) : Bool :=
  ltN (Int.toNat y0) (List.length y4)

def k43 (y0 : Int) (y2 : List (Int × (ByteArray × Int))) (y4 : List (Int × (Int × Int))) : Bool :=
  !kiw (Prod.fst (k2z y0 y2))
    (Prod.snd (Prod.snd (k2z y0 y2))) (Prod.fst (k2d y0 y4))
    (Prod.fst (Prod.snd (k2d y0 y4)))
    (Prod.snd (Prod.snd (k2d y0 y4)))

def k3z (y0 : Int) : Int :=
  IntKind.wrap IntKind.i64 (y0 + (1 : Int))

def kmn : k1k → List (Nat × SV)
  | (y0, y1, _, _, _) => [(24, (.one ⟨false, [(.val (.int IntKind.i64 y0))]⟩)), (23, (.one ⟨false, [(.val (.int IntKind.i64 y1))]⟩)), (22, (.one ⟨false, [(.ref 0)]⟩)), (3, (.one ⟨false, [(.ptr 1 0)]⟩))]

def kmf : k1k → List (Nat × Entry)
  | (_, _, y2, y3, y4) => [(0, (.row false 178 (CTy.pair (CTy.int IntKind.i64) (CTy.pair CTy.str (CTy.int IntKind.i64))) y2)), (1, (.box 48 [(.ref 2), (.ref 3)])), (2, (.row false 2 (CTy.int IntKind.i64) y3)), (3, (.row false 172 (CTy.pair (CTy.int IntKind.i64) (CTy.pair (CTy.int IntKind.i64) (CTy.int IntKind.i64))) y4))]

def kml : Nat → k1k → List (Nat × SV)
  | 0, (_, _, _, _, _) => [(6, (.one ⟨false, [(.val (.bool false))]⟩))]
  | _, (_, _, _, _, _) => []

def kmc : Nat → k1k → List (Nat × Entry)
  | 0, (_, _, y2, y3, y4) => [(0, (.row false 178 (CTy.pair (CTy.int IntKind.i64) (CTy.pair CTy.str (CTy.int IntKind.i64))) y2)), (1, (.box 48 [(.ref 2), (.ref 3)])), (2, (.row false 2 (CTy.int IntKind.i64) y3)), (3, (.row false 172 (CTy.pair (CTy.int IntKind.i64) (CTy.pair (CTy.int IntKind.i64) (CTy.int IntKind.i64))) y4))]
  | _, (_, _, y2, y3, y4) => [(0, (.row false 178 (CTy.pair (CTy.int IntKind.i64) (CTy.pair CTy.str (CTy.int IntKind.i64))) y2)), (1, (.box 48 [(.ref 2), (.ref 3)])), (2, (.row false 2 (CTy.int IntKind.i64) y3)), (3, (.row false 172 (CTy.pair (CTy.int IntKind.i64) (CTy.pair (CTy.int IntKind.i64) (CTy.int IntKind.i64))) y4))]

def k3j : k1k → LT k1k
  | (y0, y1, y2, y3, y4) => .ite (k3x y0 y1) (.need [(k33 y0), (k46 y0 y2), (k41 y0 y2)] (.need [(k33 y0), (k45 y0 y4), (k3y y0 y4)] (.ite (k43 y0 y2 y4) (.ext 0 [(0, 0), (1, 1), (2, 2), (3, 3)]) (.nrm ((k3z y0), y1, y2, y3, y4) [(0, 0), (1, 1), (2, 2), (3, 3)])))) (.ext 1 [(0, 0), (1, 1), (2, 2), (3, 3)])

def ka0 (s : St) : Option k1k :=
  (match s.look 24 with
  | some ⟨none, (.one ⟨false, [(.val (.int IntKind.i64 y0))]⟩)⟩ =>
  (match s.look 23 with
  | some ⟨none, (.one ⟨false, [(.val (.int IntKind.i64 y1))]⟩)⟩ =>
  (match s.look 22 with
  | some ⟨none, (.one ⟨false, [(.ref 2)]⟩)⟩ =>
  (match s.look 3 with
  | some ⟨none, (.one ⟨false, [(.ptr 256 0)]⟩)⟩ =>
  (match s.ent 2 with
  | some (.row false 178 (CTy.pair (CTy.int IntKind.i64) (CTy.pair CTy.str (CTy.int IntKind.i64))) y2) =>
  (match s.ent 256 with
  | some (.box 48 [(.ref 0), (.ref 1)]) =>
  (match s.ent 0 with
  | some (.row false 2 (CTy.int IntKind.i64) y3) =>
  (match s.ent 1 with
  | some (.row false 172 (CTy.pair (CTy.int IntKind.i64) (CTy.pair (CTy.int IntKind.i64) (CTy.int IntKind.i64))) y4) =>
  some (y0, y1, y2, y3, y4)
  | _ => none)
  | _ => none)
  | _ => none)
  | _ => none)
  | _ => none)
  | _ => none)
  | _ => none)
  | _ => none)

def k14 : Lp k1k where
  h := ⟨[25, 26, 27, 28, 8, 7, 29, 30, 31, 32, 33, 34, 35, 36, 6, 37, 24], [0, 1, 2, 3], [], []⟩
  JL := kmn
  JE := kmf
  XL := kml
  XE := kmc
  q := fun j => match j with | 0 => .ret | _ => .exit 0
  tags := [0, 1]
  lt := k3j
  fuel := fun (y0, y1, y2, y3, y4) => y0.natAbs + y1.natAbs + y2.length + y3.length + y4.length
  fix := fun (_, y1, y2, y3, y4) (y0, _, _, _, _) => (y0, y1, y2, y3, y4)
  σ := [(0, 2), (1, 256), (2, 0), (3, 1)]
  rd := ka0

theorem kla : LoopOk Tryz.prog (fun k => Nat.blt k Tryz.f116.ntmps) k14.F (loopAt Tryz.f116 0) := by
  refine Lp.ok (tbl := [kdb, PF.lend kdb, PF.fz kdb, kxv]) (lf := []) hmix k14 (by kernel_rfl) (LOk.nil _) (fun _ => rfl) (fun j _ => by unfold k14; match j with | 0 => rfl | _ + 1 => rfl) ?_ ?_ ?_ ?_ (fun _ => rfl) ?_
  · intro x; obtain ⟨y0, y1, y2, y3, y4⟩ := x; kernel_rfl
  · intro x; obtain ⟨y0, y1, y2, y3, y4⟩ := x; kernel_rfl
  · intro s x h
    have h : ka0 s = some x := h
    unfold ka0 at h
    repeat' split at h
    all_goals cases h
    exact ⟨absS_cons (by assumption) rfl (absS_cons (by assumption) rfl (absS_cons (by assumption) rfl (absS_cons (by assumption) rfl (rfl)))), absE_cons rfl (by assumption) rfl (absE_cons rfl (by assumption) rfl (absE_cons rfl (by assumption) rfl (absE_cons rfl (by assumption) rfl (rfl))))⟩
  · intro x; obtain ⟨y0, y1, y2, y3, y4⟩ := x; kernel_rfl
  · intro x z; obtain ⟨y0, y1, y2, y3, y4⟩ := x; exact (And.intro (And.intro trivial rfl) trivial)

def k3a (x0 : Int) (x1 : List Int) (x2 : List (Int × Int × Int)) (x3 : List (Int × ByteArray × Int)) : Bool :=
  bif !bitsB x0 x1 then true else (↑(List.length x2) : Int) != (↑(List.length x3) : Int)

def kbh (x1 : List Int) (x2 : List (Int × Int × Int)) (x3 : List (Int × ByteArray × Int)) : Int × Int × List (Int × ByteArray × Int) × List Int × List (Int × Int × Int) :=
  ((0 : Int), (↑(List.length x3) : Int), x3, x1, x2)

def k88 (x0 : Int) (x1 : List Int) (x2 : List (Int × Int × Int)) (x3 : List (Int × ByteArray × Int)) : Bool :=
  bif k3a x0 x1 x2 x3 then false
  else
  bif Nat.beq (Prod.fst (Lp.res k14 (kbh x1 x2 x3))) (0 : Nat) then false
  else true

def k82 (x0 : Int) (x1 : List Int) (x2 : List (Int × Int × Int)) (x3 : List (Int × ByteArray × Int)) : Bool :=
  allT
  [leN (List.length x1) (9223372036854775807 : Nat),
    k3a x0 x1 x2 x3 ||
      Lp.fin k14 (kbh x1 x2 x3)]

def kgt : List SV → List Entry → Option Out
  | [.one ⟨true, [.ref 0, .ref 1]⟩, .one ⟨false, [.val (.int .i64 x0)]⟩, .one ⟨false, [.ref 2]⟩], [.row false 2 (.int .i64) x1, .row false 172 (.pair (.int .i64) (.pair (.int .i64) (.int .i64))) x2, .row false 178 (.pair (.int .i64) (.pair (.str) (.int .i64))) x3] => some ⟨(.one ⟨false, [(.val (.bool (k88 x0 x1 x2 x3)))]⟩), [(.row false 2 (CTy.int IntKind.i64) x1), (.row false 172 (CTy.pair (CTy.int IntKind.i64) (CTy.pair (CTy.int IntKind.i64) (CTy.int IntKind.i64))) x2), (.row false 178 (CTy.pair (CTy.int IntKind.i64) (CTy.pair CTy.str (CTy.int IntKind.i64))) x3)], [], [(k82 x0 x1 x2 x3)]⟩
  | _, _ => none

def kok : PF Tryz.prog := PF.ofG Tryz.prog [kdb, PF.lend kdb, PF.fz kdb, kxv] [k14.F] hmix 116 Tryz.f116 Tryz.func116 (LOk.fnT (l := [loopAt Tryz.f116 0]) (by kernel_rfl) (.cons kla (.nil _))) kgt (by
  intro vs es r h; unfold kgt at h; split at h
  · cases h; kernel_rfl
  · cases h)

def kda (x0 : List (Int × Int × Int)) : Bool :=
  allT
  [ltN (0 : Nat) (List.length x0), false || leN ((0 : Nat) + List.length x0) (9223372036854775807 : Nat),
    false || leN (((0 : Nat) + List.length x0) * (24 : Nat)) (140737488355328 : Nat)]

def km3 : List SV → List Entry → Option Out
  | [.one ⟨false, [.ref 0]⟩], [.row false 172 (.pair (.int .i64) (.pair (.int .i64) (.int .i64))) x0] => some ⟨(.one ⟨false, [(.ref 1)]⟩), [(.row false 172 (CTy.pair (CTy.int IntKind.i64) (CTy.pair (CTy.int IntKind.i64) (CTy.int IntKind.i64))) x0)], [(.row true 172 (CTy.pair (CTy.int IntKind.i64) (CTy.pair (CTy.int IntKind.i64) (CTy.int IntKind.i64))) x0)], [(kda x0)]⟩
  | _, _ => none

def ktg : PF Tryz.prog := PF.ofG Tryz.prog [] [] hmix 195 Tryz.f195 Tryz.func195 (fun c _ => LOk.nil c) km3 (by
  intro vs es r h; unfold km3 at h; split at h
  · cases h; kernel_rfl
  · cases h)

def kt4 (x0 : Int) (x1 : ByteArray) (x2 : Int) (x3 : Int) (x4 : ByteArray) (x5 : Int) : Bool :=
  bif x0 != x3 then false else bif !ByteArray.toList x1 == ByteArray.toList x4 then false else bif x2 != x5 then false else true

def k138 : List SV → List Entry → Option Out
  | [.one ⟨true, [.val (.int .i64 x0), .val (.string x1), .val (.int .i64 x2)]⟩, .one ⟨true, [.val (.int .i64 x3), .val (.string x4), .val (.int .i64 x5)]⟩], [] => some ⟨(.one ⟨false, [(.val (.bool (kt4 x0 x1 x2 x3 x4 x5)))]⟩), [], [], []⟩
  | _, _ => none

def k13g : PF Tryz.prog := PF.ofG Tryz.prog [] [] hmix 166 Tryz.f166 Tryz.func166 (fun c _ => LOk.nil c) k138 (by
  intro vs es r h; unfold k138 at h; split at h
  · cases h; kernel_rfl
  · cases h)

abbrev kbr := Int × List (Int × (ByteArray × Int)) × List (Int × (ByteArray × Int))

def kft (y0 : Int) (y1 : List (Int × (ByteArray × Int))) : Int × ByteArray × Int :=
  Option.getD y1[Int.toNat y0]? ((0 : Int), ByteArray.empty, (0 : Int))

def kfo (y0 : Int) (y2 : List (Int × (ByteArray × Int))) : Int × ByteArray × Int :=
  Option.getD y2[Int.toNat y0]? ((0 : Int), ByteArray.empty, (0 : Int))

def kis (y0 : Int) (y1 : List (Int × (ByteArray × Int))) : Bool :=
  ltI y0 (↑(List.length y1) : Int)

def kiu (y0 : Int) : Bool :=
  leI (0 : Int) y0

def kn2 (y0 : Int) (y1 : List (Int × (ByteArray × Int))) : Bool :=
  ltN (Int.toNat y0) (List.length y1)

def kme (y0 : Int) (y2 : List (Int × (ByteArray × Int))) : Bool :=
  ltI y0 (↑(List.length y2) : Int)

def km2 (y0 : Int) (y2 : List (Int × (ByteArray × Int))) : Bool :=
  ltN (Int.toNat y0) (List.length y2)

def km6 (y0 : Int) (y1 : List (Int × (ByteArray × Int))) (y2 : List (Int × (ByteArray × Int))) : Bool :=
  !kt4 (Prod.fst (kft y0 y1)) (Prod.fst (Prod.snd (kft y0 y1))) (Prod.snd (Prod.snd (kft y0 y1)))
    (Prod.fst (kfo y0 y2)) (Prod.fst (Prod.snd (kfo y0 y2))) (Prod.snd (Prod.snd (kfo y0 y2)))

def klz (y0 : Int) : Int :=
  IntKind.wrap IntKind.i64 (y0 + (1 : Int))

def k12o : kbr → List (Nat × SV)
  | (y0, _, _) => [(5, (.one ⟨false, [(.val (.int IntKind.i64 y0))]⟩)), (0, (.one ⟨false, [(.ref 0)]⟩)), (1, (.one ⟨false, [(.ref 1)]⟩))]

def k12l : kbr → List (Nat × Entry)
  | (_, y1, y2) => [(0, (.row false 178 (CTy.pair (CTy.int IntKind.i64) (CTy.pair CTy.str (CTy.int IntKind.i64))) y1)), (1, (.row false 178 (CTy.pair (CTy.int IntKind.i64) (CTy.pair CTy.str (CTy.int IntKind.i64))) y2))]

def k12k : Nat → kbr → List (Nat × SV)
  | 0, (_, _, _) => [(4, (.one ⟨false, [(.val (.bool false))]⟩))]
  | _, (_, _, _) => []

def k134 : Nat → kbr → List (Nat × Entry)
  | 0, (_, y1, y2) => [(0, (.row false 178 (CTy.pair (CTy.int IntKind.i64) (CTy.pair CTy.str (CTy.int IntKind.i64))) y1)), (1, (.row false 178 (CTy.pair (CTy.int IntKind.i64) (CTy.pair CTy.str (CTy.int IntKind.i64))) y2))]
  | _, (_, y1, y2) => [(0, (.row false 178 (CTy.pair (CTy.int IntKind.i64) (CTy.pair CTy.str (CTy.int IntKind.i64))) y1)), (1, (.row false 178 (CTy.pair (CTy.int IntKind.i64) (CTy.pair CTy.str (CTy.int IntKind.i64))) y2))]

def kko : kbr → LT kbr
  | (y0, y1, y2) => .ite (kis y0 y1) (.need [(kiu y0), (kis y0 y1), (kn2 y0 y1), (kiu y0), (kme y0 y2), (km2 y0 y2)] (.ite (km6 y0 y1 y2) (.ext 0 [(0, 0), (1, 1)]) (.nrm ((klz y0), y1, y2) [(0, 0), (1, 1)]))) (.ext 1 [(0, 0), (1, 1)])

def krl (s : St) : Option kbr :=
  (match s.look 5 with
  | some ⟨none, (.one ⟨false, [(.val (.int IntKind.i64 y0))]⟩)⟩ =>
  (match s.look 0 with
  | some ⟨none, (.one ⟨false, [(.ref 0)]⟩)⟩ =>
  (match s.look 1 with
  | some ⟨none, (.one ⟨false, [(.ref 1)]⟩)⟩ =>
  (match s.ent 0 with
  | some (.row false 178 (CTy.pair (CTy.int IntKind.i64) (CTy.pair CTy.str (CTy.int IntKind.i64))) y1) =>
  (match s.ent 1 with
  | some (.row false 178 (CTy.pair (CTy.int IntKind.i64) (CTy.pair CTy.str (CTy.int IntKind.i64))) y2) =>
  some (y0, y1, y2)
  | _ => none)
  | _ => none)
  | _ => none)
  | _ => none)
  | _ => none)

def k4w : Lp kbr where
  h := ⟨[11, 12, 13, 14, 17, 18, 19, 20, 21, 22, 23, 24, 25, 26, 4, 15, 16, 5], [0, 1], [], []⟩
  JL := k12o
  JE := k12l
  XL := k12k
  XE := k134
  q := fun j => match j with | 0 => .ret | _ => .exit 0
  tags := [0, 1]
  lt := kko
  fuel := fun (y0, y1, y2) => y0.natAbs + y1.length + y2.length
  fix := fun (_, y1, y2) (y0, _, _) => (y0, y1, y2)
  σ := [(0, 0), (1, 1)]
  rd := krl

theorem k10j : LoopOk Tryz.prog (fun k => Nat.blt k Tryz.f96.ntmps) k4w.F (loopAt Tryz.f96 0) := by
  refine Lp.ok (tbl := [k13g]) (lf := []) hmix k4w (by kernel_rfl) (LOk.nil _) (fun _ => rfl) (fun j _ => by unfold k4w; match j with | 0 => rfl | _ + 1 => rfl) ?_ ?_ ?_ ?_ (fun _ => rfl) ?_
  · intro x; obtain ⟨y0, y1, y2⟩ := x; kernel_rfl
  · intro x; obtain ⟨y0, y1, y2⟩ := x; kernel_rfl
  · intro s x h
    have h : krl s = some x := h
    unfold krl at h
    repeat' split at h
    all_goals cases h
    exact ⟨absS_cons (by assumption) rfl (absS_cons (by assumption) rfl (absS_cons (by assumption) rfl (rfl))), absE_cons rfl (by assumption) rfl (absE_cons rfl (by assumption) rfl (rfl))⟩
  · intro x; obtain ⟨y0, y1, y2⟩ := x; kernel_rfl
  · intro x z; obtain ⟨y0, y1, y2⟩ := x; exact (And.intro (And.intro trivial rfl) trivial)

def ksp (x0 : List (Int × ByteArray × Int)) (x1 : List (Int × ByteArray × Int)) : Bool :=
  (↑(List.length x0) : Int) != (↑(List.length x1) : Int)

def ksu (x0 : List (Int × ByteArray × Int)) (x1 : List (Int × ByteArray × Int)) : Int × List (Int × ByteArray × Int) × List (Int × ByteArray × Int) :=
  ((0 : Int), x0, x1)

def ktw (x0 : List (Int × ByteArray × Int)) (x1 : List (Int × ByteArray × Int)) : Bool :=
  bif ksp x0 x1 then false else bif Nat.beq (Prod.fst (Lp.res k4w (ksu x0 x1))) (0 : Nat) then false else true

def ktr (x0 : List (Int × ByteArray × Int)) (x1 : List (Int × ByteArray × Int)) : Bool :=
  allT [ksp x0 x1 || Lp.fin k4w (ksu x0 x1)]

def k122 : List SV → List Entry → Option Out
  | [.one ⟨false, [.ref 0]⟩, .one ⟨false, [.ref 1]⟩], [.row false 178 (.pair (.int .i64) (.pair (.str) (.int .i64))) x0, .row false 178 (.pair (.int .i64) (.pair (.str) (.int .i64))) x1] => some ⟨(.one ⟨false, [(.val (.bool (ktw x0 x1)))]⟩), [(.row false 178 (CTy.pair (CTy.int IntKind.i64) (CTy.pair CTy.str (CTy.int IntKind.i64))) x0), (.row false 178 (CTy.pair (CTy.int IntKind.i64) (CTy.pair CTy.str (CTy.int IntKind.i64))) x1)], [], [(ktr x0 x1)]⟩
  | _, _ => none

def k15j : PF Tryz.prog := PF.ofG Tryz.prog [k13g] [k4w.F] hmix 96 Tryz.f96 Tryz.func96 (LOk.fnT (l := [loopAt Tryz.f96 0]) (by kernel_rfl) (.cons k10j (.nil _))) k122 (by
  intro vs es r h; unfold k122 at h; split at h
  · cases h; kernel_rfl
  · cases h)

def kig (x0 : Int) (x1 : Int) (x2 : Int) (x3 : Int) : Bool :=
  bif x0 != x2 then false else bif x1 != x3 then false else true

def kv0 : List SV → List Entry → Option Out
  | [.one ⟨true, [.val (.int .i64 x0), .val (.int .i64 x1)]⟩, .one ⟨true, [.val (.int .i64 x2), .val (.int .i64 x3)]⟩], [] => some ⟨(.one ⟨false, [(.val (.bool (kig x0 x1 x2 x3)))]⟩), [], [], []⟩
  | _, _ => none

def ku6 : PF Tryz.prog := PF.ofG Tryz.prog [] [] hmix 167 Tryz.f167 Tryz.func167 (fun c _ => LOk.nil c) kv0 (by
  intro vs es r h; unfold kv0 at h; split at h
  · cases h; kernel_rfl
  · cases h)

abbrev k4j := Int × List (Int × Int) × List (Int × Int)

def kb9 (y0 : Int) (y1 : List (Int × Int)) : Int × Int :=
  Option.getD y1[Int.toNat y0]? ((0 : Int), (0 : Int))

def kba (y0 : Int) (y2 : List (Int × Int)) : Int × Int :=
  Option.getD y2[Int.toNat y0]? ((0 : Int), (0 : Int))

def kbv (y0 : Int) (y1 : List (Int × Int)) : Bool :=
  ltI y0 (↑(List.length y1) : Int)

def kc1 (y0 : Int) : Bool :=
  leI (0 : Int) y0

def kea (y0 : Int) (y1 : List (Int × Int)) : Bool :=
  ltN (Int.toNat y0) (List.length y1)

def ke7 (y0 : Int) (y2 : List (Int × Int)) : Bool :=
  ltI y0 (↑(List.length y2) : Int)

def ke6 (y0 : Int) (y2 : List (Int × Int)) : Bool :=
  ltN (Int.toNat y0) (List.length y2)

def keq (y0 : Int) (y1 : List (Int × Int)) (y2 : List (Int × Int)) : Bool :=
  !kig (Prod.fst (kb9 y0 y1)) (Prod.snd (kb9 y0 y1))
    (Prod.fst (kba y0 y2)) (Prod.snd (kba y0 y2))

def keg (y0 : Int) : Int :=
  IntKind.wrap IntKind.i64 (y0 + (1 : Int))

def kwn : k4j → List (Nat × SV)
  | (y0, _, _) => [(5, (.one ⟨false, [(.val (.int IntKind.i64 y0))]⟩)), (0, (.one ⟨false, [(.ref 0)]⟩)), (1, (.one ⟨false, [(.ref 1)]⟩))]

def kw8 : k4j → List (Nat × Entry)
  | (_, y1, y2) => [(0, (.row false 150 (CTy.pair (CTy.int IntKind.i64) (CTy.int IntKind.i64)) y1)), (1, (.row false 150 (CTy.pair (CTy.int IntKind.i64) (CTy.int IntKind.i64)) y2))]

def kwd : Nat → k4j → List (Nat × SV)
  | 0, (_, _, _) => [(4, (.one ⟨false, [(.val (.bool false))]⟩))]
  | _, (_, _, _) => []

def kw9 : Nat → k4j → List (Nat × Entry)
  | 0, (_, y1, y2) => [(0, (.row false 150 (CTy.pair (CTy.int IntKind.i64) (CTy.int IntKind.i64)) y1)), (1, (.row false 150 (CTy.pair (CTy.int IntKind.i64) (CTy.int IntKind.i64)) y2))]
  | _, (_, y1, y2) => [(0, (.row false 150 (CTy.pair (CTy.int IntKind.i64) (CTy.int IntKind.i64)) y1)), (1, (.row false 150 (CTy.pair (CTy.int IntKind.i64) (CTy.int IntKind.i64)) y2))]

def kdy : k4j → LT k4j
  | (y0, y1, y2) => .ite (kbv y0 y1) (.need [(kc1 y0), (kbv y0 y1), (kea y0 y1), (kc1 y0), (ke7 y0 y2), (ke6 y0 y2)] (.ite (keq y0 y1 y2) (.ext 0 [(0, 0), (1, 1)]) (.nrm ((keg y0), y1, y2) [(0, 0), (1, 1)]))) (.ext 1 [(0, 0), (1, 1)])

def kl6 (s : St) : Option k4j :=
  (match s.look 5 with
  | some ⟨none, (.one ⟨false, [(.val (.int IntKind.i64 y0))]⟩)⟩ =>
  (match s.look 0 with
  | some ⟨none, (.one ⟨false, [(.ref 0)]⟩)⟩ =>
  (match s.look 1 with
  | some ⟨none, (.one ⟨false, [(.ref 1)]⟩)⟩ =>
  (match s.ent 0 with
  | some (.row false 150 (CTy.pair (CTy.int IntKind.i64) (CTy.int IntKind.i64)) y1) =>
  (match s.ent 1 with
  | some (.row false 150 (CTy.pair (CTy.int IntKind.i64) (CTy.int IntKind.i64)) y2) =>
  some (y0, y1, y2)
  | _ => none)
  | _ => none)
  | _ => none)
  | _ => none)
  | _ => none)

def k2b : Lp k4j where
  h := ⟨[11, 12, 13, 14, 17, 18, 19, 20, 21, 22, 23, 24, 25, 26, 4, 15, 16, 5], [0, 1], [], []⟩
  JL := kwn
  JE := kw8
  XL := kwd
  XE := kw9
  q := fun j => match j with | 0 => .ret | _ => .exit 0
  tags := [0, 1]
  lt := kdy
  fuel := fun (y0, y1, y2) => y0.natAbs + y1.length + y2.length
  fix := fun (_, y1, y2) (y0, _, _) => (y0, y1, y2)
  σ := [(0, 0), (1, 1)]
  rd := kl6

theorem kv7 : LoopOk Tryz.prog (fun k => Nat.blt k Tryz.f97.ntmps) k2b.F (loopAt Tryz.f97 0) := by
  refine Lp.ok (tbl := [ku6]) (lf := []) hmix k2b (by kernel_rfl) (LOk.nil _) (fun _ => rfl) (fun j _ => by unfold k2b; match j with | 0 => rfl | _ + 1 => rfl) ?_ ?_ ?_ ?_ (fun _ => rfl) ?_
  · intro x; obtain ⟨y0, y1, y2⟩ := x; kernel_rfl
  · intro x; obtain ⟨y0, y1, y2⟩ := x; kernel_rfl
  · intro s x h
    have h : kl6 s = some x := h
    unfold kl6 at h
    repeat' split at h
    all_goals cases h
    exact ⟨absS_cons (by assumption) rfl (absS_cons (by assumption) rfl (absS_cons (by assumption) rfl (rfl))), absE_cons rfl (by assumption) rfl (absE_cons rfl (by assumption) rfl (rfl))⟩
  · intro x; obtain ⟨y0, y1, y2⟩ := x; kernel_rfl
  · intro x z; obtain ⟨y0, y1, y2⟩ := x; exact (And.intro (And.intro trivial rfl) trivial)

def kjh (x0 : List (Int × Int)) (x1 : List (Int × Int)) : Bool :=
  (↑(List.length x0) : Int) != (↑(List.length x1) : Int)

def kjc (x0 : List (Int × Int)) (x1 : List (Int × Int)) : Int × List (Int × Int) × List (Int × Int) :=
  ((0 : Int), x0, x1)

def kk1 (x0 : List (Int × Int)) (x1 : List (Int × Int)) : Bool :=
  bif kjh x0 x1 then false
  else bif Nat.beq (Prod.fst (Lp.res k2b (kjc x0 x1))) (0 : Nat) then false else true

def kk2 (x0 : List (Int × Int)) (x1 : List (Int × Int)) : Bool :=
  allT [kjh x0 x1 || Lp.fin k2b (kjc x0 x1)]

def ktm : List SV → List Entry → Option Out
  | [.one ⟨false, [.ref 0]⟩, .one ⟨false, [.ref 1]⟩], [.row false 150 (.pair (.int .i64) (.int .i64)) x0, .row false 150 (.pair (.int .i64) (.int .i64)) x1] => some ⟨(.one ⟨false, [(.val (.bool (kk1 x0 x1)))]⟩), [(.row false 150 (CTy.pair (CTy.int IntKind.i64) (CTy.int IntKind.i64)) x0), (.row false 150 (CTy.pair (CTy.int IntKind.i64) (CTy.int IntKind.i64)) x1)], [], [(kk2 x0 x1)]⟩
  | _, _ => none

def kzf : PF Tryz.prog := PF.ofG Tryz.prog [ku6] [k2b.F] hmix 97 Tryz.f97 Tryz.func97 (LOk.fnT (l := [loopAt Tryz.f97 0]) (by kernel_rfl) (.cons kv7 (.nil _))) ktm (by
  intro vs es r h; unfold ktm at h; split at h
  · cases h; kernel_rfl
  · cases h)

abbrev kdu := Int × ByteArray

def kcd (y0 : Int) : ByteArray :=
  strOfNums [IntKind.wrap IntKind.u8 (IntKind.wrap IntKind.i64 ((48 : Int) + Int.tmod y0 (10 : Int)))]

def kof (y0 : Int) : Bool :=
  ltI (0 : Int) y0

def ks1  : Bool :=
  neI (10 : Int) (0 : Int)

def kwe (y0 : Int) (y1 : ByteArray) : Bool :=
  leN (ByteArray.size (kcd y0) + ByteArray.size y1) (9223372036854775807 : Nat)

def kwp (y0 : Int) : Int :=
  IntKind.wrap IntKind.i64 (Int.tdiv y0 (10 : Int))

def kwi (y0 : Int) (y1 : ByteArray) : ByteArray :=
  kcd y0 ++ y1

def k11s : kdu → List (Nat × SV)
  | (y0, y1) => [(0, (.one ⟨false, [(.val (.int IntKind.i64 y0))]⟩)), (3, (.one ⟨false, [(.val (.string y1))]⟩))]

def k11e : kdu → List (Nat × Entry)
  | (_, _) => []

def k111 : Nat → kdu → List (Nat × SV)
  | _, (y0, y1) => [(3, (.one ⟨false, [(.val (.string y1))]⟩)), (0, (.one ⟨false, [(.val (.int IntKind.i64 y0))]⟩))]

def k11w : Nat → kdu → List (Nat × Entry)
  | _, (_, _) => []

def knl : kdu → LT kdu
  | (y0, y1) => .ite (kof y0) (.need [(ks1), (kwe y0 y1)] (.need [(ks1)] (.nrm ((kwp y0), (kwi y0 y1)) []))) (.ext 0 [])

def kqw (s : St) : Option kdu :=
  (match s.look 0 with
  | some ⟨none, (.one ⟨false, [(.val (.int IntKind.i64 y0))]⟩)⟩ =>
  (match s.look 3 with
  | some ⟨none, (.one ⟨false, [(.val (.string y1))]⟩)⟩ =>
  some (y0, y1)
  | _ => none)
  | _ => none)

def k7g : Lp kdu where
  h := ⟨[6, 7, 8, 9, 10, 11, 12, 13, 14, 15, 3, 16, 17, 0], [], [], []⟩
  JL := k11s
  JE := k11e
  XL := k111
  XE := k11w
  q := fun j => match j with | _ => .exit 0
  tags := [0]
  lt := knl
  fuel := fun (y0, y1) => y0.natAbs + y1.size
  fix := fun (_, _) (y0, y1) => (y0, y1)
  σ := []
  rd := kqw

theorem kzp : LoopOk Tryz.prog (fun k => Nat.blt k Tryz.f168.ntmps) k7g.F (loopAt Tryz.f168 0) := by
  refine Lp.ok (tbl := []) (lf := []) hmix k7g (by kernel_rfl) (LOk.nil _) (fun _ => rfl) (fun _ _ => rfl) ?_ ?_ ?_ ?_ (fun _ => rfl) ?_
  · intro x; obtain ⟨y0, y1⟩ := x; kernel_rfl
  · intro x; obtain ⟨y0, y1⟩ := x; kernel_rfl
  · intro s x h
    have h : kqw s = some x := h
    unfold kqw at h
    repeat' split at h
    all_goals cases h
    exact ⟨absS_cons (by assumption) rfl (absS_cons (by assumption) rfl (rfl)), rfl⟩
  · intro x; obtain ⟨y0, y1⟩ := x; kernel_rfl
  · intro x z; obtain ⟨y0, y1⟩ := x; exact (And.intro rfl trivial)

def kuw (x0 : Int) : ByteArray :=
  Prod.snd (Prod.snd (Lp.res k7g (x0, { data := #[] })))

def kn8 (x0 : Int) : ByteArray :=
  bif leI x0 (0 : Int) then { data := #[(109 : UInt8), (48 : UInt8)] } else { data := #[(109 : UInt8)] } ++ kuw x0

def kpe (x0 : Int) : Bool :=
  allT
  [leI x0 (0 : Int) || Lp.fin k7g (x0, { data := #[] }),
    leI x0 (0 : Int) || leN (ByteArray.size { data := #[(109 : UInt8)] } + ByteArray.size (kuw x0)) (9223372036854775807 : Nat)]

def kzz : List SV → List Entry → Option Out
  | [.one ⟨false, [.val (.int .i64 x0)]⟩], [] => some ⟨(.one ⟨false, [(.val (.string (kn8 x0)))]⟩), [], [], [(kpe x0)]⟩
  | _, _ => none

def k105 : PF Tryz.prog := PF.ofG Tryz.prog [] [k7g.F] hmix 168 Tryz.f168 Tryz.func168 (LOk.fnT (l := [loopAt Tryz.f168 0]) (by kernel_rfl) (.cons kzp (.nil _))) kzz (by
  intro vs es r h; unfold kzz at h; split at h
  · cases h; kernel_rfl
  · cases h)

abbrev k8y := Int × Int × List (Int × (ByteArray × Int))

def kdg (y1 : Int) : Int :=
  IntKind.wrap IntKind.i64 (y1 + (1 : Int))

def kfx (y0 : Int) (y2 : List (Int × (ByteArray × Int))) : ByteArray × Int :=
  Prod.snd (Option.getD y2[Int.toNat y0]? ((0 : Int), ByteArray.empty, (0 : Int)))

def kbf (y0 : Int) (y1 : Int) (y2 : List (Int × (ByteArray × Int))) : List (Int × ByteArray × Int) :=
  List.set y2 (Int.toNat y0) (y1, Prod.fst (kfx y0 y2), Prod.snd (kfx y0 y2))

def kfv (y0 : Int) (y1 : Int) (y2 : List (Int × (ByteArray × Int))) : Int × ByteArray × Int :=
  Option.getD (kbf y0 y1 y2)[Int.toNat y0]? ((0 : Int), ByteArray.empty, (0 : Int))

def kbi (y0 : Int) (y1 : Int) (y2 : List (Int × (ByteArray × Int))) : List (Int × ByteArray × Int) :=
  List.set (kbf y0 y1 y2) (Int.toNat y0)
  (Prod.fst (kfv y0 y1 y2), kn8 (kdg y1), Prod.snd (Prod.snd (kfv y0 y1 y2)))

def kff (y1 : Int) : Int :=
  IntKind.wrap IntKind.i64 (kdg y1 + (1 : Int))

def kfq (y0 : Int) (y1 : Int) (y2 : List (Int × (ByteArray × Int))) : Int × ByteArray × Int :=
  Option.getD (kbi y0 y1 y2)[Int.toNat y0]? ((0 : Int), ByteArray.empty, (0 : Int))

def kgr (y0 : Int) (y2 : List (Int × (ByteArray × Int))) : Bool :=
  ltI y0 (↑(List.length y2) : Int)

def kei (y0 : Int) : Bool :=
  leI (0 : Int) y0

def kj4 (y0 : Int) (y2 : List (Int × (ByteArray × Int))) : Bool :=
  ltN (Int.toNat y0) (List.length y2)

def kj0 (y1 : Int) : Bool :=
  kpe (kdg y1)

def kj1 (y0 : Int) (y1 : Int) (y2 : List (Int × (ByteArray × Int))) : Bool :=
  ltI y0 (↑(List.length (kbf y0 y1 y2)) : Int)

def kjm (y0 : Int) (y1 : Int) (y2 : List (Int × (ByteArray × Int))) : Bool :=
  ltN (Int.toNat y0) (List.length (kbf y0 y1 y2))

def kj6 (y0 : Int) (y1 : Int) (y2 : List (Int × (ByteArray × Int))) : Bool :=
  ltI y0 (↑(List.length (kbi y0 y1 y2)) : Int)

def kjl (y0 : Int) (y1 : Int) (y2 : List (Int × (ByteArray × Int))) : Bool :=
  ltN (Int.toNat y0) (List.length (kbi y0 y1 y2))

def kja (y0 : Int) : Int :=
  IntKind.wrap IntKind.i64 (y0 + (1 : Int))

def kjk (y1 : Int) : Int :=
  IntKind.wrap IntKind.i64 (kff y1 + (1 : Int))

def ki7 (y0 : Int) (y1 : Int) (y2 : List (Int × (ByteArray × Int))) : List (Int × (ByteArray × Int)) :=
  List.set (kbi y0 y1 y2) (Int.toNat y0)
  (Prod.fst (kfq y0 y1 y2), Prod.fst (Prod.snd (kfq y0 y1 y2)), kff y1)

def k10y : k8y → List (Nat × SV)
  | (y0, y1, _) => [(5, (.one ⟨false, [(.val (.int IntKind.i64 y0))]⟩)), (0, (.one ⟨false, [(.ref 0)]⟩)), (1, (.one ⟨false, [(.val (.int IntKind.i64 y1))]⟩))]

def k10x : k8y → List (Nat × Entry)
  | (_, _, y2) => [(0, (.row true 178 (CTy.pair (CTy.int IntKind.i64) (CTy.pair CTy.str (CTy.int IntKind.i64))) y2))]

def k10f : Nat → k8y → List (Nat × SV)
  | _, (_, y1, _) => [(1, (.one ⟨false, [(.val (.int IntKind.i64 y1))]⟩))]

def k10i : Nat → k8y → List (Nat × Entry)
  | _, (_, _, y2) => [(0, (.row true 178 (CTy.pair (CTy.int IntKind.i64) (CTy.pair CTy.str (CTy.int IntKind.i64))) y2))]

def ki4 : k8y → LT k8y
  | (y0, y1, y2) => .ite (kgr y0 y2) (.need [(kei y0), (kgr y0 y2), (kj4 y0 y2)] (.need [(kj0 y1), (kei y0), (kj1 y0 y1 y2), (kjm y0 y1 y2)] (.need [(kei y0), (kj6 y0 y1 y2), (kjl y0 y1 y2)] (.nrm ((kja y0), (kjk y1), (ki7 y0 y1 y2)) [(0, 0)])))) (.ext 0 [(0, 0)])

def kpt (s : St) : Option k8y :=
  (match s.look 5 with
  | some ⟨none, (.one ⟨false, [(.val (.int IntKind.i64 y0))]⟩)⟩ =>
  (match s.look 0 with
  | some ⟨none, (.one ⟨false, [(.ref 0)]⟩)⟩ =>
  (match s.look 1 with
  | some ⟨none, (.one ⟨false, [(.val (.int IntKind.i64 y1))]⟩)⟩ =>
  (match s.ent 0 with
  | some (.row true 178 (CTy.pair (CTy.int IntKind.i64) (CTy.pair CTy.str (CTy.int IntKind.i64))) y2) =>
  some (y0, y1, y2)
  | _ => none)
  | _ => none)
  | _ => none)
  | _ => none)

def k4f : Lp k8y where
  h := ⟨[6, 7, 8, 9, 12, 13, 14, 15, 16, 17, 18, 1, 19, 20, 21, 22, 23, 24, 25, 26, 27, 28, 29, 30, 31, 32, 33, 10, 11, 5], [0], [], []⟩
  JL := k10y
  JE := k10x
  XL := k10f
  XE := k10i
  q := fun j => match j with | _ => .exit 0
  tags := [0]
  lt := ki4
  fuel := fun (y0, y1, y2) => y0.natAbs + y1.natAbs + y2.length
  fix := fun (_, _, _) (y0, y1, y2) => (y0, y1, y2)
  σ := [(0, 0)]
  rd := kpt

theorem kz2 : LoopOk Tryz.prog (fun k => Nat.blt k Tryz.f98.ntmps) k4f.F (loopAt Tryz.f98 0) := by
  refine Lp.ok (tbl := [k105]) (lf := []) hmix k4f (by kernel_rfl) (LOk.nil _) (fun _ => rfl) (fun _ _ => rfl) ?_ ?_ ?_ ?_ (fun _ => rfl) ?_
  · intro x; obtain ⟨y0, y1, y2⟩ := x; kernel_rfl
  · intro x; obtain ⟨y0, y1, y2⟩ := x; kernel_rfl
  · intro s x h
    have h : kpt s = some x := h
    unfold kpt at h
    repeat' split at h
    all_goals cases h
    exact ⟨absS_cons (by assumption) rfl (absS_cons (by assumption) rfl (absS_cons (by assumption) rfl (rfl))), absE_cons rfl (by assumption) rfl (rfl)⟩
  · intro x; obtain ⟨y0, y1, y2⟩ := x; kernel_rfl
  · intro x z; obtain ⟨y0, y1, y2⟩ := x; exact (And.intro rfl trivial)

def kpj (x0 : Int) (x1 : List (Int × ByteArray × Int)) : Int × Int × List (Int × ByteArray × Int) :=
  ((0 : Int), x0, x1)

def ktf (x0 : Int) (x1 : List (Int × ByteArray × Int)) : Int × List (Int × ByteArray × Int) :=
  Prod.snd (Prod.snd (Lp.res k4f (kpj x0 x1)))

def ku5 (x0 : Int) (x1 : List (Int × ByteArray × Int)) : Int :=
  Prod.fst (ktf x0 x1)

def kuu (x0 : Int) (x1 : List (Int × ByteArray × Int)) : List (Int × (ByteArray × Int)) :=
  Prod.snd (ktf x0 x1)

def ku1 (x0 : Int) (x1 : List (Int × ByteArray × Int)) : Bool :=
  allT [Lp.fin k4f (kpj x0 x1)]

def kye : List SV → List Entry → Option Out
  | [.one ⟨false, [.ref 0]⟩, .one ⟨false, [.val (.int .i64 x0)]⟩], [.row true 178 (.pair (.int .i64) (.pair (.str) (.int .i64))) x1] => some ⟨(.one ⟨false, [(.val (.int IntKind.i64 (ku5 x0 x1)))]⟩), [(.row true 178 (CTy.pair (CTy.int IntKind.i64) (CTy.pair CTy.str (CTy.int IntKind.i64))) (kuu x0 x1))], [], [(ku1 x0 x1)]⟩
  | _, _ => none

def k14s : PF Tryz.prog := PF.ofG Tryz.prog [k105] [k4f.F] hmix 98 Tryz.f98 Tryz.func98 (LOk.fnT (l := [loopAt Tryz.f98 0]) (by kernel_rfl) (.cons kz2 (.nil _))) kye (by
  intro vs es r h; unfold kye at h; split at h
  · cases h; kernel_rfl
  · cases h)

abbrev k3f := Int × Int × List (Int × Int)

def k5b (y0 : Int) (y1 : Int) (y2 : List (Int × Int)) : List (Int × Int) :=
  List.set y2 (Int.toNat y0) (y1, Prod.snd (Option.getD y2[Int.toNat y0]? ((0 : Int), (0 : Int))))

def k9n (y1 : Int) : Int :=
  IntKind.wrap IntKind.i64 (y1 + (1 : Int))

def kam (y0 : Int) (y2 : List (Int × Int)) : Bool :=
  ltI y0 (↑(List.length y2) : Int)

def kae (y0 : Int) : Bool :=
  leI (0 : Int) y0

def kcv (y0 : Int) (y2 : List (Int × Int)) : Bool :=
  ltN (Int.toNat y0) (List.length y2)

def kcr (y0 : Int) (y1 : Int) (y2 : List (Int × Int)) : Bool :=
  ltI y0 (↑(List.length (k5b y0 y1 y2)) : Int)

def kcz (y0 : Int) (y1 : Int) (y2 : List (Int × Int)) : Bool :=
  ltN (Int.toNat y0) (List.length (k5b y0 y1 y2))

def kcu (y0 : Int) : Int :=
  IntKind.wrap IntKind.i64 (y0 + (1 : Int))

def kd4 (y1 : Int) : Int :=
  IntKind.wrap IntKind.i64 (k9n y1 + (1 : Int))

def kd7 (y0 : Int) (y1 : Int) (y2 : List (Int × Int)) : List (Int × Int) :=
  List.set (k5b y0 y1 y2) (Int.toNat y0)
  (Prod.fst (Option.getD (k5b y0 y1 y2)[Int.toNat y0]? ((0 : Int), (0 : Int))), k9n y1)

def kv6 : k3f → List (Nat × SV)
  | (y0, y1, _) => [(5, (.one ⟨false, [(.val (.int IntKind.i64 y0))]⟩)), (0, (.one ⟨false, [(.ref 0)]⟩)), (1, (.one ⟨false, [(.val (.int IntKind.i64 y1))]⟩))]

def kv2 : k3f → List (Nat × Entry)
  | (_, _, y2) => [(0, (.row true 150 (CTy.pair (CTy.int IntKind.i64) (CTy.int IntKind.i64)) y2))]

def kv3 : Nat → k3f → List (Nat × SV)
  | _, (_, y1, _) => [(1, (.one ⟨false, [(.val (.int IntKind.i64 y1))]⟩))]

def kv4 : Nat → k3f → List (Nat × Entry)
  | _, (_, _, y2) => [(0, (.row true 150 (CTy.pair (CTy.int IntKind.i64) (CTy.int IntKind.i64)) y2))]

def kc6 : k3f → LT k3f
  | (y0, y1, y2) => .ite (kam y0 y2) (.need [(kae y0), (kam y0 y2), (kcv y0 y2)] (.need [(kae y0), (kcr y0 y1 y2), (kcz y0 y1 y2)] (.nrm ((kcu y0), (kd4 y1), (kd7 y0 y1 y2)) [(0, 0)]))) (.ext 0 [(0, 0)])

def kip (s : St) : Option k3f :=
  (match s.look 5 with
  | some ⟨none, (.one ⟨false, [(.val (.int IntKind.i64 y0))]⟩)⟩ =>
  (match s.look 0 with
  | some ⟨none, (.one ⟨false, [(.ref 0)]⟩)⟩ =>
  (match s.look 1 with
  | some ⟨none, (.one ⟨false, [(.val (.int IntKind.i64 y1))]⟩)⟩ =>
  (match s.ent 0 with
  | some (.row true 150 (CTy.pair (CTy.int IntKind.i64) (CTy.int IntKind.i64)) y2) =>
  some (y0, y1, y2)
  | _ => none)
  | _ => none)
  | _ => none)
  | _ => none)

def k29 : Lp k3f where
  h := ⟨[6, 7, 8, 9, 12, 13, 14, 15, 16, 17, 18, 1, 19, 20, 21, 22, 23, 24, 25, 10, 11, 5], [0], [], []⟩
  JL := kv6
  JE := kv2
  XL := kv3
  XE := kv4
  q := fun j => match j with | _ => .exit 0
  tags := [0]
  lt := kc6
  fuel := fun (y0, y1, y2) => y0.natAbs + y1.natAbs + y2.length
  fix := fun (_, _, _) (y0, y1, y2) => (y0, y1, y2)
  σ := [(0, 0)]
  rd := kip

theorem ktx : LoopOk Tryz.prog (fun k => Nat.blt k Tryz.f99.ntmps) k29.F (loopAt Tryz.f99 0) := by
  refine Lp.ok (tbl := []) (lf := []) hmix k29 (by kernel_rfl) (LOk.nil _) (fun _ => rfl) (fun _ _ => rfl) ?_ ?_ ?_ ?_ (fun _ => rfl) ?_
  · intro x; obtain ⟨y0, y1, y2⟩ := x; kernel_rfl
  · intro x; obtain ⟨y0, y1, y2⟩ := x; kernel_rfl
  · intro s x h
    have h : kip s = some x := h
    unfold kip at h
    repeat' split at h
    all_goals cases h
    exact ⟨absS_cons (by assumption) rfl (absS_cons (by assumption) rfl (absS_cons (by assumption) rfl (rfl))), absE_cons rfl (by assumption) rfl (rfl)⟩
  · intro x; obtain ⟨y0, y1, y2⟩ := x; kernel_rfl
  · intro x z; obtain ⟨y0, y1, y2⟩ := x; exact (And.intro rfl trivial)

def kh6 (x0 : Int) (x1 : List (Int × Int)) : Int × Int × List (Int × Int) :=
  ((0 : Int), x0, x1)

def klg (x0 : Int) (x1 : List (Int × Int)) : Int × List (Int × Int) :=
  Prod.snd (Prod.snd (Lp.res k29 (kh6 x0 x1)))

def kne (x0 : Int) (x1 : List (Int × Int)) : Int :=
  Prod.fst (klg x0 x1)

def knh (x0 : Int) (x1 : List (Int × Int)) : List (Int × Int) :=
  Prod.snd (klg x0 x1)

def kna (x0 : Int) (x1 : List (Int × Int)) : Bool :=
  allT [Lp.fin k29 (kh6 x0 x1)]

def krc : List SV → List Entry → Option Out
  | [.one ⟨false, [.ref 0]⟩, .one ⟨false, [.val (.int .i64 x0)]⟩], [.row true 150 (.pair (.int .i64) (.int .i64)) x1] => some ⟨(.one ⟨false, [(.val (.int IntKind.i64 (kne x0 x1)))]⟩), [(.row true 150 (CTy.pair (CTy.int IntKind.i64) (CTy.int IntKind.i64)) (knh x0 x1))], [], [(kna x0 x1)]⟩
  | _, _ => none

def kyb : PF Tryz.prog := PF.ofG Tryz.prog [] [k29.F] hmix 99 Tryz.f99 Tryz.func99 (LOk.fnT (l := [loopAt Tryz.f99 0]) (by kernel_rfl) (.cons ktx (.nil _))) krc (by
  intro vs es r h; unfold krc at h; split at h
  · cases h; kernel_rfl
  · cases h)

def koy (x0 : Int) (x1 : List (Int × Int × Int)) : Int :=
  IntKind.wrap IntKind.i64 (x0 - (↑(List.length x1) : Int))

def kps (x0 : Int) (x1 : List (Int × Int × Int)) : Int :=
  bif ltI (koy x0 x1) (0 : Int) then (-1 : Int) else koy x0 x1

def kul : List SV → List Entry → Option Out
  | [.one ⟨false, [.ref 0]⟩, .one ⟨false, [.val (.int .i64 x0)]⟩], [.row false 194 (.pair (.int .i64) (.pair (.int .i64) (.int .i64))) x1] => some ⟨(.one ⟨false, [(.val (.int IntKind.i64 (kps x0 x1)))]⟩), [(.row false 194 (CTy.pair (CTy.int IntKind.i64) (CTy.pair (CTy.int IntKind.i64) (CTy.int IntKind.i64))) x1)], [], []⟩
  | _, _ => none

def k10t : PF Tryz.prog := PF.ofG Tryz.prog [] [] hmix 100 Tryz.f100 Tryz.func100 (fun c _ => LOk.nil c) kul (by
  intro vs es r h; unfold kul at h; split at h
  · cases h; kernel_rfl
  · cases h)

abbrev kaj := Int × Int × Int × Int × List (Int × (ByteArray × Int)) × List (Int × Int) × List Int × List (Int × (Int × Int))

def kgn (y0 : Int) (y4 : List (Int × (ByteArray × Int))) : Int × ByteArray × Int :=
  Option.getD y4[Int.toNat y0]? ((0 : Int), ByteArray.empty, (0 : Int))

def kej (y0 : Int) (y7 : List (Int × (Int × Int))) : Int × Int × Int :=
  Option.getD y7[Int.toNat y0]? ((0 : Int), (0 : Int), (0 : Int))

def khj (y0 : Int) (y4 : List (Int × (ByteArray × Int))) : Bool :=
  ltI y0 (↑(List.length y4) : Int)

def khg (y0 : Int) : Bool :=
  leI (0 : Int) y0

def kl5 (y0 : Int) (y4 : List (Int × (ByteArray × Int))) : Bool :=
  ltN (Int.toNat y0) (List.length y4)

def kkf (y0 : Int) (y7 : List (Int × (Int × Int))) : Bool :=
  ltI y0 (↑(List.length y7) : Int)

def kkx (y0 : Int) (y7 : List (Int × (Int × Int))) : Bool :=
  ltN (Int.toNat y0) (List.length y7)

def kl4 (y0 : Int) (y4 : List (Int × (ByteArray × Int))) (y7 : List (Int × (Int × Int))) : Bool :=
  !k2u (Prod.fst (kgn y0 y4)) (Prod.snd (Prod.snd (kgn y0 y4))) (Prod.fst (kej y0 y7))
    (Prod.fst (Prod.snd (kej y0 y7))) (Prod.snd (Prod.snd (kej y0 y7)))

def kl2 (y0 : Int) : Int :=
  IntKind.wrap IntKind.i64 (y0 + (1 : Int))

def k11n : kaj → List (Nat × SV)
  | (y0, _, _, _, _, _, _, _) => [(5, (.one ⟨false, [(.val (.int IntKind.i64 y0))]⟩)), (2, (.one ⟨false, [(.ptr 0 0)]⟩)), (3, (.one ⟨false, [(.ptr 1 0)]⟩))]

def k11g : kaj → List (Nat × Entry)
  | (_, y1, y2, y3, y4, y5, y6, y7) => [(0, (.box 34 [(.val (.int IntKind.i64 y1)), (.val (.int IntKind.i64 y2)), (.val (.int IntKind.i64 y3)), (.ref 2), (.ref 3)])), (1, (.box 48 [(.ref 4), (.ref 5)])), (2, (.row false 178 (CTy.pair (CTy.int IntKind.i64) (CTy.pair CTy.str (CTy.int IntKind.i64))) y4)), (3, (.row false 150 (CTy.pair (CTy.int IntKind.i64) (CTy.int IntKind.i64)) y5)), (4, (.row false 2 (CTy.int IntKind.i64) y6)), (5, (.row false 172 (CTy.pair (CTy.int IntKind.i64) (CTy.pair (CTy.int IntKind.i64) (CTy.int IntKind.i64))) y7))]

def k11y : Nat → kaj → List (Nat × SV)
  | 0, (_, _, _, _, _, _, _, _) => [(4, (.one ⟨false, [(.val (.bool false))]⟩))]
  | _, (_, _, _, _, _, _, _, _) => []

def k11r : Nat → kaj → List (Nat × Entry)
  | 0, (_, y1, y2, y3, y4, y5, y6, y7) => [(0, (.box 34 [(.val (.int IntKind.i64 y1)), (.val (.int IntKind.i64 y2)), (.val (.int IntKind.i64 y3)), (.ref 2), (.ref 3)])), (1, (.box 48 [(.ref 4), (.ref 5)])), (2, (.row false 178 (CTy.pair (CTy.int IntKind.i64) (CTy.pair CTy.str (CTy.int IntKind.i64))) y4)), (3, (.row false 150 (CTy.pair (CTy.int IntKind.i64) (CTy.int IntKind.i64)) y5)), (4, (.row false 2 (CTy.int IntKind.i64) y6)), (5, (.row false 172 (CTy.pair (CTy.int IntKind.i64) (CTy.pair (CTy.int IntKind.i64) (CTy.int IntKind.i64))) y7))]
  | _, (_, y1, y2, y3, y4, y5, y6, y7) => [(0, (.box 34 [(.val (.int IntKind.i64 y1)), (.val (.int IntKind.i64 y2)), (.val (.int IntKind.i64 y3)), (.ref 2), (.ref 3)])), (1, (.box 48 [(.ref 4), (.ref 5)])), (2, (.row false 178 (CTy.pair (CTy.int IntKind.i64) (CTy.pair CTy.str (CTy.int IntKind.i64))) y4)), (3, (.row false 150 (CTy.pair (CTy.int IntKind.i64) (CTy.int IntKind.i64)) y5)), (4, (.row false 2 (CTy.int IntKind.i64) y6)), (5, (.row false 172 (CTy.pair (CTy.int IntKind.i64) (CTy.pair (CTy.int IntKind.i64) (CTy.int IntKind.i64))) y7))]

def kjo : kaj → LT kaj
  | (y0, y1, y2, y3, y4, y5, y6, y7) => .ite (khj y0 y4) (.need [(khg y0), (khj y0 y4), (kl5 y0 y4), (khg y0), (kkf y0 y7), (kkx y0 y7)] (.ite (kl4 y0 y4 y7) (.ext 0 [(0, 0), (1, 1), (2, 2), (3, 3), (4, 4), (5, 5)]) (.nrm ((kl2 y0), y1, y2, y3, y4, y5, y6, y7) [(0, 0), (1, 1), (2, 2), (3, 3), (4, 4), (5, 5)]))) (.ext 1 [(0, 0), (1, 1), (2, 2), (3, 3), (4, 4), (5, 5)])

def kqx (s : St) : Option kaj :=
  (match s.look 5 with
  | some ⟨none, (.one ⟨false, [(.val (.int IntKind.i64 y0))]⟩)⟩ =>
  (match s.look 2 with
  | some ⟨none, (.one ⟨false, [(.ptr 320 0)]⟩)⟩ =>
  (match s.look 3 with
  | some ⟨none, (.one ⟨false, [(.ptr 384 0)]⟩)⟩ =>
  (match s.ent 320 with
  | some (.box 34 [(.val (.int IntKind.i64 y1)), (.val (.int IntKind.i64 y2)), (.val (.int IntKind.i64 y3)), (.ref 0), (.ref 1)]) =>
  (match s.ent 384 with
  | some (.box 48 [(.ref 2), (.ref 3)]) =>
  (match s.ent 0 with
  | some (.row false 178 (CTy.pair (CTy.int IntKind.i64) (CTy.pair CTy.str (CTy.int IntKind.i64))) y4) =>
  (match s.ent 1 with
  | some (.row false 150 (CTy.pair (CTy.int IntKind.i64) (CTy.int IntKind.i64)) y5) =>
  (match s.ent 2 with
  | some (.row false 2 (CTy.int IntKind.i64) y6) =>
  (match s.ent 3 with
  | some (.row false 172 (CTy.pair (CTy.int IntKind.i64) (CTy.pair (CTy.int IntKind.i64) (CTy.int IntKind.i64))) y7) =>
  some (y0, y1, y2, y3, y4, y5, y6, y7)
  | _ => none)
  | _ => none)
  | _ => none)
  | _ => none)
  | _ => none)
  | _ => none)
  | _ => none)
  | _ => none)
  | _ => none)

def k49 : Lp kaj where
  h := ⟨[21, 22, 23, 24, 25, 28, 29, 30, 31, 32, 33, 34, 35, 36, 37, 38, 39, 4, 26, 27, 5], [0, 1, 2, 3, 4, 5], [], []⟩
  JL := k11n
  JE := k11g
  XL := k11y
  XE := k11r
  q := fun j => match j with | 0 => .ret | _ => .exit 0
  tags := [0, 1]
  lt := kjo
  fuel := fun (y0, y1, y2, y3, y4, y5, y6, y7) => y0.natAbs + y1.natAbs + y2.natAbs + y3.natAbs + y4.length + y5.length + y6.length + y7.length
  fix := fun (_, y1, y2, y3, y4, y5, y6, y7) (y0, _, _, _, _, _, _, _) => (y0, y1, y2, y3, y4, y5, y6, y7)
  σ := [(0, 320), (1, 384), (2, 0), (3, 1), (4, 2), (5, 3)]
  rd := kqx

theorem kzt : LoopOk Tryz.prog (fun k => Nat.blt k Tryz.f101.ntmps) k49.F (loopAt Tryz.f101 0) := by
  refine Lp.ok (tbl := [kwc, kdc, PF.lend kdc, PF.fz kdc]) (lf := []) hmix k49 (by kernel_rfl) (LOk.nil _) (fun _ => rfl) (fun j _ => by unfold k49; match j with | 0 => rfl | _ + 1 => rfl) ?_ ?_ ?_ ?_ (fun _ => rfl) ?_
  · intro x; obtain ⟨y0, y1, y2, y3, y4, y5, y6, y7⟩ := x; kernel_rfl
  · intro x; obtain ⟨y0, y1, y2, y3, y4, y5, y6, y7⟩ := x; kernel_rfl
  · intro s x h
    have h : kqx s = some x := h
    unfold kqx at h
    repeat' split at h
    all_goals cases h
    exact ⟨absS_cons (by assumption) rfl (absS_cons (by assumption) rfl (absS_cons (by assumption) rfl (rfl))), absE_cons rfl (by assumption) rfl (absE_cons rfl (by assumption) rfl (absE_cons rfl (by assumption) rfl (absE_cons rfl (by assumption) rfl (absE_cons rfl (by assumption) rfl (absE_cons rfl (by assumption) rfl (rfl))))))⟩
  · intro x; obtain ⟨y0, y1, y2, y3, y4, y5, y6, y7⟩ := x; kernel_rfl
  · intro x z; obtain ⟨y0, y1, y2, y3, y4, y5, y6, y7⟩ := x; exact (And.intro (And.intro trivial rfl) trivial)

def kie (x3 : List (Int × ByteArray × Int)) (x6 : List (Int × Int × Int)) : Bool :=
  (↑(List.length x6) : Int) != (↑(List.length x3) : Int)

def ku9 (x0 : Int) (x1 : Int) (x2 : Int) (x3 : List (Int × ByteArray × Int)) (x4 : List (Int × Int)) (x5 : List Int) (x6 : List (Int × Int × Int)) : Int × Int × Int × Int × List (Int × ByteArray × Int) × List (Int × Int) × List Int × List (Int × Int × Int) :=
  ((0 : Int), x0, x1, x2, x3, x4, x5, x6)

def ksn (x0 : Int) (x1 : Int) (x2 : Int) (x3 : List (Int × ByteArray × Int)) (x4 : List (Int × Int)) (x5 : List Int) (x6 : List (Int × Int × Int)) : Bool :=
  bif bif kie x3 x6 then true else !bitsB x1 x5 then false
  else bif Nat.beq (Prod.fst (Lp.res k49 (ku9 x0 x1 x2 x3 x4 x5 x6))) (0 : Nat) then false else true

def kss (x0 : Int) (x1 : Int) (x2 : Int) (x3 : List (Int × ByteArray × Int)) (x4 : List (Int × Int)) (x5 : List Int) (x6 : List (Int × Int × Int)) : Bool :=
  allT
  [!(!kie x3 x6 && true) || leN (List.length x5) (9223372036854775807 : Nat),
    (bif kie x3 x6 then true else !bitsB x1 x5) || Lp.fin k49 (ku9 x0 x1 x2 x3 x4 x5 x6)]

def kzu : List SV → List Entry → Option Out
  | [.one ⟨true, [.val (.int .i64 x0), .val (.int .i64 x1), .val (.int .i64 x2), .ref 0, .ref 1]⟩, .one ⟨true, [.ref 2, .ref 3]⟩], [.row false 178 (.pair (.int .i64) (.pair (.str) (.int .i64))) x3, .row false 150 (.pair (.int .i64) (.int .i64)) x4, .row false 2 (.int .i64) x5, .row false 172 (.pair (.int .i64) (.pair (.int .i64) (.int .i64))) x6] => some ⟨(.one ⟨false, [(.val (.bool (ksn x0 x1 x2 x3 x4 x5 x6)))]⟩), [(.row false 178 (CTy.pair (CTy.int IntKind.i64) (CTy.pair CTy.str (CTy.int IntKind.i64))) x3), (.row false 150 (CTy.pair (CTy.int IntKind.i64) (CTy.int IntKind.i64)) x4), (.row false 2 (CTy.int IntKind.i64) x5), (.row false 172 (CTy.pair (CTy.int IntKind.i64) (CTy.pair (CTy.int IntKind.i64) (CTy.int IntKind.i64))) x6)], [], [(kss x0 x1 x2 x3 x4 x5 x6)]⟩
  | _, _ => none

def k14v : PF Tryz.prog := PF.ofG Tryz.prog [kwc, kdc, PF.lend kdc, PF.fz kdc] [k49.F] hmix 101 Tryz.f101 Tryz.func101 (LOk.fnT (l := [loopAt Tryz.f101 0]) (by kernel_rfl) (.cons kzt (.nil _))) kzu (by
  intro vs es r h; unfold kzu at h; split at h
  · cases h; kernel_rfl
  · cases h)

abbrev k58 := Int × List (Int × (Int × Int)) × List (Int × (Int × Int))

def k9v (y0 : Int) (y1 : List (Int × (Int × Int))) : Int × Int × Int :=
  Option.getD y1[Int.toNat y0]? ((0 : Int), (0 : Int), (0 : Int))

def kck (y0 : Int) (y1 : List (Int × (Int × Int))) : Bool :=
  ltI y0 (↑(List.length y1) : Int)

def kcm (y0 : Int) : Bool :=
  leI (0 : Int) y0

def kf8 (y0 : Int) (y1 : List (Int × (Int × Int))) : Bool :=
  ltN (Int.toNat y0) (List.length y1)

def kfa (y0 : Int) (y2 : List (Int × (Int × Int))) : Bool :=
  ltI y0 (↑(List.length y2) : Int)

def kf6 (y0 : Int) (y2 : List (Int × (Int × Int))) : Bool :=
  ltN (Int.toNat y0) (List.length y2)

def kf5 (y0 : Int) : Int :=
  IntKind.wrap IntKind.i64 (y0 + (1 : Int))

def kfd (y0 : Int) (y1 : List (Int × (Int × Int))) (y2 : List (Int × (Int × Int))) : List (Int × (Int × Int)) :=
  List.set y2 (Int.toNat y0)
  (Prod.fst (k9v y0 y1), Prod.fst (Prod.snd (k9v y0 y1)),
    Prod.snd (Prod.snd (k9v y0 y1)))

def kx2 : k58 → List (Nat × SV)
  | (y0, _, _) => [(4, (.one ⟨false, [(.val (.int IntKind.i64 y0))]⟩)), (0, (.one ⟨false, [(.ref 0)]⟩)), (3, (.one ⟨false, [(.ref 1)]⟩))]

def kxn : k58 → List (Nat × Entry)
  | (_, y1, y2) => [(0, (.row false 194 (CTy.pair (CTy.int IntKind.i64) (CTy.pair (CTy.int IntKind.i64) (CTy.int IntKind.i64))) y1)), (1, (.row true 172 (CTy.pair (CTy.int IntKind.i64) (CTy.pair (CTy.int IntKind.i64) (CTy.int IntKind.i64))) y2))]

def kx1 : Nat → k58 → List (Nat × SV)
  | _, (_, _, _) => []

def kxa : Nat → k58 → List (Nat × Entry)
  | _, (_, y1, y2) => [(0, (.row false 194 (CTy.pair (CTy.int IntKind.i64) (CTy.pair (CTy.int IntKind.i64) (CTy.int IntKind.i64))) y1)), (1, (.row true 172 (CTy.pair (CTy.int IntKind.i64) (CTy.pair (CTy.int IntKind.i64) (CTy.int IntKind.i64))) y2))]

def keh : k58 → LT k58
  | (y0, y1, y2) => .ite (kck y0 y1) (.need [(kcm y0), (kck y0 y1), (kf8 y0 y1), (kcm y0), (kfa y0 y2), (kf6 y0 y2)] (.nrm ((kf5 y0), y1, (kfd y0 y1 y2)) [(0, 0), (1, 1)])) (.ext 0 [(0, 0), (1, 1)])

def klr (s : St) : Option k58 :=
  (match s.look 4 with
  | some ⟨none, (.one ⟨false, [(.val (.int IntKind.i64 y0))]⟩)⟩ =>
  (match s.look 0 with
  | some ⟨none, (.one ⟨false, [(.ref 0)]⟩)⟩ =>
  (match s.look 3 with
  | some ⟨none, (.one ⟨false, [(.ref 320)]⟩)⟩ =>
  (match s.ent 0 with
  | some (.row false 194 (CTy.pair (CTy.int IntKind.i64) (CTy.pair (CTy.int IntKind.i64) (CTy.int IntKind.i64))) y1) =>
  (match s.ent 320 with
  | some (.row true 172 (CTy.pair (CTy.int IntKind.i64) (CTy.pair (CTy.int IntKind.i64) (CTy.int IntKind.i64))) y2) =>
  some (y0, y1, y2)
  | _ => none)
  | _ => none)
  | _ => none)
  | _ => none)
  | _ => none)

def k2v : Lp k58 where
  h := ⟨[8, 9, 10, 11, 14, 15, 16, 17, 18, 19, 20, 21, 12, 13, 4], [0, 1], [], []⟩
  JL := kx2
  JE := kxn
  XL := kx1
  XE := kxa
  q := fun j => match j with | _ => .exit 0
  tags := [0]
  lt := keh
  fuel := fun (y0, y1, y2) => y0.natAbs + y1.length + y2.length
  fix := fun (_, y1, _) (y0, _, y2) => (y0, y1, y2)
  σ := [(0, 0), (1, 320)]
  rd := klr

theorem kw4 : LoopOk Tryz.prog (fun k => Nat.blt k Tryz.f102.ntmps) k2v.F (loopAt Tryz.f102 0) := by
  refine Lp.ok (tbl := [kvh]) (lf := []) hmix k2v (by kernel_rfl) (LOk.nil _) (fun _ => rfl) (fun _ _ => rfl) ?_ ?_ ?_ ?_ (fun _ => rfl) ?_
  · intro x; obtain ⟨y0, y1, y2⟩ := x; kernel_rfl
  · intro x; obtain ⟨y0, y1, y2⟩ := x; kernel_rfl
  · intro s x h
    have h : klr s = some x := h
    unfold klr at h
    repeat' split at h
    all_goals cases h
    exact ⟨absS_cons (by assumption) rfl (absS_cons (by assumption) rfl (absS_cons (by assumption) rfl (rfl))), absE_cons rfl (by assumption) rfl (absE_cons rfl (by assumption) rfl (rfl))⟩
  · intro x; obtain ⟨y0, y1, y2⟩ := x; kernel_rfl
  · intro x z; obtain ⟨y0, y1, y2⟩ := x; exact (And.intro rfl trivial)

def kk0 (x0 : List (Int × Int × Int)) : Int × List (Int × Int × Int) × List (Int × Int × Int) :=
  ((0 : Int), x0, List.replicate (Int.toNat (↑(List.length x0) : Int)) ((0 : Int), (0 : Int), (0 : Int)))

def klm (x0 : List (Int × Int × Int)) : List (Int × (Int × Int)) :=
  Prod.snd (Prod.snd (Prod.snd (Lp.res k2v (kk0 x0))))

def klj (x0 : List (Int × Int × Int)) : Bool :=
  allT
  [leI (0 : Int) (↑(List.length x0) : Int), leI (↑(List.length x0) : Int) (↑(List.length x0) : Int),
    leI ((↑(24 : Nat) : Int) * (↑(List.length x0) : Int)) (281474976710656 : Int), leI (↑(List.length x0) : Int) (9223372036854775807 : Int),
    Lp.fin k2v (kk0 x0)]

def kun : List SV → List Entry → Option Out
  | [.one ⟨false, [.ref 0]⟩], [.row false 194 (.pair (.int .i64) (.pair (.int .i64) (.int .i64))) x0] => some ⟨(.one ⟨false, [(.ref 1)]⟩), [(.row false 194 (CTy.pair (CTy.int IntKind.i64) (CTy.pair (CTy.int IntKind.i64) (CTy.int IntKind.i64))) x0)], [(.row true 172 (CTy.pair (CTy.int IntKind.i64) (CTy.pair (CTy.int IntKind.i64) (CTy.int IntKind.i64))) (klm x0))], [(klj x0)]⟩
  | _, _ => none

def k10c : PF Tryz.prog := PF.ofG Tryz.prog [kvh] [k2v.F] hmix 102 Tryz.f102 Tryz.func102 (LOk.fnT (l := [loopAt Tryz.f102 0]) (by kernel_rfl) (.cons kw4 (.nil _))) kun (by
  intro vs es r h; unfold kun at h; split at h
  · cases h; kernel_rfl
  · cases h)

abbrev k56 := Int × List (Int × (Int × Int)) × List (Int × (Int × Int))

def k9w (y0 : Int) (y1 : List (Int × (Int × Int))) : Int × Int × Int :=
  Option.getD y1[Int.toNat y0]? ((0 : Int), (0 : Int), (0 : Int))

def k9u (y0 : Int) (y2 : List (Int × (Int × Int))) : Int × Int × Int :=
  Option.getD y2[Int.toNat y0]? ((0 : Int), (0 : Int), (0 : Int))

def kcj (y0 : Int) (y1 : List (Int × (Int × Int))) : Bool :=
  ltI y0 (↑(List.length y1) : Int)

def kcl (y0 : Int) : Bool :=
  leI (0 : Int) y0

def kfe (y0 : Int) (y1 : List (Int × (Int × Int))) : Bool :=
  ltN (Int.toNat y0) (List.length y1)

def kf4 (y0 : Int) (y2 : List (Int × (Int × Int))) : Bool :=
  ltI y0 (↑(List.length y2) : Int)

def kf9 (y0 : Int) (y2 : List (Int × (Int × Int))) : Bool :=
  ltN (Int.toNat y0) (List.length y2)

def kf7 (y0 : Int) (y1 : List (Int × (Int × Int))) (y2 : List (Int × (Int × Int))) : Bool :=
  !kjb (Prod.fst (k9w y0 y1)) (Prod.fst (Prod.snd (k9w y0 y1)))
    (Prod.snd (Prod.snd (k9w y0 y1))) (Prod.fst (k9u y0 y2))
    (Prod.fst (Prod.snd (k9u y0 y2))) (Prod.snd (Prod.snd (k9u y0 y2)))

def kfb (y0 : Int) : Int :=
  IntKind.wrap IntKind.i64 (y0 + (1 : Int))

def kwx : k56 → List (Nat × SV)
  | (y0, _, _) => [(5, (.one ⟨false, [(.val (.int IntKind.i64 y0))]⟩)), (0, (.one ⟨false, [(.ref 0)]⟩)), (1, (.one ⟨false, [(.ref 1)]⟩))]

def kx3 : k56 → List (Nat × Entry)
  | (_, y1, y2) => [(0, (.row false 172 (CTy.pair (CTy.int IntKind.i64) (CTy.pair (CTy.int IntKind.i64) (CTy.int IntKind.i64))) y1)), (1, (.row false 172 (CTy.pair (CTy.int IntKind.i64) (CTy.pair (CTy.int IntKind.i64) (CTy.int IntKind.i64))) y2))]

def kx0 : Nat → k56 → List (Nat × SV)
  | 0, (_, _, _) => [(4, (.one ⟨false, [(.val (.bool false))]⟩))]
  | _, (_, _, _) => []

def kxq : Nat → k56 → List (Nat × Entry)
  | 0, (_, y1, y2) => [(0, (.row false 172 (CTy.pair (CTy.int IntKind.i64) (CTy.pair (CTy.int IntKind.i64) (CTy.int IntKind.i64))) y1)), (1, (.row false 172 (CTy.pair (CTy.int IntKind.i64) (CTy.pair (CTy.int IntKind.i64) (CTy.int IntKind.i64))) y2))]
  | _, (_, y1, y2) => [(0, (.row false 172 (CTy.pair (CTy.int IntKind.i64) (CTy.pair (CTy.int IntKind.i64) (CTy.int IntKind.i64))) y1)), (1, (.row false 172 (CTy.pair (CTy.int IntKind.i64) (CTy.pair (CTy.int IntKind.i64) (CTy.int IntKind.i64))) y2))]

def keu : k56 → LT k56
  | (y0, y1, y2) => .ite (kcj y0 y1) (.need [(kcl y0), (kcj y0 y1), (kfe y0 y1), (kcl y0), (kf4 y0 y2), (kf9 y0 y2)] (.ite (kf7 y0 y1 y2) (.ext 0 [(0, 0), (1, 1)]) (.nrm ((kfb y0), y1, y2) [(0, 0), (1, 1)]))) (.ext 1 [(0, 0), (1, 1)])

def kly (s : St) : Option k56 :=
  (match s.look 5 with
  | some ⟨none, (.one ⟨false, [(.val (.int IntKind.i64 y0))]⟩)⟩ =>
  (match s.look 0 with
  | some ⟨none, (.one ⟨false, [(.ref 0)]⟩)⟩ =>
  (match s.look 1 with
  | some ⟨none, (.one ⟨false, [(.ref 1)]⟩)⟩ =>
  (match s.ent 0 with
  | some (.row false 172 (CTy.pair (CTy.int IntKind.i64) (CTy.pair (CTy.int IntKind.i64) (CTy.int IntKind.i64))) y1) =>
  (match s.ent 1 with
  | some (.row false 172 (CTy.pair (CTy.int IntKind.i64) (CTy.pair (CTy.int IntKind.i64) (CTy.int IntKind.i64))) y2) =>
  some (y0, y1, y2)
  | _ => none)
  | _ => none)
  | _ => none)
  | _ => none)
  | _ => none)

def k2h : Lp k56 where
  h := ⟨[11, 12, 13, 14, 17, 18, 19, 20, 21, 22, 23, 24, 25, 26, 4, 15, 16, 5], [0, 1], [], []⟩
  JL := kwx
  JE := kx3
  XL := kx0
  XE := kxq
  q := fun j => match j with | 0 => .ret | _ => .exit 0
  tags := [0, 1]
  lt := keu
  fuel := fun (y0, y1, y2) => y0.natAbs + y1.length + y2.length
  fix := fun (_, y1, y2) (y0, _, _) => (y0, y1, y2)
  σ := [(0, 0), (1, 1)]
  rd := kly

theorem kvw : LoopOk Tryz.prog (fun k => Nat.blt k Tryz.f103.ntmps) k2h.F (loopAt Tryz.f103 0) := by
  refine Lp.ok (tbl := [kve]) (lf := []) hmix k2h (by kernel_rfl) (LOk.nil _) (fun _ => rfl) (fun j _ => by unfold k2h; match j with | 0 => rfl | _ + 1 => rfl) ?_ ?_ ?_ ?_ (fun _ => rfl) ?_
  · intro x; obtain ⟨y0, y1, y2⟩ := x; kernel_rfl
  · intro x; obtain ⟨y0, y1, y2⟩ := x; kernel_rfl
  · intro s x h
    have h : kly s = some x := h
    unfold kly at h
    repeat' split at h
    all_goals cases h
    exact ⟨absS_cons (by assumption) rfl (absS_cons (by assumption) rfl (absS_cons (by assumption) rfl (rfl))), absE_cons rfl (by assumption) rfl (absE_cons rfl (by assumption) rfl (rfl))⟩
  · intro x; obtain ⟨y0, y1, y2⟩ := x; kernel_rfl
  · intro x z; obtain ⟨y0, y1, y2⟩ := x; exact (And.intro (And.intro trivial rfl) trivial)

def kjz (x0 : List (Int × Int × Int)) (x1 : List (Int × Int × Int)) : Bool :=
  (↑(List.length x0) : Int) != (↑(List.length x1) : Int)

def kjy (x0 : List (Int × Int × Int)) (x1 : List (Int × Int × Int)) : Int × List (Int × Int × Int) × List (Int × Int × Int) :=
  ((0 : Int), x0, x1)

def klv (x0 : List (Int × Int × Int)) (x1 : List (Int × Int × Int)) : Bool :=
  bif kjz x0 x1 then false
  else bif Nat.beq (Prod.fst (Lp.res k2h (kjy x0 x1))) (0 : Nat) then false else true

def klk (x0 : List (Int × Int × Int)) (x1 : List (Int × Int × Int)) : Bool :=
  allT [kjz x0 x1 || Lp.fin k2h (kjy x0 x1)]

def kut : List SV → List Entry → Option Out
  | [.one ⟨false, [.ref 0]⟩, .one ⟨false, [.ref 1]⟩], [.row false 172 (.pair (.int .i64) (.pair (.int .i64) (.int .i64))) x0, .row false 172 (.pair (.int .i64) (.pair (.int .i64) (.int .i64))) x1] => some ⟨(.one ⟨false, [(.val (.bool (klv x0 x1)))]⟩), [(.row false 172 (CTy.pair (CTy.int IntKind.i64) (CTy.pair (CTy.int IntKind.i64) (CTy.int IntKind.i64))) x0), (.row false 172 (CTy.pair (CTy.int IntKind.i64) (CTy.pair (CTy.int IntKind.i64) (CTy.int IntKind.i64))) x1)], [], [(klk x0 x1)]⟩
  | _, _ => none

def k10w : PF Tryz.prog := PF.ofG Tryz.prog [kve] [k2h.F] hmix 103 Tryz.f103 Tryz.func103 (LOk.fnT (l := [loopAt Tryz.f103 0]) (by kernel_rfl) (.cons kvw (.nil _))) kut (by
  intro vs es r h; unfold kut at h; split at h
  · cases h; kernel_rfl
  · cases h)

abbrev k3u := Int × Int × List (Int × (Int × Int))

def kad (y0 : Int) (y2 : List (Int × (Int × Int))) : Int × Int :=
  Prod.snd (Option.getD y2[Int.toNat y0]? ((0 : Int), (0 : Int), (0 : Int)))

def k66 (y0 : Int) (y1 : Int) (y2 : List (Int × (Int × Int))) : List (Int × Int × Int) :=
  List.set y2 (Int.toNat y0) (y1, Prod.fst (kad y0 y2), Prod.snd (kad y0 y2))

def kaf (y0 : Int) (y1 : Int) (y2 : List (Int × (Int × Int))) : Int × Int × Int :=
  Option.getD (k66 y0 y1 y2)[Int.toNat y0]? ((0 : Int), (0 : Int), (0 : Int))

def kah (y1 : Int) : Int :=
  IntKind.wrap IntKind.i64 (y1 + (1 : Int))

def k69 (y0 : Int) (y1 : Int) (y2 : List (Int × (Int × Int))) : List (Int × Int × Int) :=
  List.set (k66 y0 y1 y2) (Int.toNat y0)
  (Prod.fst (kaf y0 y1 y2), kah y1, Prod.snd (Prod.snd (kaf y0 y1 y2)))

def kao (y1 : Int) : Int :=
  IntKind.wrap IntKind.i64 (kah y1 + (1 : Int))

def kag (y0 : Int) (y1 : Int) (y2 : List (Int × (Int × Int))) : Int × Int × Int :=
  Option.getD (k69 y0 y1 y2)[Int.toNat y0]? ((0 : Int), (0 : Int), (0 : Int))

def kb8 (y0 : Int) (y2 : List (Int × (Int × Int))) : Bool :=
  ltI y0 (↑(List.length y2) : Int)

def k8q (y0 : Int) : Bool :=
  leI (0 : Int) y0

def kdj (y0 : Int) (y2 : List (Int × (Int × Int))) : Bool :=
  ltN (Int.toNat y0) (List.length y2)

def kdm (y0 : Int) (y1 : Int) (y2 : List (Int × (Int × Int))) : Bool :=
  ltI y0 (↑(List.length (k66 y0 y1 y2)) : Int)

def kdw (y0 : Int) (y1 : Int) (y2 : List (Int × (Int × Int))) : Bool :=
  ltN (Int.toNat y0) (List.length (k66 y0 y1 y2))

def kdt (y0 : Int) (y1 : Int) (y2 : List (Int × (Int × Int))) : Bool :=
  ltI y0 (↑(List.length (k69 y0 y1 y2)) : Int)

def kdp (y0 : Int) (y1 : Int) (y2 : List (Int × (Int × Int))) : Bool :=
  ltN (Int.toNat y0) (List.length (k69 y0 y1 y2))

def kdv (y0 : Int) : Int :=
  IntKind.wrap IntKind.i64 (y0 + (1 : Int))

def kdr (y1 : Int) : Int :=
  IntKind.wrap IntKind.i64 (kao y1 + (1 : Int))

def kdn (y0 : Int) (y1 : Int) (y2 : List (Int × (Int × Int))) : List (Int × (Int × Int)) :=
  List.set (k69 y0 y1 y2) (Int.toNat y0)
  (Prod.fst (kag y0 y1 y2), Prod.fst (Prod.snd (kag y0 y1 y2)), kao y1)

def kw5 : k3u → List (Nat × SV)
  | (y0, y1, _) => [(5, (.one ⟨false, [(.val (.int IntKind.i64 y0))]⟩)), (0, (.one ⟨false, [(.ref 0)]⟩)), (1, (.one ⟨false, [(.val (.int IntKind.i64 y1))]⟩))]

def kvs : k3u → List (Nat × Entry)
  | (_, _, y2) => [(0, (.row true 172 (CTy.pair (CTy.int IntKind.i64) (CTy.pair (CTy.int IntKind.i64) (CTy.int IntKind.i64))) y2))]

def kvz : Nat → k3u → List (Nat × SV)
  | _, (_, y1, _) => [(1, (.one ⟨false, [(.val (.int IntKind.i64 y1))]⟩))]

def kvy : Nat → k3u → List (Nat × Entry)
  | _, (_, _, y2) => [(0, (.row true 172 (CTy.pair (CTy.int IntKind.i64) (CTy.pair (CTy.int IntKind.i64) (CTy.int IntKind.i64))) y2))]

def kd5 : k3u → LT k3u
  | (y0, y1, y2) => .ite (kb8 y0 y2) (.need [(k8q y0), (kb8 y0 y2), (kdj y0 y2)] (.need [(k8q y0), (kdm y0 y1 y2), (kdw y0 y1 y2)] (.need [(k8q y0), (kdt y0 y1 y2), (kdp y0 y1 y2)] (.nrm ((kdv y0), (kdr y1), (kdn y0 y1 y2)) [(0, 0)])))) (.ext 0 [(0, 0)])

def kjq (s : St) : Option k3u :=
  (match s.look 5 with
  | some ⟨none, (.one ⟨false, [(.val (.int IntKind.i64 y0))]⟩)⟩ =>
  (match s.look 0 with
  | some ⟨none, (.one ⟨false, [(.ref 0)]⟩)⟩ =>
  (match s.look 1 with
  | some ⟨none, (.one ⟨false, [(.val (.int IntKind.i64 y1))]⟩)⟩ =>
  (match s.ent 0 with
  | some (.row true 172 (CTy.pair (CTy.int IntKind.i64) (CTy.pair (CTy.int IntKind.i64) (CTy.int IntKind.i64))) y2) =>
  some (y0, y1, y2)
  | _ => none)
  | _ => none)
  | _ => none)
  | _ => none)

def k2e : Lp k3u where
  h := ⟨[6, 7, 8, 9, 12, 13, 14, 15, 16, 17, 18, 1, 19, 20, 21, 22, 23, 24, 25, 26, 27, 28, 29, 30, 31, 32, 10, 11, 5], [0], [], []⟩
  JL := kw5
  JE := kvs
  XL := kvz
  XE := kvy
  q := fun j => match j with | _ => .exit 0
  tags := [0]
  lt := kd5
  fuel := fun (y0, y1, y2) => y0.natAbs + y1.natAbs + y2.length
  fix := fun (_, _, _) (y0, y1, y2) => (y0, y1, y2)
  σ := [(0, 0)]
  rd := kjq

theorem kug : LoopOk Tryz.prog (fun k => Nat.blt k Tryz.f104.ntmps) k2e.F (loopAt Tryz.f104 0) := by
  refine Lp.ok (tbl := []) (lf := []) hmix k2e (by kernel_rfl) (LOk.nil _) (fun _ => rfl) (fun _ _ => rfl) ?_ ?_ ?_ ?_ (fun _ => rfl) ?_
  · intro x; obtain ⟨y0, y1, y2⟩ := x; kernel_rfl
  · intro x; obtain ⟨y0, y1, y2⟩ := x; kernel_rfl
  · intro s x h
    have h : kjq s = some x := h
    unfold kjq at h
    repeat' split at h
    all_goals cases h
    exact ⟨absS_cons (by assumption) rfl (absS_cons (by assumption) rfl (absS_cons (by assumption) rfl (rfl))), absE_cons rfl (by assumption) rfl (rfl)⟩
  · intro x; obtain ⟨y0, y1, y2⟩ := x; kernel_rfl
  · intro x z; obtain ⟨y0, y1, y2⟩ := x; exact (And.intro rfl trivial)

def kfc (x0 : Int) (x1 : List (Int × Int × Int)) : Int × Int × List (Int × Int × Int) :=
  ((0 : Int), x0, x1)

def kin (x0 : Int) (x1 : List (Int × Int × Int)) : Int × List (Int × Int × Int) :=
  Prod.snd (Prod.snd (Lp.res k2e (kfc x0 x1)))

def kns (x0 : Int) (x1 : List (Int × Int × Int)) : Int :=
  Prod.fst (kin x0 x1)

def koa (x0 : Int) (x1 : List (Int × Int × Int)) : List (Int × (Int × Int)) :=
  Prod.snd (kin x0 x1)

def knt (x0 : Int) (x1 : List (Int × Int × Int)) : Bool :=
  allT [Lp.fin k2e (kfc x0 x1)]

def kt3 : List SV → List Entry → Option Out
  | [.one ⟨false, [.ref 0]⟩, .one ⟨false, [.val (.int .i64 x0)]⟩], [.row true 172 (.pair (.int .i64) (.pair (.int .i64) (.int .i64))) x1] => some ⟨(.one ⟨false, [(.val (.int IntKind.i64 (kns x0 x1)))]⟩), [(.row true 172 (CTy.pair (CTy.int IntKind.i64) (CTy.pair (CTy.int IntKind.i64) (CTy.int IntKind.i64))) (koa x0 x1))], [], [(knt x0 x1)]⟩
  | _, _ => none

def kyi : PF Tryz.prog := PF.ofG Tryz.prog [] [k2e.F] hmix 104 Tryz.f104 Tryz.func104 (LOk.fnT (l := [loopAt Tryz.f104 0]) (by kernel_rfl) (.cons kug (.nil _))) kt3 (by
  intro vs es r h; unfold kt3 at h; split at h
  · cases h; kernel_rfl
  · cases h)

abbrev k3t := Int × Int × List (Int × (Int × Int))

def k7r (y0 : Int) (y2 : List (Int × (Int × Int))) : Int × Int × Int :=
  Option.getD y2[Int.toNat y0]? ((0 : Int), (0 : Int), (0 : Int))

def kai (y1 : Int) : Int :=
  IntKind.wrap IntKind.i64 (y1 + (1 : Int))

def kan (y1 : Int) : Int :=
  IntKind.wrap IntKind.i64 (kai y1 + (1 : Int))

def k6x (y0 : Int) (y2 : List (Int × (Int × Int))) : Bool :=
  ltI y0 (↑(List.length y2) : Int)

def k8m (y0 : Int) : Bool :=
  leI (0 : Int) y0

def k8j (y0 : Int) (y2 : List (Int × (Int × Int))) : Bool :=
  ltN (Int.toNat y0) (List.length y2)

def kdq (y0 : Int) (y1 : Int) (y2 : List (Int × (Int × Int))) : Bool :=
  Prod.fst (k7r y0 y2) != y1

def k3v  : Int :=
  (-1 : Int)

def kdx (y0 : Int) (y1 : Int) (y2 : List (Int × (Int × Int))) : Bool :=
  Prod.fst (Prod.snd (k7r y0 y2)) != kai y1

def ke0 (y0 : Int) (y1 : Int) (y2 : List (Int × (Int × Int))) : Bool :=
  Prod.snd (Prod.snd (k7r y0 y2)) != kan y1

def kdz (y0 : Int) : Int :=
  IntKind.wrap IntKind.i64 (y0 + (1 : Int))

def kdo (y1 : Int) : Int :=
  IntKind.wrap IntKind.i64 (kan y1 + (1 : Int))

def kvu : k3t → List (Nat × SV)
  | (y0, y1, _) => [(5, (.one ⟨false, [(.val (.int IntKind.i64 y0))]⟩)), (0, (.one ⟨false, [(.ref 0)]⟩)), (1, (.one ⟨false, [(.val (.int IntKind.i64 y1))]⟩))]

def kvr : k3t → List (Nat × Entry)
  | (_, _, y2) => [(0, (.row false 172 (CTy.pair (CTy.int IntKind.i64) (CTy.pair (CTy.int IntKind.i64) (CTy.int IntKind.i64))) y2))]

def kw0 : Nat → k3t → List (Nat × SV)
  | 0, (_, _, _) => [(4, (.one ⟨false, [(.val (.int IntKind.i64 (k3v)))]⟩))]
  | 1, (_, _, _) => [(4, (.one ⟨false, [(.val (.int IntKind.i64 (k3v)))]⟩))]
  | 2, (_, _, _) => [(4, (.one ⟨false, [(.val (.int IntKind.i64 (k3v)))]⟩))]
  | _, (_, y1, _) => [(1, (.one ⟨false, [(.val (.int IntKind.i64 y1))]⟩))]

def kw1 : Nat → k3t → List (Nat × Entry)
  | 0, (_, _, y2) => [(0, (.row false 172 (CTy.pair (CTy.int IntKind.i64) (CTy.pair (CTy.int IntKind.i64) (CTy.int IntKind.i64))) y2))]
  | 1, (_, _, y2) => [(0, (.row false 172 (CTy.pair (CTy.int IntKind.i64) (CTy.pair (CTy.int IntKind.i64) (CTy.int IntKind.i64))) y2))]
  | 2, (_, _, y2) => [(0, (.row false 172 (CTy.pair (CTy.int IntKind.i64) (CTy.pair (CTy.int IntKind.i64) (CTy.int IntKind.i64))) y2))]
  | _, (_, _, y2) => [(0, (.row false 172 (CTy.pair (CTy.int IntKind.i64) (CTy.pair (CTy.int IntKind.i64) (CTy.int IntKind.i64))) y2))]

def kd6 : k3t → LT k3t
  | (y0, y1, y2) => .ite (k6x y0 y2) (.need [(k8m y0), (k6x y0 y2), (k8j y0 y2)] (.ite (kdq y0 y1 y2) (.ext 0 [(0, 0)]) (.need [(k8m y0), (k6x y0 y2), (k8j y0 y2)] (.ite (kdx y0 y1 y2) (.ext 1 [(0, 0)]) (.need [(k8m y0), (k6x y0 y2), (k8j y0 y2)] (.ite (ke0 y0 y1 y2) (.ext 2 [(0, 0)]) (.nrm ((kdz y0), (kdo y1), y2) [(0, 0)]))))))) (.ext 3 [(0, 0)])

def kjv (s : St) : Option k3t :=
  (match s.look 5 with
  | some ⟨none, (.one ⟨false, [(.val (.int IntKind.i64 y0))]⟩)⟩ =>
  (match s.look 0 with
  | some ⟨none, (.one ⟨false, [(.ref 0)]⟩)⟩ =>
  (match s.look 1 with
  | some ⟨none, (.one ⟨false, [(.val (.int IntKind.i64 y1))]⟩)⟩ =>
  (match s.ent 0 with
  | some (.row false 172 (CTy.pair (CTy.int IntKind.i64) (CTy.pair (CTy.int IntKind.i64) (CTy.int IntKind.i64))) y2) =>
  some (y0, y1, y2)
  | _ => none)
  | _ => none)
  | _ => none)
  | _ => none)

def k1q : Lp k3t where
  h := ⟨[6, 7, 8, 9, 12, 13, 14, 15, 16, 17, 18, 4, 19, 20, 1, 21, 22, 23, 24, 25, 26, 27, 28, 29, 30, 31, 32, 33, 34, 35, 36, 37, 38, 10, 11, 5], [0], [], []⟩
  JL := kvu
  JE := kvr
  XL := kw0
  XE := kw1
  q := fun j => match j with | 0 => .ret | 1 => .ret | 2 => .ret | _ => .exit 0
  tags := [0, 1, 2, 3]
  lt := kd6
  fuel := fun (y0, y1, y2) => y0.natAbs + y1.natAbs + y2.length
  fix := fun (_, _, y2) (y0, y1, _) => (y0, y1, y2)
  σ := [(0, 0)]
  rd := kjv

theorem kui : LoopOk Tryz.prog (fun k => Nat.blt k Tryz.f105.ntmps) k1q.F (loopAt Tryz.f105 0) := by
  refine Lp.ok (tbl := []) (lf := []) hmix k1q (by kernel_rfl) (LOk.nil _) (fun _ => rfl) (fun j _ => by unfold k1q; match j with | 0 => rfl | 1 => rfl | 2 => rfl | _ + 3 => rfl) ?_ ?_ ?_ ?_ (fun _ => rfl) ?_
  · intro x; obtain ⟨y0, y1, y2⟩ := x; kernel_rfl
  · intro x; obtain ⟨y0, y1, y2⟩ := x; kernel_rfl
  · intro s x h
    have h : kjv s = some x := h
    unfold kjv at h
    repeat' split at h
    all_goals cases h
    exact ⟨absS_cons (by assumption) rfl (absS_cons (by assumption) rfl (absS_cons (by assumption) rfl (rfl))), absE_cons rfl (by assumption) rfl (rfl)⟩
  · intro x; obtain ⟨y0, y1, y2⟩ := x; kernel_rfl
  · intro x z; obtain ⟨y0, y1, y2⟩ := x; exact (And.intro (And.intro trivial (And.intro trivial (And.intro trivial rfl))) trivial)

def kaw (x0 : Int) (x1 : List (Int × Int × Int)) : Int × Int × List (Int × Int × Int) :=
  ((0 : Int), x0, x1)

def kj3 (x0 : Int) (x1 : List (Int × Int × Int)) : Int :=
  bif Nat.beq (Prod.fst (Lp.res k1q (kaw x0 x1))) (0 : Nat) then k3v
  else
  bif Nat.beq (Prod.fst (Lp.res k1q (kaw x0 x1))) (1 : Nat) then k3v
  else
    bif Nat.beq (Prod.fst (Lp.res k1q (kaw x0 x1))) (2 : Nat) then k3v
    else Prod.fst (Prod.snd (Prod.snd (Lp.res k1q (kaw x0 x1))))

def koe (x0 : Int) (x1 : List (Int × Int × Int)) : Bool :=
  allT [Lp.fin k1q (kaw x0 x1)]

def kt0 : List SV → List Entry → Option Out
  | [.one ⟨false, [.ref 0]⟩, .one ⟨false, [.val (.int .i64 x0)]⟩], [.row false 172 (.pair (.int .i64) (.pair (.int .i64) (.int .i64))) x1] => some ⟨(.one ⟨false, [(.val (.int IntKind.i64 (kj3 x0 x1)))]⟩), [(.row false 172 (CTy.pair (CTy.int IntKind.i64) (CTy.pair (CTy.int IntKind.i64) (CTy.int IntKind.i64))) x1)], [], [(koe x0 x1)]⟩
  | _, _ => none

def kyz : PF Tryz.prog := PF.ofG Tryz.prog [] [k1q.F] hmix 105 Tryz.f105 Tryz.func105 (LOk.fnT (l := [loopAt Tryz.f105 0]) (by kernel_rfl) (.cons kui (.nil _))) kt0 (by
  intro vs es r h; unfold kt0 at h; split at h
  · cases h; kernel_rfl
  · cases h)

end Go.SX

namespace Go.SX
open Go.Proofs
set_option maxRecDepth 100000

/-- A block's state. -/
abbrev BS := Int × Int × Int

def nextB (k n : Int) (l : List Int) (s : BS) : BS := (k7f k n s.1 s.2.1 s.2.2 l, k7m k s.2.1 s.2.2 l, k7d k n s.1 s.2.2 l)
def valB (k n : Int) (l : List Int) (s : BS) : Int := k51 k n s.1 s.2.1 s.2.2 l

theorem k188 {k n a b c : Int} {s : ByteArray} {l : List Int} (hB : blockB k s n = true) (hP : possB k n a b c = true) (hA : bitsB (takesK k) l = true) :
    (kn7 k n a b c l, kn5 k b c l, kn4 k n a b c l) = nextB k n l (a, b, c) ∧ possB k n (nextB k n l (a, b, c)).1 (nextB k n l (a, b, c)).2.1 (nextB k n l (a, b, c)).2.2 = true := by
  obtain ⟨_, e1, e2, e3, _, _, e6⟩ := k171 hB hP hA
  exact ⟨by rw [e1, e2, e3]; rfl, e6⟩

end Go.SX

namespace Go.SX
open Go.Proofs
set_option maxRecDepth 100000

/-- A loop of few rounds, by what stays true. -/
theorem Lp.inv {X : Type} (p : Lp X) (I : Nat → X → Prop) (Q : Nat → X → Prop)
    (hs : ∀ k x, I (k + 1) x → (∃ j, (p.lt x).out = some (.inl j) ∧ Q j x) ∨ ∃ y, (p.lt x).out = some (.inr y) ∧ I k y)
    (he : ∀ x, I 0 x → ∃ j, (p.lt x).out = some (.inl j) ∧ Q j x) (N : Nat) (x : X) (hN : N ≤ 999) (h : I N x) :
    p.fin x = true ∧ ∃ j y, p.res x = (j, y) ∧ Q j y := by
  have key : ∀ (k : Nat) (x : X), I k x → ∃ j y, runL p.lt (k + 1) x = some (j, y) ∧ Q j y := by
    intro k
    induction k with
    | zero =>
      intro x h
      obtain ⟨j, h1, h2⟩ := he x h
      exact ⟨j, x, runL_end _ h1, h2⟩
    | succ k ih =>
      intro x h
      rcases hs k x h with ⟨j, h1, h2⟩ | ⟨y, h1, h2⟩
      · exact ⟨j, x, runL_end _ h1, h2⟩
      · obtain ⟨j, z, h3, h4⟩ := ih y h2
        exact ⟨j, z, by rw [runL_next _ h1]; exact h3, h4⟩
  obtain ⟨j, y, h1, h2⟩ := key N x h
  obtain ⟨r1, r2⟩ := p.run h1 (le_big (by omega))
  exact ⟨r1, j, y, r2, h2⟩

abbrev TM := Int × ByteArray × Int

theorem k185 {a b : ByteArray} : a.toList = b.toList ↔ a = b := by
  constructor
  · intro h
    rw [Go.Lib.toList_data, Go.Lib.toList_data] at h
    exact ByteArray.ext (Array.toList_inj.1 h)
  · intro h; rw [h]

theorem k17j (N : Nat) (hN : N ≤ 20) (k : Int) (h0 : 0 ≤ k) (hm : k ≤ 9223372036854775807) (hk : k < 10 ^ N) (s : ByteArray) (hs : s.size = 0) :
    k7g.fin (k, s) = true ∧ ∃ j r, k7g.res (k, s) = (j, r) ∧ r.2.size ≤ 20 := by
  refine k7g.inv (fun m x => (0 ≤ x.1 ∧ x.1 < 10 ^ m) ∧ (m ≤ N ∧ x.1 ≤ 9223372036854775807) ∧ x.2.size ≤ N - m) (fun _ r => r.2.size ≤ 20) (fun m x hx => ?_) (fun x hx => ?_) N _ (by omega) ⟨⟨h0, hk⟩, ⟨Nat.le_refl _, hm⟩, by simp only; omega⟩
  · obtain ⟨y0, y1⟩ := x
    obtain ⟨⟨h1, h2⟩, ⟨hm, hm2⟩, hl⟩ := hx
    simp only at h1 h2 hl hm2
    by_cases hz : 0 < y0
    · refine .inr ⟨(Int.tdiv y0 10, kcd y0 ++ y1), ?_, ⟨?_, ?_⟩, ⟨by omega, ?_⟩, ?_⟩
      · have t1 : ltI 0 y0 = true := ltI_t hz
        have hsz : (kcd y0).size = 1 := by simp [kcd, strOfNums_size]
        have t2 : leN ((kcd y0).size + y1.size) 9223372036854775807 = true := leN_t (by omega)
        have hw : IntKind.i64.wrap (Int.tdiv y0 10) = Int.tdiv y0 10 := by
          rw [Int.tdiv_eq_ediv_of_nonneg h1]; exact wrap_i64 (by omega) (by omega)
        simp only [k7g, knl, LT.out, kof, ks1, kwe, kwp, kwi, t1, t2, hw, allT, cond_true]
        rfl
      · simp only; rw [Int.tdiv_eq_ediv_of_nonneg h1]; omega
      · simp only; rw [Int.tdiv_eq_ediv_of_nonneg h1]
        rw [Int.pow_succ] at h2; omega
      · simp only; rw [Int.tdiv_eq_ediv_of_nonneg h1]; omega
      · have hsz : (kcd y0).size = 1 := by simp [kcd, strOfNums_size]
        simp only [ByteArray.size_append, hsz]; omega
    · refine .inl ⟨0, ?_, by simp only; omega⟩
      simp [k7g, knl, LT.out, kof, show ltI 0 y0 = false from ltI_f (by omega)]
  · obtain ⟨y0, y1⟩ := x
    obtain ⟨⟨h1, h2⟩, ⟨hm, hm2⟩, hl⟩ := hx
    simp only at h1 h2 hl hm2
    have : y0 = 0 := by simp at h2; omega
    subst this
    exact ⟨0, by simp [k7g, knl, LT.out, kof], by simp only; omega⟩

theorem k183 (k : Int) (h : (leI 0 k && leI k 9223372036854775807) = true) : kpe k = true := by
  simp only [Bool.and_eq_true, leI_iff] at h
  obtain ⟨w1, j, r, w2, w3⟩ := k17j 20 (by omega) k h.1 h.2 (by omega) ⟨#[]⟩ rfl
  simp only [kpe, kuw, w1, w2, allT, Bool.or_true, cond_true, Bool.or_eq_true]
  have : leN (ByteArray.size ⟨#[109]⟩ + r.2.size) 9223372036854775807 = true := leN_t (by have : (ByteArray.size ⟨#[109]⟩) = 1 := rfl; omega)
  simp [this]

def totT : List TM → Nat
  | [] => 0
  | t :: r => t.2.1.size + totT r

def eqTs (xs ys : List (Int × ByteArray × Int)) : Bool := decide (xs = ys)
theorem k148 (xs : List (Int × ByteArray × Int)) : eqTs xs xs = true := by simp [eqTs]

def kgv (y1 : List (Int × (ByteArray × Int))) (b : Nat) : (List (Int × (ByteArray × Int))) → Nat ⊕ (List (Int × (ByteArray × Int)))
  | y2 => (.inr ((List.set y2 (b) (Prod.fst ((Option.getD y1[b]? ((0 : Int), ByteArray.empty, (0 : Int)))), Prod.fst (Prod.snd ((Option.getD y1[b]? ((0 : Int), ByteArray.empty, (0 : Int))))), Prod.snd (Prod.snd ((Option.getD y1[b]? ((0 : Int), ByteArray.empty, (0 : Int)))))))))

def kdk (y1 : List (Int × (ByteArray × Int))) (i : Nat) : (List (Int × (ByteArray × Int))) → kbs
  | y2 => ((i : Int), y1, y2)

def kri : kbs → List (Int × (ByteArray × Int))
  | (_, _, y2) => y2

theorem k13t (y1 : List (Int × (ByteArray × Int))) (y2 : List (Int × (ByteArray × Int))) (hn : y1.length ≤ 9223372036854775807) (hl : y2.length = y1.length) :
    k6e.fin ((0 : Int), y1, y2) = true ∧ k6e.res ((0 : Int), y1, y2) = ((walkL (kgv y1) 0 (List.range y1.length) 0 y2).1, (kdk y1) (walkL (kgv y1) 0 (List.range y1.length) 0 y2).2.1 (walkL (kgv y1) 0 (List.range y1.length) 0 y2).2.2) := by
  have key := k6e.along (kdk y1) kri (kgv y1) 0 (fun _ a => a.length = y1.length) (List.range y1.length) y2 hl (by simp only [k6e, kdk, List.length_range]; omega) (fun i b a hb hI => ?_) (fun a hI => ?_)
  · exact key
  · obtain y2 := a
    obtain ⟨rfl, hlt⟩ := range_get hb
    have hw : IntKind.i64.wrap ((b : Int) + 1) = ((b + 1 : Nat) : Int) := by rw [wrap_i64 (by omega) (by omega)]; omega
    have hdec : ltI (b : Int) (y1.length : Int) = true := ltI_t (by omega)
    have hnn : leI (0 : Int) (b : Int) = true := leI_t (by omega)
    have hltd : ltN b y1.length = true := ltN_t (by omega)
    refine ⟨?_, ?_, ?_, ?_⟩
    · simp [kfl, kit, kiz, kmz, kmd, km0, kmk, kmh, kke, k6e, LT.nds, allT, kdk, hdec, hnn, hltd, hI]
    · simp [kfl, kit, kiz, kmz, kmd, km0, kmk, kmh, kke, k6e, LT.each, kdk, kri, hw, hI]
    · simp only [kfl, kit, kiz, kmz, kmd, km0, kmk, kmh, kke, k6e, LT.fn, kdk, kri, kgv, Int.toNat_natCast, hdec, cond_true]
    · intro a' hf; simp only [kgv, Sum.inr.injEq] at hf; subst hf; simpa using hI
  · obtain y2 := a
    simp [kfl, kit, kiz, kmz, kmd, km0, kmk, kmh, kke, k6e, LT.out, kdk, List.length_range]

def kix (y1 : List (Int × (ByteArray × Int))) (y2 : List (Int × (ByteArray × Int))) (b : Nat) : (Unit) → Nat ⊕ (Unit)
  | _ => (bif ((!kt4 (Prod.fst ((Option.getD y1[b]? ((0 : Int), ByteArray.empty, (0 : Int))))) (Prod.fst (Prod.snd ((Option.getD y1[b]? ((0 : Int), ByteArray.empty, (0 : Int)))))) (Prod.snd (Prod.snd ((Option.getD y1[b]? ((0 : Int), ByteArray.empty, (0 : Int)))))) (Prod.fst ((Option.getD y2[b]? ((0 : Int), ByteArray.empty, (0 : Int))))) (Prod.fst (Prod.snd ((Option.getD y2[b]? ((0 : Int), ByteArray.empty, (0 : Int)))))) (Prod.snd (Prod.snd ((Option.getD y2[b]? ((0 : Int), ByteArray.empty, (0 : Int)))))))) then (.inl 0) else (.inr ()))

def kfj (y1 : List (Int × (ByteArray × Int))) (y2 : List (Int × (ByteArray × Int))) (i : Nat) : (Unit) → kbr
  | _ => ((i : Int), y1, y2)

def krr : kbr → Unit
  | (_, _, _) => ()

theorem k145 (y1 : List (Int × (ByteArray × Int))) (y2 : List (Int × (ByteArray × Int)))  (hn : y1.length ≤ 9223372036854775807) (he : y2.length = y1.length) :
    k4w.fin ((0 : Int), y1, y2) = true ∧ k4w.res ((0 : Int), y1, y2) = ((walkL (kix y1 y2) 1 (List.range y1.length) 0 ()).1, (kfj y1 y2) (walkL (kix y1 y2) 1 (List.range y1.length) 0 ()).2.1 (walkL (kix y1 y2) 1 (List.range y1.length) 0 ()).2.2) := by
  have key := k4w.along (kfj y1 y2) krr (kix y1 y2) 1 (fun _ _ => True) (List.range y1.length) () (by trivial) (by simp only [k4w, kfj, List.length_range]; omega) (fun i b a hb hI => ?_) (fun a hI => ?_)
  · exact key
  · obtain ⟨⟩ := a
    obtain ⟨rfl, hlt⟩ := range_get hb
    have hw : IntKind.i64.wrap ((b : Int) + 1) = ((b + 1 : Nat) : Int) := by rw [wrap_i64 (by omega) (by omega)]; omega
    have hdec : ltI (b : Int) (y1.length : Int) = true := ltI_t (by omega)
    have hnn : leI (0 : Int) (b : Int) = true := leI_t (by omega)
    have hltd : ltN b y1.length = true := ltN_t (by omega)
    refine ⟨?_, ?_, ?_, ?_⟩
    · simp [kft, kfo, kis, kiu, kn2, kme, km2, km6, klz, kko, k4w, LT.nds, allT, kfj, hdec, hnn, hltd, he]
    · simp [kft, kfo, kis, kiu, kn2, kme, km2, km6, klz, kko, k4w, LT.each, kfj, krr, hw, he]
    · simp only [kft, kfo, kis, kiu, kn2, kme, km2, km6, klz, kko, k4w, LT.fn, kfj, krr, kix, Int.toNat_natCast, hdec, cond_true]
    · exact fun _ _ => trivial
  · obtain ⟨⟩ := a
    simp [kft, kfo, kis, kiu, kn2, kme, km2, km6, klz, kko, k4w, LT.out, kfj, List.length_range]

theorem k173 (xs : List (Int × ByteArray × Int)) (hn : leN xs.length 1048576 = true) : kts xs = xs ∧ ktv xs = true := by
  have hn := leN_iff.1 hn
  have hr : (List.replicate (Int.toNat (xs.length : Int)) ((0 : Int), (⟨#[]⟩ : ByteArray), (0 : Int))).length = xs.length := by simp
  obtain ⟨w1, w2⟩ := k13t xs (List.replicate (Int.toNat (xs.length : Int)) ((0 : Int), (⟨#[]⟩ : ByteArray), (0 : Int))) (by omega) hr
  have hc := walk_copy (xs := xs) (d := ((0 : Int), (⟨#[]⟩ : ByteArray), (0 : Int))) (g := fun x => x) (f := kgv xs) (e := 0) (fun b a => rfl) hr
  rw [hc] at w2
  refine ⟨?_, ?_⟩
  · simp only [kst, kts, ktv, w2, kdk]; simp
  · simp only [kst, kts, ktv, w1, allT]; simp; omega

def k12b : List SV → List Entry → Option Out
  | [.one ⟨false, [.ref 0]⟩], [.row false 175 (.pair (.int .i64) (.pair (.str) (.int .i64))) x0] => some ⟨(.one ⟨false, [(.ref 1)]⟩), [(.row false 175 (CTy.pair (CTy.int IntKind.i64) (CTy.pair CTy.str (CTy.int IntKind.i64))) x0)], [(.row true 178 (CTy.pair (CTy.int IntKind.i64) (CTy.pair CTy.str (CTy.int IntKind.i64))) (x0))], [leN x0.length 1048576]⟩
  | _, _ => none

def kx6 : PF Tryz.prog := PF.alt k15i k12b (by
  intro args es o h hnd; unfold k12b at h; split at h
  · rename_i x0
    cases h
    have hnd := nd_fst hnd
    have hh := k173 x0 hnd
    obtain ⟨e0, en⟩ := hh
    exact altok rfl (nd_one en) rfl rfl (by simp only [e0] <;> rfl)
  · cases h)

theorem k177 (xs ys : List (Int × ByteArray × Int)) (hn : leN xs.length 9223372036854775807 = true) : ktw xs ys = eqTs xs ys ∧ ktr xs ys = true := by
  have hn := leN_iff.1 hn
  unfold eqTs
  have h3 : ∀ a b : Int × ByteArray × Int, (!kt4 a.1 a.2.1 a.2.2 b.1 b.2.1 b.2.2) = !decide (a = b) := fun a b => by
    obtain ⟨a1, a2, a3⟩ := a; obtain ⟨b1, b2, b3⟩ := b
    simp only [kt4, Prod.mk.injEq]
    by_cases h1 : a1 = b1 <;> by_cases h2 : a2 = b2 <;> by_cases h3 : a3 = b3 <;> simp [h1, h2, h3, k185]
  by_cases hl : ys.length = xs.length
  · obtain ⟨w1, w2⟩ := k145 xs ys hn hl
    have ha := any_ne (d := ((0 : Int), ByteArray.empty, (0 : Int))) hl (P := fun b => !decide (Option.getD xs[b]? ((0 : Int), ByteArray.empty, (0 : Int)) = Option.getD ys[b]? ((0 : Int), ByteArray.empty, (0 : Int)))) (fun b => rfl)
    rw [walk_stop (P := fun b => !decide (Option.getD xs[b]? ((0 : Int), ByteArray.empty, (0 : Int)) = Option.getD ys[b]? ((0 : Int), ByteArray.empty, (0 : Int)))) (j := 0) (fun b => by simp only [kix, h3]), ha] at w2
    simp only [ksp, ksu, ktw, ktr, w1, w2, allT]
    by_cases he : xs = ys
    · subst he; simp; decide
    · simp [he, hl]
  · have hne : xs ≠ ys := fun h => hl (by rw [h])
    simp [ksp, ksu, ktw, ktr, allT, hne]
    omega

def k11i : List SV → List Entry → Option Out
  | [.one ⟨false, [.ref 0]⟩, .one ⟨false, [.ref 1]⟩], [.row false 178 (.pair (.int .i64) (.pair (.str) (.int .i64))) x0, .row false 178 (.pair (.int .i64) (.pair (.str) (.int .i64))) x1] => some ⟨(.one ⟨false, [(.val (.bool (eqTs x0 x1)))]⟩), [(.row false 178 (CTy.pair (CTy.int IntKind.i64) (CTy.pair CTy.str (CTy.int IntKind.i64))) x0), (.row false 178 (CTy.pair (CTy.int IntKind.i64) (CTy.pair CTy.str (CTy.int IntKind.i64))) x1)], [], [leN x0.length 9223372036854775807]⟩
  | _, _ => none

def kwz : PF Tryz.prog := PF.alt k15j k11i (by
  intro args es o h hnd; unfold k11i at h; split at h
  · rename_i x0 x1
    cases h
    have hnd := nd_fst hnd
    have hh := k177 x0 x1 hnd
    obtain ⟨e0, en⟩ := hh
    exact altok rfl (nd_one en) (by simp only [e0] <;> rfl) rfl rfl
  · cases h)

def eqIs (xs ys : List (Int × Int)) : Bool := decide (xs = ys)
theorem k16k (xs : List (Int × Int)) : eqIs xs xs = true := by simp [eqIs]

def k9s (y1 : List (Int × Int)) (b : Nat) : (List (Int × Int)) → Nat ⊕ (List (Int × Int))
  | y2 => (.inr ((List.set y2 (b) (Prod.fst ((Option.getD y1[b]? ((0 : Int), (0 : Int)))), Prod.snd ((Option.getD y1[b]? ((0 : Int), (0 : Int))))))))

def k6y (y1 : List (Int × Int)) (i : Nat) : (List (Int × Int)) → k4i
  | y2 => ((i : Int), y1, y2)

def kky : k4i → List (Int × Int)
  | (_, _, y2) => y2

theorem kx4 (y1 : List (Int × Int)) (y2 : List (Int × Int)) (hn : y1.length ≤ 9223372036854775807) (hl : y2.length = y1.length) :
    k2n.fin ((0 : Int), y1, y2) = true ∧ k2n.res ((0 : Int), y1, y2) = ((walkL (k9s y1) 0 (List.range y1.length) 0 y2).1, (k6y y1) (walkL (k9s y1) 0 (List.range y1.length) 0 y2).2.1 (walkL (k9s y1) 0 (List.range y1.length) 0 y2).2.2) := by
  have key := k2n.along (k6y y1) kky (k9s y1) 0 (fun _ a => a.length = y1.length) (List.range y1.length) y2 hl (by simp only [k2n, k6y, List.length_range]; omega) (fun i b a hb hI => ?_) (fun a hI => ?_)
  · exact key
  · obtain y2 := a
    obtain ⟨rfl, hlt⟩ := range_get hb
    have hw : IntKind.i64.wrap ((b : Int) + 1) = ((b + 1 : Nat) : Int) := by rw [wrap_i64 (by omega) (by omega)]; omega
    have hdec : ltI (b : Int) (y1.length : Int) = true := ltI_t (by omega)
    have hnn : leI (0 : Int) (b : Int) = true := leI_t (by omega)
    have hltd : ltN b y1.length = true := ltN_t (by omega)
    refine ⟨?_, ?_, ?_, ?_⟩
    · simp [kb6, kc0, kbw, ke9, kee, kem, ket, kef, kdl, k2n, LT.nds, allT, k6y, hdec, hnn, hltd, hI]
    · simp [kb6, kc0, kbw, ke9, kee, kem, ket, kef, kdl, k2n, LT.each, k6y, kky, hw, hI]
    · simp only [kb6, kc0, kbw, ke9, kee, kem, ket, kef, kdl, k2n, LT.fn, k6y, kky, k9s, Int.toNat_natCast, hdec, cond_true]
    · intro a' hf; simp only [k9s, Sum.inr.injEq] at hf; subst hf; simpa using hI
  · obtain y2 := a
    simp [kb6, kc0, kbw, ke9, kee, kem, ket, kef, kdl, k2n, LT.out, k6y, List.length_range]

def kc2 (y1 : List (Int × Int)) (y2 : List (Int × Int)) (b : Nat) : (Unit) → Nat ⊕ (Unit)
  | _ => (bif ((!kig (Prod.fst ((Option.getD y1[b]? ((0 : Int), (0 : Int))))) (Prod.snd ((Option.getD y1[b]? ((0 : Int), (0 : Int))))) (Prod.fst ((Option.getD y2[b]? ((0 : Int), (0 : Int))))) (Prod.snd ((Option.getD y2[b]? ((0 : Int), (0 : Int))))))) then (.inl 0) else (.inr ()))

def k8s (y1 : List (Int × Int)) (y2 : List (Int × Int)) (i : Nat) : (Unit) → k4j
  | _ => ((i : Int), y1, y2)

def kkz : k4j → Unit
  | (_, _, _) => ()

theorem kxk (y1 : List (Int × Int)) (y2 : List (Int × Int))  (hn : y1.length ≤ 9223372036854775807) (he : y2.length = y1.length) :
    k2b.fin ((0 : Int), y1, y2) = true ∧ k2b.res ((0 : Int), y1, y2) = ((walkL (kc2 y1 y2) 1 (List.range y1.length) 0 ()).1, (k8s y1 y2) (walkL (kc2 y1 y2) 1 (List.range y1.length) 0 ()).2.1 (walkL (kc2 y1 y2) 1 (List.range y1.length) 0 ()).2.2) := by
  have key := k2b.along (k8s y1 y2) kkz (kc2 y1 y2) 1 (fun _ _ => True) (List.range y1.length) () (by trivial) (by simp only [k2b, k8s, List.length_range]; omega) (fun i b a hb hI => ?_) (fun a hI => ?_)
  · exact key
  · obtain ⟨⟩ := a
    obtain ⟨rfl, hlt⟩ := range_get hb
    have hw : IntKind.i64.wrap ((b : Int) + 1) = ((b + 1 : Nat) : Int) := by rw [wrap_i64 (by omega) (by omega)]; omega
    have hdec : ltI (b : Int) (y1.length : Int) = true := ltI_t (by omega)
    have hnn : leI (0 : Int) (b : Int) = true := leI_t (by omega)
    have hltd : ltN b y1.length = true := ltN_t (by omega)
    refine ⟨?_, ?_, ?_, ?_⟩
    · simp [kb9, kba, kbv, kc1, kea, ke7, ke6, keq, keg, kdy, k2b, LT.nds, allT, k8s, hdec, hnn, hltd, he]
    · simp [kb9, kba, kbv, kc1, kea, ke7, ke6, keq, keg, kdy, k2b, LT.each, k8s, kkz, hw, he]
    · simp only [kb9, kba, kbv, kc1, kea, ke7, ke6, keq, keg, kdy, k2b, LT.fn, k8s, kkz, kc2, Int.toNat_natCast, hdec, cond_true]
    · exact fun _ _ => trivial
  · obtain ⟨⟩ := a
    simp [kb9, kba, kbv, kc1, kea, ke7, ke6, keq, keg, kdy, k2b, LT.out, k8s, List.length_range]

theorem k13w (xs : List (Int × Int)) (hn : leN xs.length 1048576 = true) : kjx xs = xs ∧ kjw xs = true := by
  have hn := leN_iff.1 hn
  have hr : (List.replicate (Int.toNat (xs.length : Int)) ((0 : Int), (0 : Int))).length = xs.length := by simp
  obtain ⟨w1, w2⟩ := kx4 xs (List.replicate (Int.toNat (xs.length : Int)) ((0 : Int), (0 : Int))) (by omega) hr
  have hc := walk_copy (xs := xs) (d := ((0 : Int), (0 : Int))) (g := fun x => x) (f := k9s xs) (e := 0) (fun b a => rfl) hr
  rw [hc] at w2
  refine ⟨?_, ?_⟩
  · simp only [kjg, kjx, kjw, w2, k6y]; simp
  · simp only [kjg, kjx, kjw, w1, allT]; simp; omega

def kto : List SV → List Entry → Option Out
  | [.one ⟨false, [.ref 0]⟩], [.row false 183 (.pair (.int .i64) (.int .i64)) x0] => some ⟨(.one ⟨false, [(.ref 1)]⟩), [(.row false 183 (CTy.pair (CTy.int IntKind.i64) (CTy.int IntKind.i64)) x0)], [(.row true 150 (CTy.pair (CTy.int IntKind.i64) (CTy.int IntKind.i64)) (x0))], [leN x0.length 1048576]⟩
  | _, _ => none

def kou : PF Tryz.prog := PF.alt kzs kto (by
  intro args es o h hnd; unfold kto at h; split at h
  · rename_i x0
    cases h
    have hnd := nd_fst hnd
    have hh := k13w x0 hnd
    obtain ⟨e0, en⟩ := hh
    exact altok rfl (nd_one en) rfl rfl (by simp only [e0] <;> rfl)
  · cases h)

theorem k146 (xs ys : List (Int × Int)) (hn : leN xs.length 9223372036854775807 = true) : kk1 xs ys = eqIs xs ys ∧ kk2 xs ys = true := by
  have hn := leN_iff.1 hn
  unfold eqIs
  have h3 : ∀ a b : Int × Int, (!kig a.1 a.2 b.1 b.2) = !decide (a = b) := fun a b => by
    obtain ⟨a1, a2⟩ := a; obtain ⟨b1, b2⟩ := b
    simp only [kig, Prod.mk.injEq]
    by_cases h1 : a1 = b1 <;> by_cases h2 : a2 = b2 <;> simp [h1, h2]
  by_cases hl : ys.length = xs.length
  · obtain ⟨w1, w2⟩ := kxk xs ys hn hl
    have ha := any_ne (d := ((0 : Int), (0 : Int))) hl (P := fun b => !decide (Option.getD xs[b]? ((0 : Int), (0 : Int)) = Option.getD ys[b]? ((0 : Int), (0 : Int)))) (fun b => rfl)
    rw [walk_stop (P := fun b => !decide (Option.getD xs[b]? ((0 : Int), (0 : Int)) = Option.getD ys[b]? ((0 : Int), (0 : Int)))) (j := 0) (fun b => by simp only [kc2, h3]), ha] at w2
    simp only [kjh, kjc, kk1, kk2, w1, w2, allT]
    by_cases he : xs = ys
    · subst he; simp; decide
    · simp [he, hl]
  · have hne : xs ≠ ys := fun h => hl (by rw [h])
    simp [kjh, kjc, kk1, kk2, allT, hne]
    omega

def ktl : List SV → List Entry → Option Out
  | [.one ⟨false, [.ref 0]⟩, .one ⟨false, [.ref 1]⟩], [.row false 150 (.pair (.int .i64) (.int .i64)) x0, .row false 150 (.pair (.int .i64) (.int .i64)) x1] => some ⟨(.one ⟨false, [(.val (.bool (eqIs x0 x1)))]⟩), [(.row false 150 (CTy.pair (CTy.int IntKind.i64) (CTy.int IntKind.i64)) x0), (.row false 150 (CTy.pair (CTy.int IntKind.i64) (CTy.int IntKind.i64)) x1)], [], [leN x0.length 9223372036854775807]⟩
  | _, _ => none

def kox : PF Tryz.prog := PF.alt kzf ktl (by
  intro args es o h hnd; unfold ktl at h; split at h
  · rename_i x0 x1
    cases h
    have hnd := nd_fst hnd
    have hh := k146 x0 x1 hnd
    obtain ⟨e0, en⟩ := hh
    exact altok rfl (nd_one en) (by simp only [e0] <;> rfl) rfl rfl
  · cases h)

def eqBs (xs ys : List (Int × Int × Int)) : Bool := decide (xs = ys)
theorem k17l (xs : List (Int × Int × Int)) : eqBs xs xs = true := by simp [eqBs]

def kax (y1 : List (Int × (Int × Int))) (b : Nat) : (List (Int × (Int × Int))) → Nat ⊕ (List (Int × (Int × Int)))
  | y2 => (.inr ((List.set y2 (b) (Prod.fst ((Option.getD y1[b]? ((0 : Int), (0 : Int), (0 : Int)))), Prod.fst (Prod.snd ((Option.getD y1[b]? ((0 : Int), (0 : Int), (0 : Int))))), Prod.snd (Prod.snd ((Option.getD y1[b]? ((0 : Int), (0 : Int), (0 : Int)))))))))

def k7h (y1 : List (Int × (Int × Int))) (i : Nat) : (List (Int × (Int × Int))) → k58
  | y2 => ((i : Int), y1, y2)

def klu : k58 → List (Int × (Int × Int))
  | (_, _, y2) => y2

theorem ky9 (y1 : List (Int × (Int × Int))) (y2 : List (Int × (Int × Int))) (hn : y1.length ≤ 9223372036854775807) (hl : y2.length = y1.length) :
    k2v.fin ((0 : Int), y1, y2) = true ∧ k2v.res ((0 : Int), y1, y2) = ((walkL (kax y1) 0 (List.range y1.length) 0 y2).1, (k7h y1) (walkL (kax y1) 0 (List.range y1.length) 0 y2).2.1 (walkL (kax y1) 0 (List.range y1.length) 0 y2).2.2) := by
  have key := k2v.along (k7h y1) klu (kax y1) 0 (fun _ a => a.length = y1.length) (List.range y1.length) y2 hl (by simp only [k2v, k7h, List.length_range]; omega) (fun i b a hb hI => ?_) (fun a hI => ?_)
  · exact key
  · obtain y2 := a
    obtain ⟨rfl, hlt⟩ := range_get hb
    have hw : IntKind.i64.wrap ((b : Int) + 1) = ((b + 1 : Nat) : Int) := by rw [wrap_i64 (by omega) (by omega)]; omega
    have hdec : ltI (b : Int) (y1.length : Int) = true := ltI_t (by omega)
    have hnn : leI (0 : Int) (b : Int) = true := leI_t (by omega)
    have hltd : ltN b y1.length = true := ltN_t (by omega)
    refine ⟨?_, ?_, ?_, ?_⟩
    · simp [k9v, kck, kcm, kf8, kfa, kf6, kf5, kfd, keh, k2v, LT.nds, allT, k7h, hdec, hnn, hltd, hI]
    · simp [k9v, kck, kcm, kf8, kfa, kf6, kf5, kfd, keh, k2v, LT.each, k7h, klu, hw, hI]
    · simp only [k9v, kck, kcm, kf8, kfa, kf6, kf5, kfd, keh, k2v, LT.fn, k7h, klu, kax, Int.toNat_natCast, hdec, cond_true]
    · intro a' hf; simp only [kax, Sum.inr.injEq] at hf; subst hf; simpa using hI
  · obtain y2 := a
    simp [k9v, kck, kcm, kf8, kfa, kf6, kf5, kfd, keh, k2v, LT.out, k7h, List.length_range]

def kcn (y1 : List (Int × (Int × Int))) (y2 : List (Int × (Int × Int))) (b : Nat) : (Unit) → Nat ⊕ (Unit)
  | _ => (bif ((!kjb (Prod.fst ((Option.getD y1[b]? ((0 : Int), (0 : Int), (0 : Int))))) (Prod.fst (Prod.snd ((Option.getD y1[b]? ((0 : Int), (0 : Int), (0 : Int)))))) (Prod.snd (Prod.snd ((Option.getD y1[b]? ((0 : Int), (0 : Int), (0 : Int)))))) (Prod.fst ((Option.getD y2[b]? ((0 : Int), (0 : Int), (0 : Int))))) (Prod.fst (Prod.snd ((Option.getD y2[b]? ((0 : Int), (0 : Int), (0 : Int)))))) (Prod.snd (Prod.snd ((Option.getD y2[b]? ((0 : Int), (0 : Int), (0 : Int)))))))) then (.inl 0) else (.inr ()))

def k9t (y1 : List (Int × (Int × Int))) (y2 : List (Int × (Int × Int))) (i : Nat) : (Unit) → k56
  | _ => ((i : Int), y1, y2)

def klw : k56 → Unit
  | (_, _, _) => ()

theorem kya (y1 : List (Int × (Int × Int))) (y2 : List (Int × (Int × Int)))  (hn : y1.length ≤ 9223372036854775807) (he : y2.length = y1.length) :
    k2h.fin ((0 : Int), y1, y2) = true ∧ k2h.res ((0 : Int), y1, y2) = ((walkL (kcn y1 y2) 1 (List.range y1.length) 0 ()).1, (k9t y1 y2) (walkL (kcn y1 y2) 1 (List.range y1.length) 0 ()).2.1 (walkL (kcn y1 y2) 1 (List.range y1.length) 0 ()).2.2) := by
  have key := k2h.along (k9t y1 y2) klw (kcn y1 y2) 1 (fun _ _ => True) (List.range y1.length) () (by trivial) (by simp only [k2h, k9t, List.length_range]; omega) (fun i b a hb hI => ?_) (fun a hI => ?_)
  · exact key
  · obtain ⟨⟩ := a
    obtain ⟨rfl, hlt⟩ := range_get hb
    have hw : IntKind.i64.wrap ((b : Int) + 1) = ((b + 1 : Nat) : Int) := by rw [wrap_i64 (by omega) (by omega)]; omega
    have hdec : ltI (b : Int) (y1.length : Int) = true := ltI_t (by omega)
    have hnn : leI (0 : Int) (b : Int) = true := leI_t (by omega)
    have hltd : ltN b y1.length = true := ltN_t (by omega)
    refine ⟨?_, ?_, ?_, ?_⟩
    · simp [k9w, k9u, kcj, kcl, kfe, kf4, kf9, kf7, kfb, keu, k2h, LT.nds, allT, k9t, hdec, hnn, hltd, he]
    · simp [k9w, k9u, kcj, kcl, kfe, kf4, kf9, kf7, kfb, keu, k2h, LT.each, k9t, klw, hw, he]
    · simp only [k9w, k9u, kcj, kcl, kfe, kf4, kf9, kf7, kfb, keu, k2h, LT.fn, k9t, klw, kcn, Int.toNat_natCast, hdec, cond_true]
    · exact fun _ _ => trivial
  · obtain ⟨⟩ := a
    simp [k9w, k9u, kcj, kcl, kfe, kf4, kf9, kf7, kfb, keu, k2h, LT.out, k9t, List.length_range]

theorem k14b (xs : List (Int × Int × Int)) (hn : leN xs.length 1048576 = true) : klm xs = xs ∧ klj xs = true := by
  have hn := leN_iff.1 hn
  have hr : (List.replicate (Int.toNat (xs.length : Int)) ((0 : Int), (0 : Int), (0 : Int))).length = xs.length := by simp
  obtain ⟨w1, w2⟩ := ky9 xs (List.replicate (Int.toNat (xs.length : Int)) ((0 : Int), (0 : Int), (0 : Int))) (by omega) hr
  have hc := walk_copy (xs := xs) (d := ((0 : Int), (0 : Int), (0 : Int))) (g := fun x => x) (f := kax xs) (e := 0) (fun b a => rfl) hr
  rw [hc] at w2
  refine ⟨?_, ?_⟩
  · simp only [kk0, klm, klj, w2, k7h]; simp
  · simp only [kk0, klm, klj, w1, allT]; simp; omega

def kud : List SV → List Entry → Option Out
  | [.one ⟨false, [.ref 0]⟩], [.row false 194 (.pair (.int .i64) (.pair (.int .i64) (.int .i64))) x0] => some ⟨(.one ⟨false, [(.ref 1)]⟩), [(.row false 194 (CTy.pair (CTy.int IntKind.i64) (CTy.pair (CTy.int IntKind.i64) (CTy.int IntKind.i64))) x0)], [(.row true 172 (CTy.pair (CTy.int IntKind.i64) (CTy.pair (CTy.int IntKind.i64) (CTy.int IntKind.i64))) (x0))], [leN x0.length 1048576]⟩
  | _, _ => none

def kpu : PF Tryz.prog := PF.alt k10c kud (by
  intro args es o h hnd; unfold kud at h; split at h
  · rename_i x0
    cases h
    have hnd := nd_fst hnd
    have hh := k14b x0 hnd
    obtain ⟨e0, en⟩ := hh
    exact altok rfl (nd_one en) rfl rfl (by simp only [e0] <;> rfl)
  · cases h)

theorem k14t (xs ys : List (Int × Int × Int)) (hn : leN xs.length 9223372036854775807 = true) : klv xs ys = eqBs xs ys ∧ klk xs ys = true := by
  have hn := leN_iff.1 hn
  unfold eqBs
  have h3 : ∀ a b : Int × Int × Int, (!kjb a.1 a.2.1 a.2.2 b.1 b.2.1 b.2.2) = !decide (a = b) := fun a b => by
    obtain ⟨a1, a2, a3⟩ := a; obtain ⟨b1, b2, b3⟩ := b
    simp only [kjb, Prod.mk.injEq]
    by_cases h1 : a1 = b1 <;> by_cases h2 : a2 = b2 <;> by_cases h3 : a3 = b3 <;> simp [h1, h2, h3]
  by_cases hl : ys.length = xs.length
  · obtain ⟨w1, w2⟩ := kya xs ys hn hl
    have ha := any_ne (d := ((0 : Int), (0 : Int), (0 : Int))) hl (P := fun b => !decide (Option.getD xs[b]? ((0 : Int), (0 : Int), (0 : Int)) = Option.getD ys[b]? ((0 : Int), (0 : Int), (0 : Int)))) (fun b => rfl)
    rw [walk_stop (P := fun b => !decide (Option.getD xs[b]? ((0 : Int), (0 : Int), (0 : Int)) = Option.getD ys[b]? ((0 : Int), (0 : Int), (0 : Int)))) (j := 0) (fun b => by simp only [kcn, h3]), ha] at w2
    simp only [kjz, kjy, klv, klk, w1, w2, allT]
    by_cases he : xs = ys
    · subst he; simp; decide
    · simp [he, hl]
  · have hne : xs ≠ ys := fun h => hl (by rw [h])
    simp [kjz, kjy, klv, klk, allT, hne]
    omega

def kua : List SV → List Entry → Option Out
  | [.one ⟨false, [.ref 0]⟩, .one ⟨false, [.ref 1]⟩], [.row false 172 (.pair (.int .i64) (.pair (.int .i64) (.int .i64))) x0, .row false 172 (.pair (.int .i64) (.pair (.int .i64) (.int .i64))) x1] => some ⟨(.one ⟨false, [(.val (.bool (eqBs x0 x1)))]⟩), [(.row false 172 (CTy.pair (CTy.int IntKind.i64) (CTy.pair (CTy.int IntKind.i64) (CTy.int IntKind.i64))) x0), (.row false 172 (CTy.pair (CTy.int IntKind.i64) (CTy.pair (CTy.int IntKind.i64) (CTy.int IntKind.i64))) x1)], [], [leN x0.length 9223372036854775807]⟩
  | _, _ => none

def kq6 : PF Tryz.prog := PF.alt k10w kua (by
  intro args es o h hnd; unfold kua at h; split at h
  · rename_i x0 x1
    cases h
    have hnd := nd_fst hnd
    have hh := k14t x0 x1 hnd
    obtain ⟨e0, en⟩ := hh
    exact altok rfl (nd_one en) (by simp only [e0] <;> rfl) rfl rfl
  · cases h)

def upG {α : Type} (d : Nat) (mk : Int → α) (k : Int) (n : Nat) : List α := (List.range n).map fun (i : Nat) => mk (k + d * (i : Int))

theorem k15z {α : Type} (d : Nat) (mk : Int → α) (k : Int) (n : Nat) : (upG d mk k n).length = n := by simp [upG]

theorem k176 {α : Type} (d : Nat) (mk : Int → α) (k : Int) (n : Nat) : upG d mk k (n + 1) = mk k :: upG d mk (k + d) n := by
  unfold upG
  rw [List.range_succ_eq_map, List.map_cons, List.map_map]
  congr 1
  · simp
  · refine List.map_congr_left fun i _ => ?_
    simp only [Function.comp]
    congr 1
    simp [Int.mul_add]; omega

theorem k11t {α : Type} {d : Nat} {mk : Int → α} {f : Nat → Int × List α → Nat ⊕ (Int × List α)} {e : Nat}
    (hf : ∀ (b : Nat) (k : Int) (xs : List α), b < xs.length → 0 ≤ k → k + d ≤ 9223372036854775807 → f b (k, xs) = .inr (k + d, xs.set b (mk k))) :
    ∀ (ys pre : List α) (k : Int), 0 ≤ k → k + d * (ys.length : Int) ≤ 9223372036854775807 →
      walkL f e (List.range' pre.length ys.length) pre.length (k, pre ++ ys) = (e, pre.length + ys.length, (k + d * (ys.length : Int), pre ++ upG d mk k ys.length))
  | [], pre, k, _, _ => by simp [walkL, upG]
  | y :: ys, pre, k, h0, h1 => by
    have hd : (d : Int) * (((y :: ys).length : Nat) : Int) = d + d * (ys.length : Int) := by simp [Int.mul_add]; omega
    rw [hd] at h1
    have hp : 0 ≤ (d : Int) * (ys.length : Int) := Int.mul_nonneg (by omega) (by omega)
    have hs : (pre ++ y :: ys).set pre.length (mk k) = (pre ++ [mk k]) ++ ys := by rw [List.set_append_right _ _ (Nat.le_refl _)]; simp
    have ih := k11t (e := e) hf ys (pre ++ [mk k]) (k + d) (by omega) (by omega)
    rw [List.length_cons, List.range'_succ]
    simp only [walkL, hf pre.length k (pre ++ y :: ys) (by simp) h0 (by omega), hs]
    rw [List.length_append, List.length_singleton] at ih
    rw [ih, k176]
    simp [Int.mul_add]
    omega

theorem k164 {α : Type} {d : Nat} {mk : Int → α} {f : α → Int → Nat ⊕ Int} {e : Nat} (hf : ∀ (k : Int), 0 ≤ k → k + d ≤ 9223372036854775807 → f (mk k) k = .inr (k + d)) :
    ∀ (n : Nat) (k : Int) (i : Nat), 0 ≤ k → k + d * (n : Int) ≤ 9223372036854775807 → walkL f e (upG d mk k n) i k = (e, i + n, k + d * (n : Int))
  | 0, k, i, _, _ => by simp [walkL, upG]
  | n + 1, k, i, h0, h1 => by
    have hd : (d : Int) * ((n + 1 : Nat) : Int) = d + d * (n : Int) := by simp [Int.mul_add]; omega
    rw [hd] at h1
    have hp : 0 ≤ (d : Int) * (n : Int) := Int.mul_nonneg (by omega) (by omega)
    rw [k176]
    simp only [walkL, hf k h0 (by omega)]
    rw [k164 hf n (k + d) (i + 1) (by omega) (by omega), hd]
    simp only [Prod.mk.injEq, true_and]
    omega

def mkOk3 (d : Nat) (k : Int) (n : Nat) : Bool := leI 0 k && leI (k + d * (n : Int)) 9223372036854775807
theorem kxg {d : Nat} {k : Int} {n : Nat} : mkOk3 d k n = true ↔ 0 ≤ k ∧ k + d * (n : Int) ≤ 9223372036854775807 := by simp [mkOk3]

def k6z  (b : Nat) : (Int × List (Int × (Int × Int))) → Nat ⊕ (Int × List (Int × (Int × Int)))
  | (y1, y2) => (.inr (((IntKind.wrap IntKind.i64 ((IntKind.wrap IntKind.i64 ((IntKind.wrap IntKind.i64 (y1 + (1 : Int))) + (1 : Int))) + (1 : Int)))), ((List.set ((List.set ((List.set y2 (b) (y1, Prod.fst ((Prod.snd (Option.getD y2[b]? ((0 : Int), (0 : Int), (0 : Int))))), Prod.snd ((Prod.snd (Option.getD y2[b]? ((0 : Int), (0 : Int), (0 : Int)))))))) (b) (Prod.fst ((Option.getD ((List.set y2 (b) (y1, Prod.fst ((Prod.snd (Option.getD y2[b]? ((0 : Int), (0 : Int), (0 : Int))))), Prod.snd ((Prod.snd (Option.getD y2[b]? ((0 : Int), (0 : Int), (0 : Int))))))))[b]? ((0 : Int), (0 : Int), (0 : Int)))), (IntKind.wrap IntKind.i64 (y1 + (1 : Int))), Prod.snd (Prod.snd ((Option.getD ((List.set y2 (b) (y1, Prod.fst ((Prod.snd (Option.getD y2[b]? ((0 : Int), (0 : Int), (0 : Int))))), Prod.snd ((Prod.snd (Option.getD y2[b]? ((0 : Int), (0 : Int), (0 : Int))))))))[b]? ((0 : Int), (0 : Int), (0 : Int)))))))) (b) (Prod.fst ((Option.getD ((List.set ((List.set y2 (b) (y1, Prod.fst ((Prod.snd (Option.getD y2[b]? ((0 : Int), (0 : Int), (0 : Int))))), Prod.snd ((Prod.snd (Option.getD y2[b]? ((0 : Int), (0 : Int), (0 : Int)))))))) (b) (Prod.fst ((Option.getD ((List.set y2 (b) (y1, Prod.fst ((Prod.snd (Option.getD y2[b]? ((0 : Int), (0 : Int), (0 : Int))))), Prod.snd ((Prod.snd (Option.getD y2[b]? ((0 : Int), (0 : Int), (0 : Int))))))))[b]? ((0 : Int), (0 : Int), (0 : Int)))), (IntKind.wrap IntKind.i64 (y1 + (1 : Int))), Prod.snd (Prod.snd ((Option.getD ((List.set y2 (b) (y1, Prod.fst ((Prod.snd (Option.getD y2[b]? ((0 : Int), (0 : Int), (0 : Int))))), Prod.snd ((Prod.snd (Option.getD y2[b]? ((0 : Int), (0 : Int), (0 : Int))))))))[b]? ((0 : Int), (0 : Int), (0 : Int))))))))[b]? ((0 : Int), (0 : Int), (0 : Int)))), Prod.fst (Prod.snd ((Option.getD ((List.set ((List.set y2 (b) (y1, Prod.fst ((Prod.snd (Option.getD y2[b]? ((0 : Int), (0 : Int), (0 : Int))))), Prod.snd ((Prod.snd (Option.getD y2[b]? ((0 : Int), (0 : Int), (0 : Int)))))))) (b) (Prod.fst ((Option.getD ((List.set y2 (b) (y1, Prod.fst ((Prod.snd (Option.getD y2[b]? ((0 : Int), (0 : Int), (0 : Int))))), Prod.snd ((Prod.snd (Option.getD y2[b]? ((0 : Int), (0 : Int), (0 : Int))))))))[b]? ((0 : Int), (0 : Int), (0 : Int)))), (IntKind.wrap IntKind.i64 (y1 + (1 : Int))), Prod.snd (Prod.snd ((Option.getD ((List.set y2 (b) (y1, Prod.fst ((Prod.snd (Option.getD y2[b]? ((0 : Int), (0 : Int), (0 : Int))))), Prod.snd ((Prod.snd (Option.getD y2[b]? ((0 : Int), (0 : Int), (0 : Int))))))))[b]? ((0 : Int), (0 : Int), (0 : Int))))))))[b]? ((0 : Int), (0 : Int), (0 : Int))))), (IntKind.wrap IntKind.i64 ((IntKind.wrap IntKind.i64 (y1 + (1 : Int))) + (1 : Int))))))))

def k4h  (i : Nat) : (Int × List (Int × (Int × Int))) → k3u
  | (y1, y2) => ((i : Int), y1, y2)

def kjt : k3u → Int × List (Int × (Int × Int))
  | (_, y1, y2) => (y1, y2)

theorem kwk  (y1 : Int) (y2 : List (Int × (Int × Int))) (n : Nat) (hl : y2.length = n) (hn : n ≤ 9223372036854775807)  :
    k2e.fin ((0 : Int), y1, y2) = true ∧ k2e.res ((0 : Int), y1, y2) = ((walkL (k6z) 0 (List.range n) 0 (y1, y2)).1, (k4h) (walkL (k6z) 0 (List.range n) 0 (y1, y2)).2.1 (walkL (k6z) 0 (List.range n) 0 (y1, y2)).2.2) := by
  have key := k2e.along (k4h) kjt (k6z) 0 (fun _ a => a.2.length = n) (List.range n) (y1, y2) hl (by simp only [k2e, k4h, List.length_range]; omega) (fun i b a hb hI => ?_) (fun a hI => ?_)
  · exact key
  · obtain ⟨y1, y2⟩ := a
    obtain ⟨rfl, hlt⟩ := range_get hb
    have hI0 : y2.length = n := hI
    have hw : IntKind.i64.wrap ((b : Int) + 1) = ((b + 1 : Nat) : Int) := by rw [wrap_i64 (by omega) (by omega)]; omega
    have hdec : ltI (b : Int) (y2.length : Int) = true := ltI_t (by omega)
    have hnn : leI (0 : Int) (b : Int) = true := leI_t (by omega)
    have hltd : ltN b y2.length = true := ltN_t (by omega)
    refine ⟨?_, ?_, ?_, ?_⟩
    · simp [kad, k66, kaf, kah, k69, kao, kag, kb8, k8q, kdj, kdm, kdw, kdt, kdp, kdv, kdr, kdn, kd5, k2e, LT.nds, allT, k4h, hdec, hnn, hltd]
    · simp [kad, k66, kaf, kah, k69, kao, kag, kb8, k8q, kdj, kdm, kdw, kdt, kdp, kdv, kdr, kdn, kd5, k2e, LT.each, k4h, kjt, hw]
    · simp only [kad, k66, kaf, kah, k69, kao, kag, kb8, k8q, kdj, kdm, kdw, kdt, kdp, kdv, kdr, kdn, kd5, k2e, LT.fn, k4h, kjt, k6z, Int.toNat_natCast, hdec, hnn, hltd, cond_true, Bool.cond_self]
    · intro a' hf; simp only [k6z, Sum.inr.injEq] at hf; subst hf; simp [hI0]
  · obtain ⟨y1, y2⟩ := a
    have hI0 : y2.length = n := hI
    simp [kad, k66, kaf, kah, k69, kao, kag, kb8, k8q, kdj, kdm, kdw, kdt, kdp, kdv, kdr, kdn, kd5, k2e, LT.out, k4h, hI0, List.length_range]

def k8l  (b : Int × (Int × Int)) : (Int) → Nat ⊕ (Int)
  | y1 => (bif ((Prod.fst ((b)) != y1)) then (.inl 0) else (bif ((Prod.fst (Prod.snd ((b))) != (IntKind.wrap IntKind.i64 (y1 + (1 : Int))))) then (.inl 1) else (bif ((Prod.snd (Prod.snd ((b))) != (IntKind.wrap IntKind.i64 ((IntKind.wrap IntKind.i64 (y1 + (1 : Int))) + (1 : Int))))) then (.inl 2) else (.inr ((IntKind.wrap IntKind.i64 ((IntKind.wrap IntKind.i64 ((IntKind.wrap IntKind.i64 (y1 + (1 : Int))) + (1 : Int))) + (1 : Int))))))))

def k64 (y2 : List (Int × (Int × Int))) (i : Nat) : (Int) → k3t
  | y1 => ((i : Int), y1, y2)

def kjp : k3t → Int
  | (_, y1, _) => y1

theorem kqe (y2 : List (Int × (Int × Int))) (y1 : Int) (hn : y2.length ≤ 9223372036854775807)  :
    k1q.fin ((0 : Int), y1, y2) = true ∧ k1q.res ((0 : Int), y1, y2) = ((walkL (k8l) 3 y2 0 y1).1, (k64 y2) (walkL (k8l) 3 y2 0 y1).2.1 (walkL (k8l) 3 y2 0 y1).2.2) := by
  have key := k1q.along (k64 y2) kjp (k8l) 3 (fun _ _ => True) y2 y1 (by trivial) (by simp only [k1q, k64]; omega) (fun i b a hb hI => ?_) (fun a hI => ?_)
  · exact key
  · obtain y1 := a
    have hlt := (List.getElem?_eq_some_iff.1 hb).1
    have hget : ∀ d, Option.getD y2[i]? d = b := fun d => by rw [hb]; rfl
    have hw := wrap64 hlt hn
    have hdec : ltI (i : Int) (y2.length : Int) = true := ltI_t (by omega)
    have hnn : leI (0 : Int) (i : Int) = true := leI_t (by omega)
    have hltd : ltN i y2.length = true := ltN_t hlt
    refine ⟨?_, ?_, ?_, ?_⟩
    · simp [k7r, kai, kan, k6x, k8m, k8j, kdq, k3v, kdx, ke0, kdz, kdo, kd6, k1q, LT.nds, allT, k64, hdec, hnn, hltd, hget]
    · simp [k7r, kai, kan, k6x, k8m, k8j, kdq, k3v, kdx, ke0, kdz, kdo, kd6, k1q, LT.each, k64, kjp, hw]
    · simp only [k7r, kai, kan, k6x, k8m, k8j, kdq, k3v, kdx, ke0, kdz, kdo, kd6, k1q, LT.fn, k64, kjp, k8l, Int.toNat_natCast, hdec, hnn, hltd, hget, cond_true, Bool.cond_self]
    · exact fun _ _ => trivial
  · obtain y1 := a
    simp [k7r, kai, kan, k6x, k8m, k8j, kdq, k3v, kdx, ke0, kdz, kdo, kd6, k1q, LT.out, k64]

def k62  (b : Nat) : (Int × List (Int × Int)) → Nat ⊕ (Int × List (Int × Int))
  | (y1, y2) => (.inr (((IntKind.wrap IntKind.i64 ((IntKind.wrap IntKind.i64 (y1 + (1 : Int))) + (1 : Int)))), ((List.set ((List.set y2 (b) (y1, Prod.snd (Option.getD y2[b]? ((0 : Int), (0 : Int)))))) (b) (Prod.fst (Option.getD ((List.set y2 (b) (y1, Prod.snd (Option.getD y2[b]? ((0 : Int), (0 : Int))))))[b]? ((0 : Int), (0 : Int))), (IntKind.wrap IntKind.i64 (y1 + (1 : Int))))))))

def k5d  (i : Nat) : (Int × List (Int × Int)) → k3f
  | (y1, y2) => ((i : Int), y1, y2)

def kiq : k3f → Int × List (Int × Int)
  | (_, y1, y2) => (y1, y2)

theorem kvv  (y1 : Int) (y2 : List (Int × Int)) (n : Nat) (hl : y2.length = n) (hn : n ≤ 9223372036854775807)  :
    k29.fin ((0 : Int), y1, y2) = true ∧ k29.res ((0 : Int), y1, y2) = ((walkL (k62) 0 (List.range n) 0 (y1, y2)).1, (k5d) (walkL (k62) 0 (List.range n) 0 (y1, y2)).2.1 (walkL (k62) 0 (List.range n) 0 (y1, y2)).2.2) := by
  have key := k29.along (k5d) kiq (k62) 0 (fun _ a => a.2.length = n) (List.range n) (y1, y2) hl (by simp only [k29, k5d, List.length_range]; omega) (fun i b a hb hI => ?_) (fun a hI => ?_)
  · exact key
  · obtain ⟨y1, y2⟩ := a
    obtain ⟨rfl, hlt⟩ := range_get hb
    have hI0 : y2.length = n := hI
    have hw : IntKind.i64.wrap ((b : Int) + 1) = ((b + 1 : Nat) : Int) := by rw [wrap_i64 (by omega) (by omega)]; omega
    have hdec : ltI (b : Int) (y2.length : Int) = true := ltI_t (by omega)
    have hnn : leI (0 : Int) (b : Int) = true := leI_t (by omega)
    have hltd : ltN b y2.length = true := ltN_t (by omega)
    refine ⟨?_, ?_, ?_, ?_⟩
    · simp [k5b, k9n, kam, kae, kcv, kcr, kcz, kcu, kd4, kd7, kc6, k29, LT.nds, allT, k5d, hdec, hnn, hltd]
    · simp [k5b, k9n, kam, kae, kcv, kcr, kcz, kcu, kd4, kd7, kc6, k29, LT.each, k5d, kiq, hw]
    · simp only [k5b, k9n, kam, kae, kcv, kcr, kcz, kcu, kd4, kd7, kc6, k29, LT.fn, k5d, kiq, k62, Int.toNat_natCast, hdec, hnn, hltd, cond_true, Bool.cond_self]
    · intro a' hf; simp only [k62, Sum.inr.injEq] at hf; subst hf; simp [hI0]
  · obtain ⟨y1, y2⟩ := a
    have hI0 : y2.length = n := hI
    simp [k5b, k9n, kam, kae, kcv, kcr, kcz, kcu, kd4, kd7, kc6, k29, LT.out, k5d, hI0, List.length_range]

def kcc  (b : Nat) : (Int × List (Int × (ByteArray × Int))) → Nat ⊕ (Int × List (Int × (ByteArray × Int)))
  | (y1, y2) => (.inr (((IntKind.wrap IntKind.i64 ((IntKind.wrap IntKind.i64 ((IntKind.wrap IntKind.i64 (y1 + (1 : Int))) + (1 : Int))) + (1 : Int)))), ((List.set ((List.set ((List.set y2 (b) (y1, Prod.fst ((Prod.snd (Option.getD y2[b]? ((0 : Int), ByteArray.empty, (0 : Int))))), Prod.snd ((Prod.snd (Option.getD y2[b]? ((0 : Int), ByteArray.empty, (0 : Int)))))))) (b) (Prod.fst ((Option.getD ((List.set y2 (b) (y1, Prod.fst ((Prod.snd (Option.getD y2[b]? ((0 : Int), ByteArray.empty, (0 : Int))))), Prod.snd ((Prod.snd (Option.getD y2[b]? ((0 : Int), ByteArray.empty, (0 : Int))))))))[b]? ((0 : Int), ByteArray.empty, (0 : Int)))), kn8 ((IntKind.wrap IntKind.i64 (y1 + (1 : Int)))), Prod.snd (Prod.snd ((Option.getD ((List.set y2 (b) (y1, Prod.fst ((Prod.snd (Option.getD y2[b]? ((0 : Int), ByteArray.empty, (0 : Int))))), Prod.snd ((Prod.snd (Option.getD y2[b]? ((0 : Int), ByteArray.empty, (0 : Int))))))))[b]? ((0 : Int), ByteArray.empty, (0 : Int)))))))) (b) (Prod.fst ((Option.getD ((List.set ((List.set y2 (b) (y1, Prod.fst ((Prod.snd (Option.getD y2[b]? ((0 : Int), ByteArray.empty, (0 : Int))))), Prod.snd ((Prod.snd (Option.getD y2[b]? ((0 : Int), ByteArray.empty, (0 : Int)))))))) (b) (Prod.fst ((Option.getD ((List.set y2 (b) (y1, Prod.fst ((Prod.snd (Option.getD y2[b]? ((0 : Int), ByteArray.empty, (0 : Int))))), Prod.snd ((Prod.snd (Option.getD y2[b]? ((0 : Int), ByteArray.empty, (0 : Int))))))))[b]? ((0 : Int), ByteArray.empty, (0 : Int)))), kn8 ((IntKind.wrap IntKind.i64 (y1 + (1 : Int)))), Prod.snd (Prod.snd ((Option.getD ((List.set y2 (b) (y1, Prod.fst ((Prod.snd (Option.getD y2[b]? ((0 : Int), ByteArray.empty, (0 : Int))))), Prod.snd ((Prod.snd (Option.getD y2[b]? ((0 : Int), ByteArray.empty, (0 : Int))))))))[b]? ((0 : Int), ByteArray.empty, (0 : Int))))))))[b]? ((0 : Int), ByteArray.empty, (0 : Int)))), Prod.fst (Prod.snd ((Option.getD ((List.set ((List.set y2 (b) (y1, Prod.fst ((Prod.snd (Option.getD y2[b]? ((0 : Int), ByteArray.empty, (0 : Int))))), Prod.snd ((Prod.snd (Option.getD y2[b]? ((0 : Int), ByteArray.empty, (0 : Int)))))))) (b) (Prod.fst ((Option.getD ((List.set y2 (b) (y1, Prod.fst ((Prod.snd (Option.getD y2[b]? ((0 : Int), ByteArray.empty, (0 : Int))))), Prod.snd ((Prod.snd (Option.getD y2[b]? ((0 : Int), ByteArray.empty, (0 : Int))))))))[b]? ((0 : Int), ByteArray.empty, (0 : Int)))), kn8 ((IntKind.wrap IntKind.i64 (y1 + (1 : Int)))), Prod.snd (Prod.snd ((Option.getD ((List.set y2 (b) (y1, Prod.fst ((Prod.snd (Option.getD y2[b]? ((0 : Int), ByteArray.empty, (0 : Int))))), Prod.snd ((Prod.snd (Option.getD y2[b]? ((0 : Int), ByteArray.empty, (0 : Int))))))))[b]? ((0 : Int), ByteArray.empty, (0 : Int))))))))[b]? ((0 : Int), ByteArray.empty, (0 : Int))))), (IntKind.wrap IntKind.i64 ((IntKind.wrap IntKind.i64 (y1 + (1 : Int))) + (1 : Int))))))))

def kbn  (i : Nat) : (Int × List (Int × (ByteArray × Int))) → k8y
  | (y1, y2) => ((i : Int), y1, y2)

def kq3 : k8y → Int × List (Int × (ByteArray × Int))
  | (_, y1, y2) => (y1, y2)

theorem k128  (y1 : Int) (y2 : List (Int × (ByteArray × Int))) (n : Nat) (hl : y2.length = n) (hn : n ≤ 9223372036854775807) (h1 : 0 ≤ y1) (h2 : y1 + 3 * (n : Int) ≤ 9223372036854775807) :
    k4f.fin ((0 : Int), y1, y2) = true ∧ k4f.res ((0 : Int), y1, y2) = ((walkL (kcc) 0 (List.range n) 0 (y1, y2)).1, (kbn) (walkL (kcc) 0 (List.range n) 0 (y1, y2)).2.1 (walkL (kcc) 0 (List.range n) 0 (y1, y2)).2.2) := by
  have key := k4f.along (kbn) kq3 (kcc) 0 (fun i a => a.2.length = n ∧ 0 ≤ a.1 ∧ a.1 + 3 * ((n - i : Nat) : Int) ≤ 9223372036854775807) (List.range n) (y1, y2) ⟨hl, h1, by simpa using h2⟩ (by simp only [k4f, kbn, List.length_range]; omega) (fun i b a hb hI => ?_) (fun a hI => ?_)
  · exact key
  · obtain ⟨y1, y2⟩ := a
    obtain ⟨rfl, hlt⟩ := range_get hb
    have hI0 : y2.length = n := hI.1
    have hw : IntKind.i64.wrap ((b : Int) + 1) = ((b + 1 : Nat) : Int) := by rw [wrap_i64 (by omega) (by omega)]; omega
    have hdec : ltI (b : Int) (y2.length : Int) = true := ltI_t (by omega)
    have hnn : leI (0 : Int) (b : Int) = true := leI_t (by omega)
    have hltd : ltN b y2.length = true := ltN_t (by omega)
    refine ⟨?_, ?_, ?_, ?_⟩
    · have hk := hI.2
      simp only at hk
      have hw1 : IntKind.i64.wrap (y1 + 1) = y1 + 1 := wrap_i64 (by omega) (by omega)
      have h6 : kpe (y1 + 1) = true := k183 (y1 + 1) ((Bool.and_eq_true _ _).mpr ⟨leI_t (by omega), leI_t (by omega)⟩)
      simp [kdg, kfx, kbf, kfv, kbi, kff, kfq, kgr, kei, kj4, kj0, kj1, kjm, kj6, kjl, kja, kjk, ki7, ki4, k4f, LT.nds, allT, kbn, hdec, hnn, hltd, hw1, h6]
    · simp [kdg, kfx, kbf, kfv, kbi, kff, kfq, kgr, kei, kj4, kj0, kj1, kjm, kj6, kjl, kja, kjk, ki7, ki4, k4f, LT.each, kbn, kq3, hw]
    · simp only [kdg, kfx, kbf, kfv, kbi, kff, kfq, kgr, kei, kj4, kj0, kj1, kjm, kj6, kjl, kja, kjk, ki7, ki4, k4f, LT.fn, kbn, kq3, kcc, Int.toNat_natCast, hdec, hnn, hltd, cond_true, Bool.cond_self]
    · have hk := hI.2
      simp only at hk
      intro a' hf; simp only [kcc, Sum.inr.injEq] at hf
      subst hf
      refine ⟨by simp [hI0], ?_⟩
      simp only
      rw [wrap_i64 (x := y1 + 1) (by omega) (by omega), wrap_i64 (x := y1 + 1 + 1) (by omega) (by omega), wrap_i64 (x := y1 + 1 + 1 + 1) (by omega) (by omega)]
      omega
  · obtain ⟨y1, y2⟩ := a
    have hI0 : y2.length = n := hI.1
    simp [kdg, kfx, kbf, kfv, kbi, kff, kfq, kgr, kei, kj4, kj0, kj1, kjm, kj6, kjl, kja, kjk, ki7, ki4, k4f, LT.out, kbn, hI0, List.length_range]

def mkB (k : Int) : Int × Int × Int := (k, k + 1, k + 2)
def mkI (k : Int) : Int × Int := (k, k + 1)

theorem k18d (b : Nat) (k : Int) (xs : List (Int × Int × Int)) (hb : b < xs.length) (h0 : 0 ≤ k) (h1 : k + (3 : Nat) ≤ 9223372036854775807) : k6z b (k, xs) = .inr (k + (3 : Nat), xs.set b (mkB k)) := by
  have w1 : IntKind.i64.wrap (k + 1) = k + 1 := wrap_i64 (by omega) (by omega)
  have w2 : IntKind.i64.wrap (k + 1 + 1) = k + 2 := by rw [wrap_i64 (by omega) (by omega)]; omega
  have w3 : IntKind.i64.wrap (k + 2 + 1) = k + 3 := by rw [wrap_i64 (by omega) (by omega)]; omega
  simp [k6z, mkB, w1, w2, w3, List.set_set, List.getElem?_set, hb]

theorem k18i (b : Nat) (k : Int) (xs : List (Int × Int)) (hb : b < xs.length) (h0 : 0 ≤ k) (h1 : k + (2 : Nat) ≤ 9223372036854775807) : k62 b (k, xs) = .inr (k + (2 : Nat), xs.set b (mkI k)) := by
  have w1 : IntKind.i64.wrap (k + 1) = k + 1 := wrap_i64 (by omega) (by omega)
  have w2 : IntKind.i64.wrap (k + 1 + 1) = k + 2 := by rw [wrap_i64 (by omega) (by omega)]; omega
  simp [k62, mkI, w1, w2, List.set_set, List.getElem?_set, hb]

def mkT (k : Int) : TM := (k, kn8 (k + 1), k + 2)

theorem k18h (b : Nat) (k : Int) (xs : List TM) (hb : b < xs.length) (h0 : 0 ≤ k) (h1 : k + (3 : Nat) ≤ 9223372036854775807) : kcc b (k, xs) = .inr (k + (3 : Nat), xs.set b (mkT k)) := by
  have w1 : IntKind.i64.wrap (k + 1) = k + 1 := wrap_i64 (by omega) (by omega)
  have w2 : IntKind.i64.wrap (k + 1 + 1) = k + 2 := by rw [wrap_i64 (by omega) (by omega)]; omega
  have w3 : IntKind.i64.wrap (k + 2 + 1) = k + 3 := by rw [wrap_i64 (by omega) (by omega)]; omega
  simp [kcc, mkT, w1, w2, w3, List.set_set, List.getElem?_set, hb]

theorem k182 (k : Int) (xs : List (Int × Int × Int)) (h : (mkOk3 3 k xs.length && leN xs.length 9223372036854775807) = true) : kns k xs = k + 3 * (xs.length : Int) ∧ koa k xs = upG 3 mkB k xs.length ∧ knt k xs = true := by
  simp only [Bool.and_eq_true, leN_iff] at h
  obtain ⟨h0, h2⟩ := kxg.1 h.1
  obtain ⟨w1, w2⟩ := kwk k xs xs.length rfl h.2
  have hw := k11t (e := 0) k18d xs [] k h0 h2
  rw [List.length_nil, List.nil_append, ← List.range_eq_range'] at hw
  rw [hw] at w2
  refine ⟨?_, ?_, ?_⟩
  · simp only [kns, kfc, kin, w2, k4h]; rfl
  · simp only [koa, kfc, kin, w2, k4h]; rfl
  · simp only [knt, kfc, w1, allT, cond_true]

theorem k181 (k : Int) (xs : List (Int × Int)) (h : (mkOk3 2 k xs.length && leN xs.length 9223372036854775807) = true) : kne k xs = k + 2 * (xs.length : Int) ∧ kna k xs = true := by
  simp only [Bool.and_eq_true, leN_iff] at h
  obtain ⟨h0, h2⟩ := kxg.1 h.1
  obtain ⟨w1, w2⟩ := kvv k xs xs.length rfl h.2
  have hw := k11t (e := 0) k18i xs [] k h0 h2
  rw [List.length_nil, List.nil_append, ← List.range_eq_range'] at hw
  rw [hw] at w2
  refine ⟨?_, ?_⟩
  · simp only [kne, kh6, klg, w2, k5d]; rfl
  · simp only [kna, kh6, w1, allT, cond_true]

theorem k17n (k : Int) (xs : List TM) (h : (mkOk3 3 k xs.length && leN xs.length 9223372036854775807) = true) : ku5 k xs = k + 3 * (xs.length : Int) ∧ ku1 k xs = true := by
  simp only [Bool.and_eq_true, leN_iff] at h
  obtain ⟨h0, h2⟩ := kxg.1 h.1
  obtain ⟨w1, w2⟩ := k128 k xs xs.length rfl h.2 h0 h2
  have hw := k11t (e := 0) k18h xs [] k h0 h2
  rw [List.length_nil, List.nil_append, ← List.range_eq_range'] at hw
  rw [hw] at w2
  refine ⟨?_, ?_⟩
  · simp only [ku5, kpj, ktf, w2, kbn]; rfl
  · simp only [ku1, kpj, w1, allT, cond_true]

def ksv : List SV → List Entry → Option Out
  | [.one ⟨false, [.ref 0]⟩, .one ⟨false, [.val (.int .i64 x0)]⟩], [.row true 172 (.pair (.int .i64) (.pair (.int .i64) (.int .i64))) x1] => some ⟨(.one ⟨false, [(.val (.int IntKind.i64 (x0 + 3 * (x1.length : Int))))]⟩), [(.row true 172 (CTy.pair (CTy.int IntKind.i64) (CTy.pair (CTy.int IntKind.i64) (CTy.int IntKind.i64))) (upG 3 mkB x0 x1.length))], [], [mkOk3 3 x0 x1.length && leN x1.length 9223372036854775807]⟩
  | _, _ => none

def knu : PF Tryz.prog := PF.alt kyi ksv (by
  intro args es o h hnd; unfold ksv at h; split at h
  · rename_i x0 x1
    cases h
    have hnd := nd_fst hnd
    have hh := k182 x0 x1 hnd
    obtain ⟨e0, e1, en⟩ := hh
    exact altok rfl (nd_one en) (by simp only [e0] <;> rfl) (by simp only [e1] <;> rfl) rfl
  · cases h)

def krd : List SV → List Entry → Option Out
  | [.one ⟨false, [.ref 0]⟩, .one ⟨false, [.val (.int .i64 x0)]⟩], [.row true 150 (.pair (.int .i64) (.int .i64)) x1] => some ⟨(.one ⟨false, [(.val (.int IntKind.i64 (x0 + 2 * (x1.length : Int))))]⟩), [(.row true 150 (CTy.pair (CTy.int IntKind.i64) (CTy.int IntKind.i64)) (knh x0 x1))], [], [mkOk3 2 x0 x1.length && leN x1.length 9223372036854775807]⟩
  | _, _ => none

def kn9 : PF Tryz.prog := PF.alt kyb krd (by
  intro args es o h hnd; unfold krd at h; split at h
  · rename_i x0 x1
    cases h
    have hnd := nd_fst hnd
    have hh := k181 x0 x1 hnd
    obtain ⟨e0, en⟩ := hh
    exact altok rfl (nd_one en) (by simp only [e0] <;> rfl) rfl rfl
  · cases h)

def kyl : List SV → List Entry → Option Out
  | [.one ⟨false, [.ref 0]⟩, .one ⟨false, [.val (.int .i64 x0)]⟩], [.row true 178 (.pair (.int .i64) (.pair (.str) (.int .i64))) x1] => some ⟨(.one ⟨false, [(.val (.int IntKind.i64 (x0 + 3 * (x1.length : Int))))]⟩), [(.row true 178 (CTy.pair (CTy.int IntKind.i64) (CTy.pair CTy.str (CTy.int IntKind.i64))) (kuu x0 x1))], [], [mkOk3 3 x0 x1.length && leN x1.length 9223372036854775807]⟩
  | _, _ => none

def ku7 : PF Tryz.prog := PF.alt k14s kyl (by
  intro args es o h hnd; unfold kyl at h; split at h
  · rename_i x0 x1
    cases h
    have hnd := nd_fst hnd
    have hh := k17n x0 x1 hnd
    obtain ⟨e0, en⟩ := hh
    exact altok rfl (nd_one en) (by simp only [e0] <;> rfl) rfl rfl
  · cases h)

def heldB (k : Int) (xs : List (Int × Int × Int)) : Int := kj3 k xs

theorem k18g (k : Int) (h0 : 0 ≤ k) (h1 : k + (3 : Nat) ≤ 9223372036854775807) : k8l (mkB k) k = .inr (k + (3 : Nat)) := by
  have w1 : IntKind.i64.wrap (k + 1) = k + 1 := wrap_i64 (by omega) (by omega)
  have w2 : IntKind.i64.wrap (k + 1 + 1) = k + 2 := by rw [wrap_i64 (by omega) (by omega)]; omega
  have w3 : IntKind.i64.wrap (k + 2 + 1) = k + 3 := by rw [wrap_i64 (by omega) (by omega)]; omega
  simp [k8l, mkB, w1, w2, w3]

theorem k18a (k : Int) (n : Nat) (h : (mkOk3 3 k n && leN n 9223372036854775807) = true) : heldB k (upG 3 mkB k n) = k + 3 * (n : Int) := by
  simp only [Bool.and_eq_true, leN_iff] at h
  obtain ⟨h0, h2⟩ := kxg.1 h.1
  obtain ⟨w1, w2⟩ := kqe (upG 3 mkB k n) k (by rw [k15z]; exact h.2)
  rw [k164 (e := 3) k18g n k 0 h0 h2] at w2
  simp only [heldB, kj3, kaw, w2, k64]
  rfl

theorem k17r (k : Int) (xs : List (Int × Int × Int)) (h : leN xs.length 9223372036854775807 = true) : kj3 k xs = heldB k xs ∧ koe k xs = true := by
  obtain ⟨w1, w2⟩ := kqe xs k (leN_iff.1 h)
  exact ⟨rfl, by simp only [koe, kaw, w1, allT, cond_true]⟩

def kt2 : List SV → List Entry → Option Out
  | [.one ⟨false, [.ref 0]⟩, .one ⟨false, [.val (.int .i64 x0)]⟩], [.row false 172 (.pair (.int .i64) (.pair (.int .i64) (.int .i64))) x1] => some ⟨(.one ⟨false, [(.val (.int IntKind.i64 (heldB x0 x1)))]⟩), [(.row false 172 (CTy.pair (CTy.int IntKind.i64) (CTy.pair (CTy.int IntKind.i64) (CTy.int IntKind.i64))) x1)], [], [leN x1.length 9223372036854775807]⟩
  | _, _ => none

def knw : PF Tryz.prog := PF.alt kyz kt2 (by
  intro args es o h hnd; unfold kt2 at h; split at h
  · rename_i x0 x1
    cases h
    have hnd := nd_fst hnd
    have hh := k17r x0 x1 hnd
    obtain ⟨e0, en⟩ := hh
    exact altok rfl (nd_one en) (by simp only [e0] <;> rfl) rfl rfl
  · cases h)

def szL (k : Int) (n : Nat) : Int := bif ltI (k - n) 0 then -1 else k - n

theorem szI_ok (k : Int) (xs : List (Int × Int)) (h : (leN xs.length 9223372036854775807 && (leI (-1) k && leI k 1048576)) = true) : kp4 k xs = szL k xs.length := by
  simp only [Bool.and_eq_true, leN_iff, leI_iff] at h
  simp only [kp4, knz, szL]
  rw [wrap_i64 (by omega) (by omega)]

theorem szB_ok (k : Int) (xs : List (Int × Int × Int)) (h : (leN xs.length 9223372036854775807 && (leI (-1) k && leI k 1048576)) = true) : kps k xs = szL k xs.length := by
  simp only [Bool.and_eq_true, leN_iff, leI_iff] at h
  simp only [kps, koy, szL]
  rw [wrap_i64 (by omega) (by omega)]

def ktn : List SV → List Entry → Option Out
  | [.one ⟨false, [.ref 0]⟩, .one ⟨false, [.val (.int .i64 x0)]⟩], [.row false 183 (.pair (.int .i64) (.int .i64)) x1] => some ⟨(.one ⟨false, [(.val (.int IntKind.i64 (szL x0 x1.length)))]⟩), [(.row false 183 (CTy.pair (CTy.int IntKind.i64) (CTy.int IntKind.i64)) x1)], [], [leN x1.length 9223372036854775807 && (leI (-1) x0 && leI x0 1048576)]⟩
  | _, _ => none

def kpa : PF Tryz.prog := PF.alt kz9 ktn (by
  intro args es o h hnd; unfold ktn at h; split at h
  · rename_i x0 x1
    cases h
    have hnd := nd_fst hnd
    have hh := szI_ok x0 x1 hnd
    have e0 := hh
    exact altok rfl (fun _ h => by cases h) (by simp only [e0] <;> rfl) rfl rfl
  · cases h)

def ku2 : List SV → List Entry → Option Out
  | [.one ⟨false, [.ref 0]⟩, .one ⟨false, [.val (.int .i64 x0)]⟩], [.row false 194 (.pair (.int .i64) (.pair (.int .i64) (.int .i64))) x1] => some ⟨(.one ⟨false, [(.val (.int IntKind.i64 (szL x0 x1.length)))]⟩), [(.row false 194 (CTy.pair (CTy.int IntKind.i64) (CTy.pair (CTy.int IntKind.i64) (CTy.int IntKind.i64))) x1)], [], [leN x1.length 9223372036854775807 && (leI (-1) x0 && leI x0 1048576)]⟩
  | _, _ => none

def kq7 : PF Tryz.prog := PF.alt k10t ku2 (by
  intro args es o h hnd; unfold ku2 at h; split at h
  · rename_i x0 x1
    cases h
    have hnd := nd_fst hnd
    have hh := szB_ok x0 x1 hnd
    have e0 := hh
    exact altok rfl (fun _ h => by cases h) (by simp only [e0] <;> rfl) rfl rfl
  · cases h)

def szTGo : Int → List TM → Int
  | k, [] => k
  | k, t :: r => bif ltI (kg6 t.2.1 k) 0 then -1 else szTGo (kg6 t.2.1 k) r
def szTs (k : Int) (ts : List TM) : Int := bif ltI (k - ts.length) 0 then -1 else szTGo (k - ts.length) ts

theorem k17m {s : ByteArray} {k : Int} (hs : s.size ≤ 9223372036854775807) (hk : 0 ≤ k ∧ k ≤ 1048576) : kg6 s k = bif ltI (k - (s.size : Int)) 0 then -1 else k - (s.size : Int) := by
  have hw : IntKind.i64.wrap (k - (s.size : Int)) = k - (s.size : Int) := wrap_i64 (by omega) (by omega)
  simp only [kg6, kxe, hw]

def kf1  (b : Int × (ByteArray × Int)) : (Int) → Nat ⊕ (Int)
  | y1 => (bif ((ltI ((kg6 (Prod.fst (Prod.snd (b))) y1)) (0 : Int))) then (.inl 0) else (.inr (((kg6 (Prod.fst (Prod.snd (b))) y1)))))

def kds (y2 : List (Int × (ByteArray × Int))) (i : Nat) : (Int) → kbq
  | y1 => ((i : Int), y1, y2)

def ks4 : kbq → Int
  | (_, y1, _) => y1

theorem k142 (y2 : List (Int × (ByteArray × Int))) (y1 : Int) (hn : y2.length ≤ 9223372036854775807)  :
    k4e.fin ((0 : Int), y1, y2) = true ∧ k4e.res ((0 : Int), y1, y2) = ((walkL (kf1) 1 y2 0 y1).1, (kds y2) (walkL (kf1) 1 y2 0 y1).2.1 (walkL (kf1) 1 y2 0 y1).2.2) := by
  have key := k4e.along (kds y2) ks4 (kf1) 1 (fun _ _ => True) y2 y1 (by trivial) (by simp only [k4e, kds]; omega) (fun i b a hb hI => ?_) (fun a hI => ?_)
  · exact key
  · obtain y1 := a
    have hlt := (List.getElem?_eq_some_iff.1 hb).1
    have hget : ∀ d, Option.getD y2[i]? d = b := fun d => by rw [hb]; rfl
    have hw := wrap64 hlt hn
    have hdec : ltI (i : Int) (y2.length : Int) = true := ltI_t (by omega)
    have hnn : leI (0 : Int) (i : Int) = true := leI_t (by omega)
    have hltd : ltN i y2.length = true := ltN_t hlt
    refine ⟨?_, ?_, ?_, ?_⟩
    · simp [kho, kiy, kmm, kmq, km7, kgx, kma, kmx, kkh, k4e, LT.nds, allT, kds, hdec, hnn, hltd, hget]
    · simp [kho, kiy, kmm, kmq, km7, kgx, kma, kmx, kkh, k4e, LT.each, kds, ks4, hw]
    · simp only [kho, kiy, kmm, kmq, km7, kgx, kma, kmx, kkh, k4e, LT.fn, kds, ks4, kf1, Int.toNat_natCast, hdec, hnn, hltd, hget, cond_true, Bool.cond_self]
    · exact fun _ _ => trivial
  · obtain y1 := a
    simp [kho, kiy, kmm, kmq, km7, kgx, kma, kmx, kkh, k4e, LT.out, kds]

theorem k17i : ∀ (r : List TM) (i : Nat) (k : Int), (bif Nat.beq (walkL kf1 1 r i k).1 0 then -1 else (walkL kf1 1 r i k).2.2) = szTGo k r
  | [], i, k => rfl
  | t :: r, i, k => by
    have hf : kf1 t k = bif ltI (kg6 t.2.1 k) 0 then .inl 0 else .inr (kg6 t.2.1 k) := rfl
    simp only [walkL, hf, szTGo]
    cases h : ltI (kg6 t.2.1 k) 0 with
    | true => rfl
    | false => simp only [cond_false]; exact k17i r (i + 1) _

theorem szT_ok (k : Int) (xs : List TM) (h : (leN xs.length 9223372036854775807 && (leI (-1) k && leI k 1048576)) = true) : kxo k xs = szTs k xs ∧ kxs k xs = true := by
  simp only [Bool.and_eq_true, leN_iff, leI_iff] at h
  have hw : IntKind.i64.wrap (k - (xs.length : Int)) = k - (xs.length : Int) := wrap_i64 (by omega) (by omega)
  obtain ⟨w1, w2⟩ := k142 xs (k - (xs.length : Int)) h.1
  have hs := k17i xs 0 (k - (xs.length : Int))
  have e : kgx = -1 := rfl
  simp only [kxo, kxs, ksh, ksq, hw, w1, w2, kds, allT, Bool.or_true, cond_true, szTs, e, hs, and_self]

theorem k159 : ∀ (r : List TM) (k : Int), (∀ t ∈ r, t.2.1.size ≤ 9223372036854775807) → 0 ≤ k → k ≤ 1048576 → ltI (szTGo k r) 0 = false → szTGo k r = k - totT r ∧ (totT r : Int) ≤ k
  | [], k, _, h0, h1, _ => by simp [szTGo, totT]; omega
  | t :: r, k, hs, h0, h1, h => by
    have ht := k17m (k := k) (hs t (by simp)) ⟨h0, h1⟩
    simp only [szTGo] at h ⊢
    cases h2 : ltI (k - (t.2.1.size : Int)) 0 with
    | true => rw [ht, h2] at h; rw [cond_true] at h; exact absurd (show ltI (-1) 0 = false from h) (by decide)
    | false =>
      have h3 := ltI_not.1 h2
      rw [h2, cond_false] at ht
      rw [ht, h2, cond_false] at h
      obtain ⟨q1, q2⟩ := k159 r _ (fun t ht => hs t (by simp [ht])) h3 (by omega) h
      rw [ht, h2, cond_false, q1]
      simp only [totT]
      omega

theorem k17h {k : Int} {xs : List TM} (hs : ∀ t ∈ xs, t.2.1.size ≤ 9223372036854775807) (hk : k ≤ 1048576) (h : ltI (szTs k xs) 0 = false) : szTs k xs = k - xs.length - totT xs ∧ (xs.length : Int) + totT xs ≤ k := by
  simp only [szTs] at h ⊢
  cases h2 : ltI (k - (xs.length : Int)) 0 with
  | true => rw [h2] at h; simp at h
  | false =>
    have h3 := ltI_not.1 h2
    rw [h2, cond_false] at h
    obtain ⟨q1, q2⟩ := k159 xs _ hs h3 (by omega) h
    rw [cond_false, q1]
    omega

theorem k11p {k : Int} {n : Nat} (h : ltI (szL k n) 0 = false) : szL k n = k - n ∧ (n : Int) ≤ k := by
  simp only [szL] at h ⊢
  cases h2 : ltI (k - (n : Int)) 0 with
  | true => rw [h2] at h; simp at h
  | false => have := ltI_not.1 h2; rw [cond_false]; omega

def k127 : List SV → List Entry → Option Out
  | [.one ⟨false, [.ref 0]⟩, .one ⟨false, [.val (.int .i64 x0)]⟩], [.row false 175 (.pair (.int .i64) (.pair (.str) (.int .i64))) x1] => some ⟨(.one ⟨false, [(.val (.int IntKind.i64 (szTs x0 x1)))]⟩), [(.row false 175 (CTy.pair (CTy.int IntKind.i64) (CTy.pair CTy.str (CTy.int IntKind.i64))) x1)], [], [leN x1.length 9223372036854775807 && (leI (-1) x0 && leI x0 1048576)]⟩
  | _, _ => none

def kxi : PF Tryz.prog := PF.alt k15o k127 (by
  intro args es o h hnd; unfold k127 at h; split at h
  · rename_i x0 x1
    cases h
    have hnd := nd_fst hnd
    have hh := szT_ok x0 x1 hnd
    obtain ⟨e0, en⟩ := hh
    exact altok rfl (nd_one en) (by simp only [e0] <;> rfl) rfl rfl
  · cases h)

theorem k17o (xs : List (Int × Int × Int)) (h : (leN 1 xs.length && leN xs.length 1048576) = true) : kda xs = true := by
  simp only [Bool.and_eq_true, leN_iff] at h
  simp [kda, allT]
  omega

/-- slices.Clone at nil, at a slice of no elements; at any slice. -/
def k14m : List SV → List Entry → Option Out
  | [.one ⟨false, [.val (.slice none 0 0)]⟩], [] => some ⟨.one ⟨false, [.ref 0]⟩, [], [.row true 172 (.pair (.int .i64) (.pair (.int .i64) (.int .i64))) []], [true]⟩
  | _, _ => none
def k16f : PF Tryz.prog := PF.ofG Tryz.prog [PF.raw Tryz.prog] [] hmix 195 Tryz.f195 Tryz.func195 (fun c _ => LOk.nil c) k14m (by
  intro vs es r h; unfold k14m at h; split at h
  · cases h; kernel_rfl
  · cases h)
def k14a : List SV → List Entry → Option Out
  | [.one ⟨false, [.val (.slice (some _) 0 _)]⟩], [] => some ⟨.one ⟨false, [.ref 0]⟩, [], [.row true 172 (.pair (.int .i64) (.pair (.int .i64) (.int .i64))) []], [true]⟩
  | _, _ => none
def k16i : PF Tryz.prog := PF.ofG Tryz.prog [] [] hmix 195 Tryz.f195 Tryz.func195 (fun c _ => LOk.nil c) k14a (by
  intro vs es r h; unfold k14a at h; split at h
  · cases h; kernel_rfl
  · cases h)
def kn0 : List SV → List Entry → Option Out
  | [.one ⟨false, [.ref 0]⟩], [.row false 172 (.pair (.int .i64) (.pair (.int .i64) (.int .i64))) x0] => some ⟨.one ⟨false, [.ref 1]⟩, [.row false 172 (.pair (.int .i64) (.pair (.int .i64) (.int .i64))) x0], [.row true 172 (.pair (.int .i64) (.pair (.int .i64) (.int .i64))) x0], [leN x0.length 1048576]⟩
  | _, _ => none
def kgz : PF Tryz.prog where
  k := 195
  F := kn0
  ok := by
    intro args es o h hnd mem ρ w hp
    unfold kn0 at h
    split at h
    · rename_i x0
      cases h
      have hl := hnd _ (List.mem_singleton.2 rfl)
      cases x0 with
      | nil =>
        exact (clone0 k16f k16i rfl rfl rfl (fun _ _ => rfl) (by simp) (by simp) hp).mono fun en w' ⟨ρ', h1, h2, h3⟩ => ⟨ρ', h1, h2, rfl, (by intro v hv; rw [List.mem_singleton.1 hv]; rfl), h3⟩
      | cons x xs => exact ktg.ok _ _ ⟨_, _, _, [kda (x :: xs)]⟩ rfl (fun b hb => by rw [List.mem_singleton.1 hb]; exact k17o (x :: xs) ((Bool.and_eq_true _ _).mpr ⟨leN_t (Nat.succ_pos _), hl⟩)) mem ρ w hp
    · cases h

end Go.SX

namespace Go.SX
open Go.Proofs
set_option maxRecDepth 100000

abbrev IN := Int × Int
abbrev BS3 := Int × Int × Int

/-- What an instruction takes, gives, whether it fits. -/
def tkI (bs : List TM) (x : IN) : Int := k4l x.1 x.2 bs
def gvI (x : IN) : Int := k7x x.1
def fitI (i v o : Int) (bs : List TM) (x : IN) : Bool := kh7 i v o x.1 x.2 bs

theorem k186 (k : Int) : 0 ≤ kn6 k ∧ kn6 k ≤ 2 := by
  unfold kn6
  generalize (bif k == 1 then k == 1 else bif k == 2 then k == 2 else k == 3) = b1
  generalize (bif k == 4 then k == 4 else bif k == 7 then k == 7 else bif k == 8 then k == 8 else k == 9) = b2
  cases b1 <;> cases b2 <;> decide

theorem tkI_in (bs : List TM) (x : IN) : 0 ≤ tkI bs x ∧ tkI bs x ≤ 2 := by
  have h := k186 (Prod.fst (Option.getD bs[Int.toNat x.2]? ((0 : Int), ByteArray.empty, (0 : Int))))
  unfold tkI k4l
  generalize kab x.1 = b1
  generalize ka2 x.1 = b2
  generalize kec x.1 = b3
  generalize (x.1 == 4) = b4
  generalize (x.1 == 7) = b5
  cases b1 <;> cases b4 <;> cases b2 <;> cases b5 <;> cases b3 <;> simp only [cond_true, cond_false] <;> first | exact h | decide

theorem gvI_in (x : IN) : 0 ≤ gvI x ∧ gvI x ≤ 1 := by
  unfold gvI k7x
  generalize kab x.1 = b1
  generalize ka2 x.1 = b2
  generalize kec x.1 = b3
  generalize (x.1 == 4) = b4
  generalize (x.1 == 7) = b5
  cases b1 <;> cases b4 <;> cases b2 <;> cases b5 <;> cases b3 <;> decide

theorem fit_nd {i v o : Int} {bs : List TM} {x : IN} (hl : bs.length ≤ 2000) (h : fitI i v o bs x = true) : kh9 x.1 x.2 bs = true := by
  by_cases h7 : x.1 = 7
  · simp [fitI, kh7, h7, k1u, Bool.cond_eq_ite] at h
    have hw : IntKind.i64.wrap ((bs.length : Int) - 1) = bs.length - 1 := wrap_i64 (by omega) (by omega)
    rw [hw] at h
    have h1 : leI 0 x.2 = true := leI_t (by omega)
    have h2 : ltI x.2 (bs.length : Int) = true := ltI_t (by omega)
    have h3 : ltN x.2.toNat bs.length = true := ltN_t (by omega)
    simp [kh9, allT, h1, h2, h3]
  · simp [kh9, allT, h7]

theorem k172 {i v o : Int} {bs : List TM} {x : IN} (hi : 0 ≤ i ∧ i ≤ 20) (hv : 0 ≤ v ∧ v ≤ 20) (ho : 0 ≤ o ∧ o ≤ 20) (hl : bs.length ≤ 2000) :
    (bif ltI x.2 0 then true else leI (k4b i v o x.1 bs) x.2) = !fitI i v o bs x := by
  have w1 : IntKind.i64.wrap (i - 1) = i - 1 := wrap_i64 (by omega) (by omega)
  have w2 : IntKind.i64.wrap (v - 1) = v - 1 := wrap_i64 (by omega) (by omega)
  have w3 : IntKind.i64.wrap (o - 1) = o - 1 := wrap_i64 (by omega) (by omega)
  have w4 : IntKind.i64.wrap ((bs.length : Int) - 1) = bs.length - 1 := wrap_i64 (by omega) (by omega)
  have key : ∀ m : Int, (bif ltI x.2 0 then true else leI m x.2) = !(bif leI 0 x.2 then leI x.2 (m - 1) else false) := fun m => by
    by_cases h0 : x.2 < 0
    · have a1 : ltI x.2 0 = true := ltI_t h0
      have a2 : leI 0 x.2 = false := leI_f (by omega)
      simp [a1, a2]
    · have a1 : ltI x.2 0 = false := ltI_f (by omega)
      have a2 : leI 0 x.2 = true := leI_t (by omega)
      simp only [a1, a2, cond_false, cond_true]
      by_cases hm : m ≤ x.2
      · rw [leI_t hm, leI_f (by omega)]; rfl
      · rw [leI_f (by omega), leI_t (by omega)]; rfl
  rw [key]
  simp only [fitI, kh7, k4b, knc, k1u, w1, w2, w3, w4]
  generalize (bif x.1 == 2 then x.1 == 2 else x.1 == 10) = b2
  generalize (bif x.1 == 3 then x.1 == 3 else bif x.1 == 8 then x.1 == 8 else x.1 == 11) = b3
  generalize (bif x.1 == 4 then x.1 == 4 else bif x.1 == 5 then x.1 == 5 else x.1 == 6) = b4
  generalize (x.1 == 1) = b1
  generalize (x.1 == 7) = b5
  generalize (x.1 == 9) = b6
  have e0 : (bif leI 0 x.2 then leI x.2 (1 - 1) else false) = (x.2 == 0) := by
    by_cases h : x.2 = 0
    · rw [h]; rfl
    · have : (x.2 == 0) = false := by simpa using h
      rw [this]
      by_cases h0 : 0 ≤ x.2
      · rw [leI_t h0, leI_f (by omega)]; rfl
      · rw [leI_f (by omega)]; rfl
  have e1 : (bif leI 0 x.2 then leI x.2 (0 - 1) else false) = false := by
    by_cases h0 : 0 ≤ x.2
    · rw [leI_t h0, leI_f (by omega)]; rfl
    · rw [leI_f (by omega)]; rfl
  cases b1 <;> cases b2 <;> cases b3 <;> cases b4 <;> cases b5 <;> cases b6 <;> simp only [cond_true, cond_false, e0, e1] <;> rfl

/-- The heights behind instructions. -/
def hgt (i v o : Int) (bs : List TM) : List IN → Int → List Int → Option (Int × List Int)
  | [], n, acc => some (n, acc)
  | x :: r, n, acc => bif fitI i v o bs x && (leI (tkI bs x) n && leI (n - tkI bs x + gvI x) 40) then hgt i v o bs r (n - tkI bs x + gvI x) (acc ++ [n - tkI bs x + gvI x]) else none

theorem k17e {i v o : Int} {bs : List TM} : ∀ (st : List IN) (n : Int) (acc : List Int) (m : Int) (out : List Int), hgt i v o bs st n acc = some (m, out) → out.length = acc.length + st.length
  | [], n, acc, m, out, h => by simp only [hgt, Option.some.injEq, Prod.mk.injEq] at h; rw [← h.2]; simp
  | x :: r, n, acc, m, out, h => by
    simp only [hgt] at h
    cases hc : (fitI i v o bs x && (leI (tkI bs x) n && leI (n - tkI bs x + gvI x) 40)) with
    | false => rw [hc] at h; cases h
    | true =>
      rw [hc] at h
      have := k17e r _ _ _ _ h
      rw [this]; simp; omega

/-- A step of the heights, as the reference does it. -/
def k169 (i v o : Int) (bs : List TM) (b : IN) : Int × List Int → Nat ⊕ (Int × List Int)
  | (n, acc) => bif !kh7 i v o b.1 b.2 bs then .inl 0 else
      bif (bif ltI n (k4l b.1 b.2 bs) then true else ltI 40 (IntKind.i64.wrap (IntKind.i64.wrap (n - k4l b.1 b.2 bs) + k7x b.1))) then .inl 1 else
      .inr (IntKind.i64.wrap (IntKind.i64.wrap (n - k4l b.1 b.2 bs) + k7x b.1), acc ++ [IntKind.i64.wrap (IntKind.i64.wrap (n - k4l b.1 b.2 bs) + k7x b.1)])

theorem k17x {i v o : Int} {bs : List TM} {b : IN} {n : Int} {acc : List Int} (hn : 0 ≤ n ∧ n ≤ 40) :
    k169 i v o bs b (n, acc) = bif !fitI i v o bs b then .inl 0 else bif !(leI (tkI bs b) n && leI (n - tkI bs b + gvI b) 40) then .inl 1 else .inr (n - tkI bs b + gvI b, acc ++ [n - tkI bs b + gvI b]) := by
  have ht := tkI_in bs b
  have hg := gvI_in b
  have e1 : k4l b.1 b.2 bs = tkI bs b := rfl
  have e2 : k7x b.1 = gvI b := rfl
  have e3 : kh7 i v o b.1 b.2 bs = fitI i v o bs b := rfl
  have w1 : IntKind.i64.wrap (n - tkI bs b) = n - tkI bs b := wrap_i64 (by omega) (by omega)
  have w2 : IntKind.i64.wrap (n - tkI bs b + gvI b) = n - tkI bs b + gvI b := wrap_i64 (by omega) (by omega)
  simp only [k169, e1, e2, e3, w1, w2]
  cases fitI i v o bs b with
  | false => rfl
  | true =>
    have e4 : (bif ltI n (tkI bs b) then true else ltI 40 (n - tkI bs b + gvI b)) = !(leI (tkI bs b) n && leI (n - tkI bs b + gvI b) 40) := by
      by_cases h1 : n < tkI bs b
      · rw [ltI_t h1, leI_f (by omega)]; rfl
      · rw [ltI_f (by omega), leI_t (by omega)]
        by_cases h2 : 40 < n - tkI bs b + gvI b
        · rw [ltI_t h2, leI_f (by omega)]; rfl
        · rw [ltI_f (by omega), leI_t (by omega)]; rfl
    rw [e4]

/-- The heights by a walk. -/
theorem k16h {i v o : Int} {bs : List TM} {f : IN → Int × List Int → Nat ⊕ (Int × List Int)} {e : Nat}
    (hf : ∀ b n acc, 0 ≤ n ∧ n ≤ 40 → ((fitI i v o bs b && (leI (tkI bs b) n && leI (n - tkI bs b + gvI b) 40)) = true → f b (n, acc) = .inr (n - tkI bs b + gvI b, acc ++ [n - tkI bs b + gvI b])) ∧
      ((fitI i v o bs b && (leI (tkI bs b) n && leI (n - tkI bs b + gvI b) 40)) = false → ∃ j, j < e ∧ f b (n, acc) = .inl j)) :
    ∀ (r : List IN) (k : Nat) (n : Int) (acc : List Int), 0 ≤ n ∧ n ≤ 40 →
      (∀ m out, hgt i v o bs r n acc = some (m, out) → walkL f e r k (n, acc) = (e, k + r.length, (m, out)) ∧ 0 ≤ m ∧ m ≤ 40) ∧ (hgt i v o bs r n acc = none → (walkL f e r k (n, acc)).1 < e)
  | [], k, n, acc, hn => ⟨fun m out h => by simp only [hgt, Option.some.injEq, Prod.mk.injEq] at h; obtain ⟨rfl, rfl⟩ := h; exact ⟨rfl, hn⟩, fun h => by simp [hgt] at h⟩
  | b :: r, k, n, acc, hn => by
    have ht := tkI_in bs b
    have hg := gvI_in b
    cases hc : (fitI i v o bs b && (leI (tkI bs b) n && leI (n - tkI bs b + gvI b) 40)) with
    | true =>
      have h1 := (hf b n acc hn).1 hc
      have hb : 0 ≤ n - tkI bs b + gvI b ∧ n - tkI bs b + gvI b ≤ 40 := by simp only [Bool.and_eq_true, leI_iff] at hc; omega
      obtain ⟨g1, g2⟩ := k16h hf r (k + 1) _ (acc ++ [n - tkI bs b + gvI b]) hb
      simp only [hgt, hc, cond_true, walkL, h1]
      refine ⟨fun m out h => ?_, g2⟩
      obtain ⟨q1, q2⟩ := g1 m out h
      refine ⟨?_, q2⟩
      rw [q1]; simp; omega
    | false =>
      obtain ⟨j, hj, h1⟩ := (hf b n acc hn).2 hc
      simp only [hgt, hc, cond_false, walkL, h1]
      exact ⟨fun m out h => (by cases h), fun _ => hj⟩

def kbb (y2 : Int) (y3 : Int) (y4 : Int) (y6 : List (Int × (ByteArray × Int))) (b : Int × Int) : (Int × List Int) → Nat ⊕ (Int × List Int)
  | (y1, y5) => (bif ((!kh7 y2 y3 y4 (Prod.fst ((b))) (Prod.snd ((b))) y6)) then (.inl 0) else (bif ((bif ltI y1 ((k4l (Prod.fst ((b))) (Prod.snd ((b))) y6)) then true else ltI (40 : Int) ((IntKind.wrap IntKind.i64 (IntKind.wrap IntKind.i64 (y1 - (k4l (Prod.fst ((b))) (Prod.snd ((b))) y6)) + k7x (Prod.fst ((b)))))))) then (.inl 1) else (.inr ((((IntKind.wrap IntKind.i64 (IntKind.wrap IntKind.i64 (y1 - (k4l (Prod.fst ((b))) (Prod.snd ((b))) y6)) + k7x (Prod.fst ((b))))))), ((y5 ++ [(IntKind.wrap IntKind.i64 (IntKind.wrap IntKind.i64 (y1 - (k4l (Prod.fst ((b))) (Prod.snd ((b))) y6)) + k7x (Prod.fst ((b)))))]))))))

def kar (y2 : Int) (y3 : Int) (y4 : Int) (y6 : List (Int × (ByteArray × Int))) (y7 : List (Int × Int)) (i : Nat) : (Int × List Int) → k7w
  | (y1, y5) => ((i : Int), y1, y2, y3, y4, y5, y6, y7)

def kpb : k7w → Int × List Int
  | (_, y1, _, _, _, y5, _, _) => (y1, y5)

theorem k10v (y2 : Int) (y3 : Int) (y4 : Int) (y6 : List (Int × (ByteArray × Int))) (y7 : List (Int × Int)) (y1 : Int) (y5 : List Int) (hn : y7.length ≤ 9223372036854775807) (hst : y7.length ≤ 2000) (hbs : y6.length ≤ 2000) (hin : (0 ≤ y1 ∧ y1 ≤ 40) ∧ y5.length = 0) :
    k2o.fin ((0 : Int), y1, y2, y3, y4, y5, y6, y7) = true ∧ k2o.res ((0 : Int), y1, y2, y3, y4, y5, y6, y7) = ((walkL (kbb y2 y3 y4 y6) 2 y7 0 (y1, y5)).1, (kar y2 y3 y4 y6 y7) (walkL (kbb y2 y3 y4 y6) 2 y7 0 (y1, y5)).2.1 (walkL (kbb y2 y3 y4 y6) 2 y7 0 (y1, y5)).2.2) := by
  have key := k2o.along (kar y2 y3 y4 y6 y7) kpb (kbb y2 y3 y4 y6) 2 (fun i a => (0 ≤ a.1 ∧ a.1 ≤ 40) ∧ a.2.length = i) y7 (y1, y5) hin (by simp only [k2o, kar]; omega) (fun i b a hb hI => ?_) (fun a hI => ?_)
  · exact key
  · obtain ⟨y1, y5⟩ := a
    have hlt := (List.getElem?_eq_some_iff.1 hb).1
    have hget : ∀ d, Option.getD y7[i]? d = b := fun d => by rw [hb]; rfl
    have hw := wrap64 hlt hn
    have hdec : ltI (i : Int) (y7.length : Int) = true := ltI_t (by omega)
    have hnn : leI (0 : Int) (i : Int) = true := leI_t (by omega)
    have hltd : ltN i y7.length = true := ltN_t hlt
    refine ⟨?_, ?_, ?_, ?_⟩
    · have hg2 : k3h (i : Int) y7 = b := by simp only [k3h, Int.toNat_natCast]; exact hget _
      have hl := hI.2
      have h6 : leN (y5.length + 1) 9223372036854775807 = true := leN_t (by simp only at hl; omega)
      have h7 : leN ((y5.length + 1) * 8) 140737488355328 = true := leN_t (by simp only at hl; omega)
      have h8 : fitI y2 y3 y4 y6 b = true → kh9 b.1 b.2 y6 = true := fit_nd hbs
      simp only [kdh, kid, kht, ki0, klt, klp, kle, kh0, k2o, LT.nds, allT, kar, hdec, hnn, hltd, hg2, List.length_singleton, h6, h7, Int.toNat_natCast, cond_true, cond_false]
      change (bif !fitI y2 y3 y4 y6 b then _ else _) = true
      cases hf : fitI y2 y3 y4 y6 b with
      | false => rfl
      | true => simp [h8 hf]
    · simp [k3h, kh1, kau, kdh, kid, kht, ki0, klt, kln, klp, kle, klh, klx, kk3, kh0, k2o, LT.each, kar, kpb, hw]
    · have hg2 : k3h (i : Int) y7 = b := by simp only [k3h, Int.toNat_natCast]; exact hget _
      simp only [kdh, ki0, kln, klh, klx, kk3, kh1, kau, kh0, k2o, LT.fn, kar, kpb, kbb, Int.toNat_natCast, hdec, hg2, cond_true]
    · have hk := hI.1
      simp only at hk
      have hs := k17x (i := y2) (v := y3) (o := y4) (bs := y6) (b := b) (acc := y5) hk
      intro a' hf
      have hf : k169 y2 y3 y4 y6 b (y1, y5) = .inr a' := hf
      rw [hs] at hf
      have ht := tkI_in y6 b
      have hg := gvI_in b
      cases hq : fitI y2 y3 y4 y6 b with
      | false => rw [hq] at hf; cases hf
      | true =>
        cases hq2 : (leI (tkI y6 b) y1 && leI (y1 - tkI y6 b + gvI b) 40) with
        | false => rw [hq, hq2] at hf; cases hf
        | true =>
          rw [hq, hq2] at hf; cases hf
          simp only [Bool.and_eq_true, leI_iff] at hq2
          exact ⟨by simp only; omega, by have hl := hI.2; simp only at hl; simp [hl]⟩
  · obtain ⟨y1, y5⟩ := a
    simp [k3h, kh1, kau, kdh, kid, kht, ki0, klt, kln, klp, kle, klh, klx, kk3, kh0, k2o, LT.out, kar]

end Go.SX

namespace Go.SX
open Go.Proofs
set_option maxRecDepth 100000

/-- The heights' end. -/
def hgtOk (i v o : Int) (bs : List TM) (st : List IN) : Bool := match hgt i v o bs st 0 [] with | some (m, _) => m == 0 | none => false
def hgtL (i v o : Int) (bs : List TM) (st : List IN) : List Int := match hgt i v o bs st 0 [] with | some (_, out) => out | none => []
def blksB (bs : List TM) : Bool := bs.all fun t => blockB t.1 t.2.1 t.2.2
def rngC (i v o : Int) (bs : List TM) (st : List IN) : Bool := inR i 0 20 && (inR v 0 20 && (inR o 0 20 && (leN bs.length 2000 && leN st.length 2000)))
def codeB (i v o : Int) (bs : List TM) (st : List IN) : Bool := rngC i v o bs st && (blksB bs && hgtOk i v o bs st)
def tsOk (bs : List TM) : Bool := leN bs.length 9223372036854775807 && bs.all fun t => leN t.2.1.size 9223372036854775807

theorem k16d {bs : List TM} : tsOk bs = true ↔ bs.length ≤ 9223372036854775807 ∧ ∀ t ∈ bs, t.2.1.size ≤ 9223372036854775807 := by
  simp only [tsOk, Bool.and_eq_true, leN_iff, List.all_eq_true]

theorem kyf {i v o : Int} {bs : List TM} {st : List IN} : rngC i v o bs st = true ↔ (0 ≤ i ∧ i ≤ 20) ∧ (0 ≤ v ∧ v ≤ 20) ∧ (0 ≤ o ∧ o ≤ 20) ∧ bs.length ≤ 2000 ∧ st.length ≤ 2000 := by
  simp only [rngC, Bool.and_eq_true, kux, leN_iff]

theorem specHts (i v o : Int) (bs : List TM) (st : List IN) (hst : st.length ≤ 2000) (hbs : bs.length ≤ 2000) :
    kpp i v o bs st = hgtOk i v o bs st ∧ kt9 i v o bs st = hgtL i v o bs st ∧ kpm i v o bs st = true := by
  obtain ⟨w1, w2⟩ := k10v i v o bs st 0 [] (by omega) hst hbs ⟨⟨by omega, by omega⟩, rfl⟩
  have hw := k16h (i := i) (v := v) (o := o) (bs := bs) (f := kbb i v o bs) (e := 2) (fun b n acc hn => by
    have h := k17x (i := i) (v := v) (o := o) (bs := bs) (b := b) (n := n) (acc := acc) hn
    have h : kbb i v o bs b (n, acc) = _ := h
    rw [h]
    refine ⟨fun hc => ?_, fun hc => ?_⟩
    · simp only [Bool.and_eq_true] at hc
      simp [hc.1, hc.2.1, hc.2.2]
    · cases hq : fitI i v o bs b with
      | false => exact ⟨0, by omega, rfl⟩
      | true =>
        rw [hq, Bool.true_and] at hc
        exact ⟨1, by omega, by rw [hc]; rfl⟩) st 0 0 [] ⟨by omega, by omega⟩
  simp only [kpp, kt9, kpm, kkq, ksa, kru, ksg, w1, allT, cond_true]
  rw [w2]
  simp only [hgtOk, hgtL]
  cases hh : hgt i v o bs st 0 [] with
  | none =>
    have := hw.2 hh
    generalize walkL (kbb i v o bs) 2 st 0 (0, []) = r at this ⊢
    obtain ⟨j, k, a⟩ := r
    have : j = 0 ∨ j = 1 := by simp only at this; omega
    rcases this with rfl | rfl <;> simp [Nat.beq]
  | some r =>
    obtain ⟨m, out⟩ := r
    have := (hw.1 m out hh).1
    rw [this]
    simp [Nat.beq, kar]

def k16a (i v o : Int) (bs : List TM) (b : IN) : Int × List Int → Nat ⊕ (Int × List Int)
  | (n, acc) => bif (bif ltI b.2 0 then true else leI (k4b i v o b.1 bs) b.2) then .inl 0 else
      bif ltI n (k1c b.1 b.2 bs) then .inl 1 else
      bif ltI 40 (IntKind.i64.wrap (n + IntKind.i64.wrap (k1t b.1 - k1c b.1 b.2 bs))) then .inl 2 else
      .inr (IntKind.i64.wrap (n + IntKind.i64.wrap (k1t b.1 - k1c b.1 b.2 bs)), acc ++ [IntKind.i64.wrap (n + IntKind.i64.wrap (k1t b.1 - k1c b.1 b.2 bs))])

theorem k17u {i v o : Int} {bs : List TM} {b : IN} {n : Int} {acc : List Int} (hr : (0 ≤ i ∧ i ≤ 20) ∧ (0 ≤ v ∧ v ≤ 20) ∧ 0 ≤ o ∧ o ≤ 20) (hl : bs.length ≤ 2000) (hn : 0 ≤ n ∧ n ≤ 40) :
    k16a i v o bs b (n, acc) = bif !fitI i v o bs b then .inl 0 else bif !leI (tkI bs b) n then .inl 1 else bif !leI (n - tkI bs b + gvI b) 40 then .inl 2 else .inr (n - tkI bs b + gvI b, acc ++ [n - tkI bs b + gvI b]) := by
  have ht := tkI_in bs b
  have hg := gvI_in b
  have e1 : k1c b.1 b.2 bs = tkI bs b := rfl
  have e2 : k1t b.1 = gvI b := rfl
  have w1 : IntKind.i64.wrap (gvI b - tkI bs b) = gvI b - tkI bs b := wrap_i64 (by omega) (by omega)
  have w2 : IntKind.i64.wrap (n + (gvI b - tkI bs b)) = n - tkI bs b + gvI b := by rw [wrap_i64 (by omega) (by omega)]; omega
  simp only [k16a, k172 hr.1 hr.2.1 hr.2.2 hl, e1, e2, w1, w2]
  have n1 : ltI n (tkI bs b) = !leI (tkI bs b) n := by
    by_cases h1 : n < tkI bs b
    · rw [ltI_t h1, leI_f (by omega)]; rfl
    · rw [ltI_f (by omega), leI_t (by omega)]; rfl
  have n2 : ltI 40 (n - tkI bs b + gvI b) = !leI (n - tkI bs b + gvI b) 40 := by
    by_cases h1 : 40 < n - tkI bs b + gvI b
    · rw [ltI_t h1, leI_f (by omega)]; rfl
    · rw [ltI_f (by omega), leI_t (by omega)]; rfl
  rw [n1, n2]

def k24 (y4 : Int) (y5 : Int) (y6 : Int) (y8 : List (Int × (ByteArray × Int))) (b : Int × Int) : (Int × List Int) → Nat ⊕ (Int × List Int)
  | (y2, y7) => (bif ((bif ltI (Prod.snd ((b))) (0 : Int) then true else leI (k4b y4 y5 y6 (Prod.fst ((b))) y8) (Prod.snd ((b))))) then (.inl 0) else (bif ((ltI y2 ((k1c (Prod.fst ((b))) (Prod.snd ((b))) y8)))) then (.inl 1) else (bif ((ltI (40 : Int) ((IntKind.wrap IntKind.i64 (y2 + IntKind.wrap IntKind.i64 (k1t (Prod.fst ((b))) - (k1c (Prod.fst ((b))) (Prod.snd ((b))) y8))))))) then (.inl 2) else (.inr ((((IntKind.wrap IntKind.i64 (y2 + IntKind.wrap IntKind.i64 (k1t (Prod.fst ((b))) - (k1c (Prod.fst ((b))) (Prod.snd ((b))) y8)))))), ((y7 ++ [(IntKind.wrap IntKind.i64 (y2 + IntKind.wrap IntKind.i64 (k1t (Prod.fst ((b))) - (k1c (Prod.fst ((b))) (Prod.snd ((b))) y8))))])))))))

def k20 (y3 : List (Int × Int)) (y4 : Int) (y5 : Int) (y6 : Int) (y8 : List (Int × (ByteArray × Int))) (i : Nat) : (Int × List Int) → k1l
  | (y2, y7) => ((i : Int), (↑(List.length y3) : Int), y2, y3, y4, y5, y6, y7, y8)

def ka5 : k1l → Int × List Int
  | (_, _, y2, _, _, _, _, y7, _) => (y2, y7)

theorem knd (y3 : List (Int × Int)) (y4 : Int) (y5 : Int) (y6 : Int) (y8 : List (Int × (ByteArray × Int))) (y2 : Int) (y7 : List Int) (hn : y3.length ≤ 9223372036854775807) (hst : y3.length ≤ 2000) (hbs : y8.length ≤ 2000) (hr : (0 ≤ y4 ∧ y4 ≤ 20) ∧ (0 ≤ y5 ∧ y5 ≤ 20) ∧ 0 ≤ y6 ∧ y6 ≤ 20) (hin : (0 ≤ y2 ∧ y2 ≤ 40) ∧ y7.length = 0) :
    kk.fin ((0 : Int), (↑(List.length y3) : Int), y2, y3, y4, y5, y6, y7, y8) = true ∧ kk.res ((0 : Int), (↑(List.length y3) : Int), y2, y3, y4, y5, y6, y7, y8) = ((walkL (k24 y4 y5 y6 y8) 3 y3 0 (y2, y7)).1, (k20 y3 y4 y5 y6 y8) (walkL (k24 y4 y5 y6 y8) 3 y3 0 (y2, y7)).2.1 (walkL (k24 y4 y5 y6 y8) 3 y3 0 (y2, y7)).2.2) := by
  have key := kk.along (k20 y3 y4 y5 y6 y8) ka5 (k24 y4 y5 y6 y8) 3 (fun i a => (0 ≤ a.1 ∧ a.1 ≤ 40) ∧ a.2.length = i) y3 (y2, y7) hin (by simp only [kk, k20]; omega) (fun i b a hb hI => ?_) (fun a hI => ?_)
  · exact key
  · obtain ⟨y2, y7⟩ := a
    have hlt := (List.getElem?_eq_some_iff.1 hb).1
    have hget : ∀ d, Option.getD y3[i]? d = b := fun d => by rw [hb]; rfl
    have hw := wrap64 hlt hn
    have hdec : ltI (i : Int) (y3.length : Int) = true := ltI_t (by omega)
    have hnn : leI (0 : Int) (i : Int) = true := leI_t (by omega)
    have hltd : ltN i y3.length = true := ltN_t hlt
    refine ⟨?_, ?_, ?_, ?_⟩
    · have hg2 : kz (i : Int) y3 = b := by simp only [kz, Int.toNat_natCast]; exact hget _
      have hl := hI.2
      have h6 : leN (y7.length + 1) 9223372036854775807 = true := leN_t (by simp only at hl; omega)
      have h7 : leN ((y7.length + 1) * 8) 140737488355328 = true := leN_t (by simp only at hl; omega)
      have h8 : fitI y4 y5 y6 y8 b = true → k5f b.1 b.2 y8 = true := fit_nd hbs
      simp only [k42, k6w, k6s, k6p, k40, k6r, k6q, k6u, k3l, kk, LT.nds, allT, k20, hdec, hnn, hltd, hg2, List.length_singleton, h6, h7, Int.toNat_natCast, k172 hr.1 hr.2.1 hr.2.2 hbs, cond_true, cond_false]
      cases hf : fitI y4 y5 y6 y8 b with
      | false => rfl
      | true => simp [h8 hf]
    · simp [kz, k3p, k1z, k42, k6w, k6s, k6p, k40, k6r, k6v, k6t, k6q, k6u, k6g, k6f, k6j, k3l, kk, LT.each, k20, ka5, hw]
    · have hg2 : kz (i : Int) y3 = b := by simp only [kz, Int.toNat_natCast]; exact hget _
      simp only [k42, k40, k6v, k6t, k6g, k6f, k6j, k3p, k1z, k3l, kk, LT.fn, k20, ka5, k24, Int.toNat_natCast, hdec, hg2, cond_true]
    · have hk := hI.1
      simp only at hk
      have hs := k17u (i := y4) (v := y5) (o := y6) (bs := y8) (b := b) (acc := y7) hr hbs hk
      intro a' hf
      have hf : k16a y4 y5 y6 y8 b (y2, y7) = .inr a' := hf
      rw [hs] at hf
      have ht := tkI_in y8 b
      have hg := gvI_in b
      cases hq : fitI y4 y5 y6 y8 b with
      | false => rw [hq] at hf; cases hf
      | true =>
        cases hq2 : leI (tkI y8 b) y2 with
        | false => rw [hq, hq2] at hf; cases hf
        | true =>
          cases hq3 : leI (y2 - tkI y8 b + gvI b) 40 with
          | false => rw [hq, hq2, hq3] at hf; cases hf
          | true =>
            rw [hq, hq2, hq3] at hf; cases hf
            have hq2 := leI_iff.1 hq2
            have hq3 := leI_iff.1 hq3
            exact ⟨by simp only; omega, by have hl := hI.2; simp only at hl; simp [hl]⟩
  · obtain ⟨y2, y7⟩ := a
    simp [kz, k3p, k1z, k42, k6w, k6s, k6p, k40, k6r, k6v, k6t, k6q, k6u, k6g, k6f, k6j, k3l, kk, LT.out, k20]

theorem implHts (i v o : Int) (bs : List TM) (st : List IN) (hr : (0 ≤ i ∧ i ≤ 20) ∧ (0 ≤ v ∧ v ≤ 20) ∧ 0 ≤ o ∧ o ≤ 20) (hst : st.length ≤ 2000) (hbs : bs.length ≤ 2000) :
    k83 i v o bs st = hgtOk i v o bs st ∧ kbz i v o bs st = hgtL i v o bs st ∧ k81 i v o bs st = true := by
  obtain ⟨w1, w2⟩ := knd st i v o bs 0 [] (by omega) hst hbs hr ⟨⟨by omega, by omega⟩, rfl⟩
  have hw := k16h (i := i) (v := v) (o := o) (bs := bs) (f := k24 i v o bs) (e := 3) (fun b n acc hn => by
    have h := k17u (i := i) (v := v) (o := o) (bs := bs) (b := b) (n := n) (acc := acc) hr hbs hn
    have h : k24 i v o bs b (n, acc) = _ := h
    rw [h]
    refine ⟨fun hc => ?_, fun hc => ?_⟩
    · simp only [Bool.and_eq_true] at hc
      simp [hc.1, hc.2.1, hc.2.2]
    · cases hq : fitI i v o bs b with
      | false => exact ⟨0, by omega, rfl⟩
      | true =>
        rw [hq, Bool.true_and] at hc
        cases hq2 : leI (tkI bs b) n with
        | false => exact ⟨1, by omega, rfl⟩
        | true => rw [hq2, Bool.true_and] at hc; exact ⟨2, by omega, by rw [hc]; rfl⟩) st 0 0 [] ⟨by omega, by omega⟩
  simp only [k83, kbz, k81, k3c, kbm, kbe, kbo, kbl, w1, allT, cond_true]
  rw [w2]
  simp only [hgtOk, hgtL]
  cases hh : hgt i v o bs st 0 [] with
  | none =>
    have := hw.2 hh
    generalize walkL (k24 i v o bs) 3 st 0 (0, []) = r at this ⊢
    obtain ⟨j, k, a⟩ := r
    have : j = 0 ∨ j = 1 ∨ j = 2 := by simp only at this; omega
    rcases this with rfl | rfl | rfl <;> simp [Nat.beq]
  | some r =>
    obtain ⟨m, out⟩ := r
    have := (hw.1 m out hh).1
    rw [this]
    simp [Nat.beq, k20]

def ko9  (b : Int × (ByteArray × Int)) : (Unit) → Nat ⊕ (Unit)
  | _ => (bif ((!blockB (Prod.fst ((b))) (Prod.fst (Prod.snd ((b)))) (Prod.snd (Prod.snd ((b)))))) then (.inl 0) else (.inr ()))

def kgw (y1 : Int) (y2 : Int) (y3 : Int) (y4 : List (Int × (ByteArray × Int))) (y5 : List (Int × Int)) (i : Nat) : (Unit) → kd0
  | _ => ((i : Int), y1, y2, y3, y4, y5)

def ktd : kd0 → Unit
  | (_, _, _, _, _, _) => ()

theorem k14u (y1 : Int) (y2 : Int) (y3 : Int) (y4 : List (Int × (ByteArray × Int))) (y5 : List (Int × Int))  (hn : y4.length ≤ 9223372036854775807) (hA : ∀ t ∈ y4, t.2.1.size ≤ 9223372036854775807) :
    k6h.fin ((0 : Int), y1, y2, y3, y4, y5) = true ∧ k6h.res ((0 : Int), y1, y2, y3, y4, y5) = ((walkL (ko9) 1 y4 0 ()).1, (kgw y1 y2 y3 y4 y5) (walkL (ko9) 1 y4 0 ()).2.1 (walkL (ko9) 1 y4 0 ()).2.2) := by
  have key := k6h.along (kgw y1 y2 y3 y4 y5) ktd (ko9) 1 (fun _ _ => True) y4 () (by trivial) (by simp only [k6h, kgw]; omega) (fun i b a hb hI => ?_) (fun a hI => ?_)
  · exact key
  · obtain ⟨⟩ := a
    have hlt := (List.getElem?_eq_some_iff.1 hb).1
    have hget : ∀ d, Option.getD y4[i]? d = b := fun d => by rw [hb]; rfl
    have hw := wrap64 hlt hn
    have hdec : ltI (i : Int) (y4.length : Int) = true := ltI_t (by omega)
    have hnn : leI (0 : Int) (i : Int) = true := leI_t (by omega)
    have hltd : ltN i y4.length = true := ltN_t hlt
    refine ⟨?_, ?_, ?_, ?_⟩
    · have hg2 : kbt (i : Int) y4 = b := by simp only [kbt, Int.toNat_natCast]; exact hget _
      have h6 : leN b.2.1.size 9223372036854775807 = true := leN_t (hA b (List.mem_of_getElem? hb))
      simp [kkw, kqs, kqk, kqt, ko5, kqv, km4, k6h, LT.nds, allT, kgw, hdec, hnn, hltd, hg2, h6]
    · simp [kbt, kkw, kqs, kqk, kqt, ko5, kqv, km4, k6h, LT.each, kgw, ktd, hw]
    · have hg2 : kbt (i : Int) y4 = b := by simp only [kbt, Int.toNat_natCast]; exact hget _
      simp only [kkw, ko5, km4, k6h, LT.fn, kgw, ktd, ko9, Int.toNat_natCast, hdec, hg2, cond_true]
    · exact fun _ _ => trivial
  · obtain ⟨⟩ := a
    simp [kbt, kkw, kqs, kqk, kqt, ko5, kqv, km4, k6h, LT.out, kgw]

def k6d  (b : Int × (ByteArray × Int)) : (Unit) → Nat ⊕ (Unit)
  | _ => (bif ((kp8 (Prod.fst ((b))) (Prod.fst (Prod.snd ((b)))) (Prod.snd (Prod.snd ((b)))))) then (.inl 0) else (.inr ()))

def k2f (y2 : List (Int × (ByteArray × Int))) (i : Nat) : (Unit) → k1v
  | _ => ((i : Int), (↑(List.length y2) : Int), y2)

def kc8 : k1v → Unit
  | (_, _, _) => ()

theorem kpg (y2 : List (Int × (ByteArray × Int)))  (hn : y2.length ≤ 9223372036854775807)  :
    k16.fin ((0 : Int), (↑(List.length y2) : Int), y2) = true ∧ k16.res ((0 : Int), (↑(List.length y2) : Int), y2) = ((walkL (k6d) 1 y2 0 ()).1, (k2f y2) (walkL (k6d) 1 y2 0 ()).2.1 (walkL (k6d) 1 y2 0 ()).2.2) := by
  have key := k16.along (k2f y2) kc8 (k6d) 1 (fun _ _ => True) y2 () (by trivial) (by simp only [k16, k2f]; omega) (fun i b a hb hI => ?_) (fun a hI => ?_)
  · exact key
  · obtain ⟨⟩ := a
    have hlt := (List.getElem?_eq_some_iff.1 hb).1
    have hget : ∀ d, Option.getD y2[i]? d = b := fun d => by rw [hb]; rfl
    have hw := wrap64 hlt hn
    have hdec : ltI (i : Int) (y2.length : Int) = true := ltI_t (by omega)
    have hnn : leI (0 : Int) (i : Int) = true := leI_t (by omega)
    have hltd : ltN i y2.length = true := ltN_t hlt
    refine ⟨?_, ?_, ?_, ?_⟩
    · simp [k31, k61, k6a, k63, k6c, k65, k6b, k5e, k16, LT.nds, allT, k2f, hdec, hnn, hltd, hget]
    · simp [k31, k61, k6a, k63, k6c, k65, k6b, k5e, k16, LT.each, k2f, kc8, hw]
    · simp only [k31, k61, k6a, k63, k6c, k65, k6b, k5e, k16, LT.fn, k2f, kc8, k6d, Int.toNat_natCast, hdec, hnn, hltd, hget, cond_true, Bool.cond_self]
    · exact fun _ _ => trivial
  · obtain ⟨⟩ := a
    simp [k31, k61, k6a, k63, k6c, k65, k6b, k5e, k16, LT.out, k2f]

theorem k17g (bs : List TM) : (bs.any fun t => !blockB t.1 t.2.1 t.2.2) = !blksB bs := by simp [blksB, List.all_eq_not_any_not]

theorem k179 (i v o : Int) (bs : List TM) (st : List IN) : kll i v o bs st = !rngC i v o bs st := by
  have e1 : ∀ x : Int, k1u x 0 20 = inR x 0 20 := fun x => by simp only [k1u, inR_eq]
  have e2 : ∀ n : Nat, ltI 2000 (n : Int) = !leN n 2000 := fun n => by
    by_cases h : n ≤ 2000
    · rw [leN_t h, ltI_f (by omega)]; rfl
    · rw [leN_f (by omega), ltI_t (by omega)]; rfl
  simp only [kll, rngC, e1, e2]
  cases inR i 0 20 <;> cases inR v 0 20 <;> cases inR o 0 20 <;> cases leN bs.length 2000 <;> cases leN st.length 2000 <;> rfl

theorem specCodeB (i v o : Int) (bs : List TM) (st : List IN) (h : tsOk bs = true) : kz6 i v o bs st = codeB i v o bs st ∧ kz0 i v o bs st = true := by
  obtain ⟨hn, hA⟩ := k16d.1 h
  simp only [kz6, kz0, k179, codeB]
  cases hr : rngC i v o bs st with
  | false => simp [allT]
  | true =>
    obtain ⟨h1, h2, h3, h4, h5⟩ := kyf.1 hr
    obtain ⟨q1, q2, q3⟩ := specHts i v o bs st h5 h4
    obtain ⟨w1, w2⟩ := k14u i v o bs st hn hA
    rw [walk_stop (P := fun t => !blockB t.1 t.2.1 t.2.2) (j := 0) (fun t => rfl), k17g] at w2
    simp only [kx7, kx5, w1, w2, q1, q3, allT]
    cases blksB bs <;> simp [Nat.beq]

theorem implCodeB (i v o : Int) (bs : List TM) (st : List IN) : kyt i v o bs st = codeB i v o bs st ∧ kz5 i v o bs st = true := by
  have e0 : kqz i v o bs st = kll i v o bs st := by simp only [kqz, kll, k3n, k1u]
  simp only [kyt, kz5, e0, k179, codeB]
  cases hr : rngC i v o bs st with
  | false => simp [allT]
  | true =>
    obtain ⟨h1, h2, h3, h4, h5⟩ := kyf.1 hr
    obtain ⟨q1, q2, q3⟩ := implHts i v o bs st ⟨h1, h2, h3⟩ h5 h4
    obtain ⟨w1, w2⟩ := kpg bs (by omega)
    rw [walk_stop (P := fun t => !blockB t.1 t.2.1 t.2.2) (j := 0) (fun t => rfl), k17g] at w2
    simp only [k93, kd2, ked, kek, kac, w1, w2, q1, q3, allT]
    cases blksB bs with
    | true => simp [Nat.beq, show leI 0 (-1) = false from rfl]
    | false => simp [Nat.beq, k2f]; intro h; omega

def kxt : List SV → List Entry → Option Out
  | [.one ⟨true, [.val (.int .i64 x0), .val (.int .i64 x1), .val (.int .i64 x2), .ref 0, .ref 1]⟩], [.row false 178 (.pair (.int .i64) (.pair (.str) (.int .i64))) x3, .row false 150 (.pair (.int .i64) (.int .i64)) x4] => some ⟨(.tup [⟨false, [(.ref 2)]⟩, ⟨false, [(.val (.bool (hgtOk x0 x1 x2 x3 x4)))]⟩]), [(.row false 178 (CTy.pair (CTy.int IntKind.i64) (CTy.pair CTy.str (CTy.int IntKind.i64))) x3), (.row false 150 (CTy.pair (CTy.int IntKind.i64) (CTy.int IntKind.i64)) x4)], [(.row true 2 (CTy.int IntKind.i64) (hgtL x0 x1 x2 x3 x4))], [leN x4.length 2000 && leN x3.length 2000]⟩
  | _, _ => none

def kth : PF Tryz.prog := PF.alt kgy kxt (by
  intro args es o h hnd; unfold kxt at h; split at h
  · rename_i x0 x1 x2 x3 x4
    cases h
    have hnd := nd_fst hnd
    have hh := specHts x0 x1 x2 x3 x4 (leN_iff.1 ((Bool.and_eq_true _ _).mp hnd).1) (leN_iff.1 ((Bool.and_eq_true _ _).mp hnd).2)
    obtain ⟨e0, e1, en⟩ := hh
    exact altok rfl (nd_one en) (by simp only [e0] <;> rfl) rfl (by simp only [e1] <;> rfl)
  · cases h)

def kgp : List SV → List Entry → Option Out
  | [.one ⟨true, [.val (.int .i64 x0), .val (.int .i64 x1), .val (.int .i64 x2), .ref 0, .ref 1]⟩], [.row false 178 (.pair (.int .i64) (.pair (.str) (.int .i64))) x3, .row false 150 (.pair (.int .i64) (.int .i64)) x4] => some ⟨(.tup [⟨false, [(.ref 2)]⟩, ⟨false, [(.val (.bool (hgtOk x0 x1 x2 x3 x4)))]⟩]), [(.row false 178 (CTy.pair (CTy.int IntKind.i64) (CTy.pair CTy.str (CTy.int IntKind.i64))) x3), (.row false 150 (CTy.pair (CTy.int IntKind.i64) (CTy.int IntKind.i64)) x4)], [(.row true 2 (CTy.int IntKind.i64) (hgtL x0 x1 x2 x3 x4))], [rngC x0 x1 x2 x3 x4]⟩
  | _, _ => none

def kc4 : PF Tryz.prog := PF.alt k85 kgp (by
  intro args es o h hnd; unfold kgp at h; split at h
  · rename_i x0 x1 x2 x3 x4
    cases h
    have hnd := nd_fst hnd
    have hh := (fun h => have h := kyf.1 h; implHts x0 x1 x2 x3 x4 ⟨h.1, h.2.1, h.2.2.1⟩ h.2.2.2.2 h.2.2.2.1) hnd
    obtain ⟨e0, e1, en⟩ := hh
    exact altok rfl (nd_one en) (by simp only [e0] <;> rfl) rfl (by simp only [e1] <;> rfl)
  · cases h)

def k137 : List SV → List Entry → Option Out
  | [.one ⟨true, [.val (.int .i64 x0), .val (.int .i64 x1), .val (.int .i64 x2), .ref 0, .ref 1]⟩], [.row false 178 (.pair (.int .i64) (.pair (.str) (.int .i64))) x3, .row false 150 (.pair (.int .i64) (.int .i64)) x4] => some ⟨(.one ⟨false, [(.val (.bool (codeB x0 x1 x2 x3 x4)))]⟩), [(.row false 178 (CTy.pair (CTy.int IntKind.i64) (CTy.pair CTy.str (CTy.int IntKind.i64))) x3), (.row false 150 (CTy.pair (CTy.int IntKind.i64) (CTy.int IntKind.i64)) x4)], [], [tsOk x3]⟩
  | _, _ => none

def kyn : PF Tryz.prog := PF.alt k160 k137 (by
  intro args es o h hnd; unfold k137 at h; split at h
  · rename_i x0 x1 x2 x3 x4
    cases h
    have hnd := nd_fst hnd
    have hh := specCodeB x0 x1 x2 x3 x4 hnd
    obtain ⟨e0, en⟩ := hh
    exact altok rfl (nd_one en) (by simp only [e0] <;> rfl) rfl rfl
  · cases h)

def k13h : List SV → List Entry → Option Out
  | [.one ⟨true, [.val (.int .i64 x0), .val (.int .i64 x1), .val (.int .i64 x2), .ref 0, .ref 1]⟩], [.row false 178 (.pair (.int .i64) (.pair (.str) (.int .i64))) x3, .row false 150 (.pair (.int .i64) (.int .i64)) x4] => some ⟨(.one ⟨false, [(.val (.bool (codeB x0 x1 x2 x3 x4)))]⟩), [(.row false 178 (CTy.pair (CTy.int IntKind.i64) (CTy.pair CTy.str (CTy.int IntKind.i64))) x3), (.row false 150 (CTy.pair (CTy.int IntKind.i64) (CTy.int IntKind.i64)) x4)], [], []⟩
  | _, _ => none

def kyo : PF Tryz.prog := PF.alt k166 k13h (by
  intro args es o h hnd; unfold k13h at h; split at h
  · rename_i x0 x1 x2 x3 x4
    cases h
    have hh := implCodeB x0 x1 x2 x3 x4
    obtain ⟨e0, en⟩ := hh
    exact altok rfl (nd_one en) (by simp only [e0] <;> rfl) rfl rfl
  · cases h)

end Go.SX

namespace Go.SX
open Go.Proofs
set_option maxRecDepth 100000

def termAt (bs : List TM) (k : Nat) : TM := Option.getD bs[k]? ((0 : Int), ByteArray.empty, (0 : Int))
def stAt (ss : List BS3) (k : Nat) : BS3 := Option.getD ss[k]? ((0 : Int), (0 : Int), (0 : Int))
def possAt (bs : List TM) (ss : List BS3) (k : Nat) : Bool := possB (termAt bs k).1 (termAt bs k).2.2 (stAt ss k).1 (stAt ss k).2.1 (stAt ss k).2.2
/-- A memory suits a code. -/
def suitB (v : Int) (bs : List TM) (xs : List Int) (ss : List BS3) : Bool := ((ss.length : Int) == (bs.length : Int)) && (bitsB v xs && (List.range bs.length).all fun k => possAt bs ss k)

def kk8 (y4 : List (Int × (ByteArray × Int))) (y7 : List (Int × (Int × Int))) (b : Nat) : (Unit) → Nat ⊕ (Unit)
  | _ => (bif ((!k2u (Prod.fst ((Option.getD y4[b]? ((0 : Int), ByteArray.empty, (0 : Int))))) (Prod.snd (Prod.snd ((Option.getD y4[b]? ((0 : Int), ByteArray.empty, (0 : Int)))))) (Prod.fst ((Option.getD y7[b]? ((0 : Int), (0 : Int), (0 : Int))))) (Prod.fst (Prod.snd ((Option.getD y7[b]? ((0 : Int), (0 : Int), (0 : Int)))))) (Prod.snd (Prod.snd ((Option.getD y7[b]? ((0 : Int), (0 : Int), (0 : Int)))))))) then (.inl 0) else (.inr ()))

def kes (y1 : Int) (y2 : Int) (y3 : Int) (y4 : List (Int × (ByteArray × Int))) (y5 : List (Int × Int)) (y6 : List Int) (y7 : List (Int × (Int × Int))) (i : Nat) : (Unit) → kaj
  | _ => ((i : Int), y1, y2, y3, y4, y5, y6, y7)

def kqy : kaj → Unit
  | (_, _, _, _, _, _, _, _) => ()

theorem k12p (y1 : Int) (y2 : Int) (y3 : Int) (y4 : List (Int × (ByteArray × Int))) (y5 : List (Int × Int)) (y6 : List Int) (y7 : List (Int × (Int × Int)))  (hn : y4.length ≤ 9223372036854775807) (he : y7.length = y4.length) :
    k49.fin ((0 : Int), y1, y2, y3, y4, y5, y6, y7) = true ∧ k49.res ((0 : Int), y1, y2, y3, y4, y5, y6, y7) = ((walkL (kk8 y4 y7) 1 (List.range y4.length) 0 ()).1, (kes y1 y2 y3 y4 y5 y6 y7) (walkL (kk8 y4 y7) 1 (List.range y4.length) 0 ()).2.1 (walkL (kk8 y4 y7) 1 (List.range y4.length) 0 ()).2.2) := by
  have key := k49.along (kes y1 y2 y3 y4 y5 y6 y7) kqy (kk8 y4 y7) 1 (fun _ _ => True) (List.range y4.length) () (by trivial) (by simp only [k49, kes, List.length_range]; omega) (fun i b a hb hI => ?_) (fun a hI => ?_)
  · exact key
  · obtain ⟨⟩ := a
    obtain ⟨rfl, hlt⟩ := range_get hb
    have hw : IntKind.i64.wrap ((b : Int) + 1) = ((b + 1 : Nat) : Int) := by rw [wrap_i64 (by omega) (by omega)]; omega
    have hdec : ltI (b : Int) (y4.length : Int) = true := ltI_t (by omega)
    have hnn : leI (0 : Int) (b : Int) = true := leI_t (by omega)
    have hltd : ltN b y4.length = true := ltN_t (by omega)
    refine ⟨?_, ?_, ?_, ?_⟩
    · simp [kgn, kej, khj, khg, kl5, kkf, kkx, kl4, kl2, kjo, k49, LT.nds, allT, kes, hdec, hnn, hltd, he]
    · simp [kgn, kej, khj, khg, kl5, kkf, kkx, kl4, kl2, kjo, k49, LT.each, kes, kqy, hw, he]
    · simp only [kgn, kej, khj, khg, kl5, kkf, kkx, kl4, kl2, kjo, k49, LT.fn, kes, kqy, kk8, Int.toNat_natCast, hdec, cond_true]
    · exact fun _ _ => trivial
  · obtain ⟨⟩ := a
    simp [kgn, kej, khj, khg, kl5, kkf, kkx, kl4, kl2, kjo, k49, LT.out, kes, List.length_range]

def k44 (y2 : List (Int × (ByteArray × Int))) (y4 : List (Int × (Int × Int))) (b : Nat) : (Unit) → Nat ⊕ (Unit)
  | _ => (bif ((!kiw (Prod.fst ((Option.getD y2[b]? ((0 : Int), ByteArray.empty, (0 : Int))))) (Prod.snd (Prod.snd ((Option.getD y2[b]? ((0 : Int), ByteArray.empty, (0 : Int)))))) (Prod.fst ((Option.getD y4[b]? ((0 : Int), (0 : Int), (0 : Int))))) (Prod.fst (Prod.snd ((Option.getD y4[b]? ((0 : Int), (0 : Int), (0 : Int)))))) (Prod.snd (Prod.snd ((Option.getD y4[b]? ((0 : Int), (0 : Int), (0 : Int)))))))) then (.inl 0) else (.inr ()))

def k2c (y2 : List (Int × (ByteArray × Int))) (y3 : List Int) (y4 : List (Int × (Int × Int))) (i : Nat) : (Unit) → k1k
  | _ => ((i : Int), (↑(List.length y2) : Int), y2, y3, y4)

def ka4 : k1k → Unit
  | (_, _, _, _, _) => ()

theorem kng (y2 : List (Int × (ByteArray × Int))) (y3 : List Int) (y4 : List (Int × (Int × Int)))  (hn : y2.length ≤ 9223372036854775807) (he : y4.length = y2.length) :
    k14.fin ((0 : Int), (↑(List.length y2) : Int), y2, y3, y4) = true ∧ k14.res ((0 : Int), (↑(List.length y2) : Int), y2, y3, y4) = ((walkL (k44 y2 y4) 1 (List.range y2.length) 0 ()).1, (k2c y2 y3 y4) (walkL (k44 y2 y4) 1 (List.range y2.length) 0 ()).2.1 (walkL (k44 y2 y4) 1 (List.range y2.length) 0 ()).2.2) := by
  have key := k14.along (k2c y2 y3 y4) ka4 (k44 y2 y4) 1 (fun _ _ => True) (List.range y2.length) () (by trivial) (by simp only [k14, k2c, List.length_range]; omega) (fun i b a hb hI => ?_) (fun a hI => ?_)
  · exact key
  · obtain ⟨⟩ := a
    obtain ⟨rfl, hlt⟩ := range_get hb
    have hw : IntKind.i64.wrap ((b : Int) + 1) = ((b + 1 : Nat) : Int) := by rw [wrap_i64 (by omega) (by omega)]; omega
    have hdec : ltI (b : Int) (y2.length : Int) = true := ltI_t (by omega)
    have hnn : leI (0 : Int) (b : Int) = true := leI_t (by omega)
    have hltd : ltN b y2.length = true := ltN_t (by omega)
    refine ⟨?_, ?_, ?_, ?_⟩
    · simp [k2z, k2d, k3x, k33, k46, k41, k45, k3y, k43, k3z, k3j, k14, LT.nds, allT, k2c, hdec, hnn, hltd, he]
    · simp [k2z, k2d, k3x, k33, k46, k41, k45, k3y, k43, k3z, k3j, k14, LT.each, k2c, ka4, hw, he]
    · simp only [k2z, k2d, k3x, k33, k46, k41, k45, k3y, k43, k3z, k3j, k14, LT.fn, k2c, ka4, k44, Int.toNat_natCast, hdec, cond_true]
    · exact fun _ _ => trivial
  · obtain ⟨⟩ := a
    simp [k2z, k2d, k3x, k33, k46, k41, k45, k3y, k43, k3z, k3j, k14, LT.out, k2c, List.length_range]

theorem k17a {α : Type} {g h : α → Bool} : ∀ (l : List α), (∀ k ∈ l, g k = h k) → (l.any fun b => !g b) = !l.all h
  | [], _ => rfl
  | a :: l, hg => by
    rw [List.any_cons, List.all_cons, hg a (by simp), k17a l (fun k hk => hg k (by simp [hk]))]
    cases h a <;> simp

theorem specSuits (i v o : Int) (bs : List TM) (st : List IN) (xs : List Int) (ss : List BS3) (h : (leN xs.length 9223372036854775807 && leN bs.length 9223372036854775807) = true) :
    ksn i v o bs st xs ss = suitB v bs xs ss ∧ kss i v o bs st xs ss = true := by
  simp only [Bool.and_eq_true] at h
  have hn := leN_iff.1 h.2
  by_cases hl : ss.length = bs.length
  · obtain ⟨w1, w2⟩ := k12p i v o bs st xs ss hn hl
    rw [walk_stop (P := fun k => !possAt bs ss k) (j := 0) (fun k => rfl), k17a (g := possAt bs ss) (h := possAt bs ss) _ (fun k _ => rfl)] at w2
    have a0 : kie bs ss = false := by simp [kie, hl]
    simp only [ksn, kss, ku9, a0, w1, w2, h.1, allT, suitB, hl]
    cases bitsB v xs <;> cases (List.range bs.length).all (possAt bs ss) <;> simp [Nat.beq]
  · have hl2 : ¬ ((ss.length : Int) = (bs.length : Int)) := by omega
    have a0 : kie bs ss = true := by simp [kie, hl2]
    have e : ((ss.length : Int) == (bs.length : Int)) = false := by simpa using hl2
    simp [ksn, kss, a0, allT, suitB, e]

theorem implSuits (v : Int) (bs : List TM) (xs : List Int) (ss : List BS3) (h : (leN xs.length 9223372036854775807 && (leN bs.length 9223372036854775807 && blksB bs)) = true) :
    k88 v xs ss bs = suitB v bs xs ss ∧ k82 v xs ss bs = true := by
  simp only [Bool.and_eq_true] at h
  have hn := leN_iff.1 h.2.1
  have hB : ∀ t ∈ bs, blockB t.1 t.2.1 t.2.2 = true := List.all_eq_true.1 h.2.2
  by_cases hl : ss.length = bs.length
  · obtain ⟨w1, w2⟩ := kng bs xs ss hn hl
    rw [walk_stop (P := fun k => !kiw (termAt bs k).1 (termAt bs k).2.2 (stAt ss k).1 (stAt ss k).2.1 (stAt ss k).2.2) (j := 0) (fun k => rfl),
      k17a (g := fun k => kiw (termAt bs k).1 (termAt bs k).2.2 (stAt ss k).1 (stAt ss k).2.1 (stAt ss k).2.2) (h := possAt bs ss) _ (fun k hk => by
        have hk : k < bs.length := List.mem_range.1 hk
        have hg : termAt bs k = bs[k] := by simp only [termAt, List.getElem?_eq_getElem hk]; rfl
        have := hB _ (List.getElem_mem hk)
        rw [← hg] at this
        exact k18c (k14d this).1)] at w2
    have a0 : k3a v xs ss bs = !bitsB v xs := by simp only [k3a, hl]; cases bitsB v xs <;> simp
    simp only [k88, k82, kbh, a0, w1, w2, h.1, allT, suitB, hl]
    cases bitsB v xs <;> cases (List.range bs.length).all (possAt bs ss) <;> simp [Nat.beq]
  · have hl2 : ¬ ((ss.length : Int) = (bs.length : Int)) := by omega
    have a0 : k3a v xs ss bs = true := by simp only [k3a]; cases bitsB v xs <;> simp [hl2]
    have e : ((ss.length : Int) == (bs.length : Int)) = false := by simpa using hl2
    simp [k88, k82, a0, allT, suitB, e, h.1]

def k109 : List SV → List Entry → Option Out
  | [.one ⟨true, [.val (.int .i64 x0), .val (.int .i64 x1), .val (.int .i64 x2), .ref 0, .ref 1]⟩, .one ⟨true, [.ref 2, .ref 3]⟩], [.row false 178 (.pair (.int .i64) (.pair (.str) (.int .i64))) x3, .row false 150 (.pair (.int .i64) (.int .i64)) x4, .row false 2 (.int .i64) x5, .row false 172 (.pair (.int .i64) (.pair (.int .i64) (.int .i64))) x6] => some ⟨(.one ⟨false, [(.val (.bool (suitB x1 x3 x5 x6)))]⟩), [(.row false 178 (CTy.pair (CTy.int IntKind.i64) (CTy.pair CTy.str (CTy.int IntKind.i64))) x3), (.row false 150 (CTy.pair (CTy.int IntKind.i64) (CTy.int IntKind.i64)) x4), (.row false 2 (CTy.int IntKind.i64) x5), (.row false 172 (CTy.pair (CTy.int IntKind.i64) (CTy.pair (CTy.int IntKind.i64) (CTy.int IntKind.i64))) x6)], [], [leN x5.length 9223372036854775807 && leN x3.length 9223372036854775807]⟩
  | _, _ => none

def kw2 : PF Tryz.prog := PF.alt k14v k109 (by
  intro args es o h hnd; unfold k109 at h; split at h
  · rename_i x0 x1 x2 x3 x4 x5 x6
    cases h
    have hnd := nd_fst hnd
    have hh := specSuits x0 x1 x2 x3 x4 x5 x6 hnd
    obtain ⟨e0, en⟩ := hh
    exact altok rfl (nd_one en) (by simp only [e0] <;> rfl) rfl rfl
  · cases h)

def kgq : List SV → List Entry → Option Out
  | [.one ⟨true, [.ref 0, .ref 1]⟩, .one ⟨false, [.val (.int .i64 x0)]⟩, .one ⟨false, [.ref 2]⟩], [.row false 2 (.int .i64) x1, .row false 172 (.pair (.int .i64) (.pair (.int .i64) (.int .i64))) x2, .row false 178 (.pair (.int .i64) (.pair (.str) (.int .i64))) x3] => some ⟨(.one ⟨false, [(.val (.bool (suitB x0 x3 x1 x2)))]⟩), [(.row false 2 (CTy.int IntKind.i64) x1), (.row false 172 (CTy.pair (CTy.int IntKind.i64) (CTy.pair (CTy.int IntKind.i64) (CTy.int IntKind.i64))) x2), (.row false 178 (CTy.pair (CTy.int IntKind.i64) (CTy.pair CTy.str (CTy.int IntKind.i64))) x3)], [], [leN x1.length 9223372036854775807 && (leN x3.length 9223372036854775807 && blksB x3)]⟩
  | _, _ => none

def kbx : PF Tryz.prog := PF.alt kok kgq (by
  intro args es o h hnd; unfold kgq at h; split at h
  · rename_i x0 x1 x2 x3
    cases h
    have hnd := nd_fst hnd
    have hh := implSuits x0 x3 x1 x2 hnd
    obtain ⟨e0, en⟩ := hh
    exact altok rfl (nd_one en) (by simp only [e0] <;> rfl) rfl rfl
  · cases h)

end Go.SX

/- What functions of the program come to, and what that says in plain words: part 2. -/
import Derived.Test.YtbbfgoobcjlooaaGreatDoorNa
import Derived.Test.YtbbfgoobcjlooaaGreatDoorTXh
import Derived.Test.YtbbfgoobcjlooaaGreatDoorProg
set_option linter.unusedSimpArgs false
set_option linter.unusedVariables false
namespace Go.SX
open Go.Proofs
set_option maxRecDepth 100000

abbrev kbq := Int × Int × List (Int × (ByteArray × Int))

def kho (y0 : Int) (y1 : Int) (y2 : List (Int × (ByteArray × Int))) : Int :=
  kg9 (Prod.fst (Prod.snd (Option.getD y2[Int.toNat y0]? ((0 : Int), ByteArray.empty, (0 : Int))))) y1

def kiy (y0 : Int) (y2 : List (Int × (ByteArray × Int))) : Bool :=
  ltI y0 (↑(List.length y2) : Int)

def km7 (y0 : Int) : Bool :=
  leI (0 : Int) y0

def kmu (y0 : Int) (y2 : List (Int × (ByteArray × Int))) : Bool :=
  ltN (Int.toNat y0) (List.length y2)

def kml (y0 : Int) (y1 : Int) (y2 : List (Int × (ByteArray × Int))) : Bool :=
  ltI (kho y0 y1 y2) (0 : Int)

def kgy  : Int :=
  (-1 : Int)

def kmz (y0 : Int) : Int :=
  IntKind.wrap IntKind.i64 (y0 + (1 : Int))

def km4 (y0 : Int) (y1 : Int) (y2 : List (Int × (ByteArray × Int))) : Int :=
  kho y0 y1 y2

def k12x : kbq → List (Nat × SV)
  | (y0, y1, _) => [(5, (.one ⟨false, [(.val (.int IntKind.i64 y0))]⟩)), (0, (.one ⟨false, [(.ref 0)]⟩)), (1, (.one ⟨false, [(.val (.int IntKind.i64 y1))]⟩))]

def k131 : kbq → List (Nat × Entry)
  | (_, _, y2) => [(0, (.row false 175 (CTy.pair (CTy.int IntKind.i64) (CTy.pair CTy.str (CTy.int IntKind.i64))) y2))]

def k12j : Nat → kbq → List (Nat × SV)
  | 0, (_, _, _) => [(4, (.one ⟨false, [(.val (.int IntKind.i64 (kgy)))]⟩))]
  | _, (_, y1, _) => [(1, (.one ⟨false, [(.val (.int IntKind.i64 y1))]⟩))]

def k12n : Nat → kbq → List (Nat × Entry)
  | 0, (_, _, y2) => [(0, (.row false 175 (CTy.pair (CTy.int IntKind.i64) (CTy.pair CTy.str (CTy.int IntKind.i64))) y2))]
  | _, (_, _, y2) => [(0, (.row false 175 (CTy.pair (CTy.int IntKind.i64) (CTy.pair CTy.str (CTy.int IntKind.i64))) y2))]

def kkk : kbq → LT kbq
  | (y0, y1, y2) => .ite (kiy y0 y2) (.need [(km7 y0), (kiy y0 y2), (kmu y0 y2)] (.ite (kml y0 y1 y2) (.ext 0 [(0, 0)]) (.nrm ((kmz y0), (km4 y0 y1 y2), y2) [(0, 0)]))) (.ext 1 [(0, 0)])

def krt (s : St) : Option kbq :=
  (match s.look 5 with
  | some ⟨none, (.one ⟨false, [(.val (.int IntKind.i64 y0))]⟩)⟩ =>
  (match s.look 0 with
  | some ⟨none, (.one ⟨false, [(.ref 0)]⟩)⟩ =>
  (match s.look 1 with
  | some ⟨none, (.one ⟨false, [(.val (.int IntKind.i64 y1))]⟩)⟩ =>
  (match s.ent 0 with
  | some (.row false 175 (CTy.pair (CTy.int IntKind.i64) (CTy.pair CTy.str (CTy.int IntKind.i64))) y2) =>
  some (y0, y1, y2)
  | _ => none)
  | _ => none)
  | _ => none)
  | _ => none)

def k4d : Lp kbq where
  h := ⟨[12, 13, 14, 15, 18, 19, 20, 21, 22, 23, 1, 24, 25, 4, 16, 17, 5], [0], [], []⟩
  JL := k12x
  JE := k131
  XL := k12j
  XE := k12n
  q := fun j => match j with | 0 => .ret | _ => .exit 0
  tags := [0, 1]
  lt := kkk
  fuel := fun (y0, y1, y2) => y0.natAbs + y1.natAbs + y2.length
  fix := fun (_, _, y2) (y0, y1, _) => (y0, y1, y2)
  σ := [(0, 0)]
  rd := krt

theorem k10s : LoopOk Tryz.prog (fun k => Nat.blt k Tryz.f84.ntmps) k4d.F (loopAt Tryz.f84 0) := by
  refine Lp.ok (tbl := [k13d]) (lf := []) hmix k4d (by kernel_rfl) (LOk.nil _) (fun _ => rfl) (fun j _ => by unfold k4d; match j with | 0 => rfl | _ + 1 => rfl) ?_ ?_ ?_ ?_ (fun _ => rfl) ?_
  · intro x; obtain ⟨y0, y1, y2⟩ := x; kernel_rfl
  · intro x; obtain ⟨y0, y1, y2⟩ := x; kernel_rfl
  · intro s x h
    have h : krt s = some x := h
    unfold krt at h
    repeat' split at h
    all_goals cases h
    exact ⟨absS_cons (by assumption) rfl (absS_cons (by assumption) rfl (absS_cons (by assumption) rfl (rfl))), absE_cons rfl (by assumption) rfl (rfl)⟩
  · intro x; obtain ⟨y0, y1, y2⟩ := x; kernel_rfl
  · intro x z; obtain ⟨y0, y1, y2⟩ := x; exact (And.intro (And.intro trivial rfl) trivial)

def ksq (x0 : Int) (x1 : List (Int × ByteArray × Int)) : Int :=
  IntKind.wrap IntKind.i64 (x0 - (↑(List.length x1) : Int))

def ksu (x0 : Int) (x1 : List (Int × ByteArray × Int)) : Int × Int × List (Int × ByteArray × Int) :=
  ((0 : Int), ksq x0 x1, x1)

def kxn (x0 : Int) (x1 : List (Int × ByteArray × Int)) : Int :=
  bif ltI (ksq x0 x1) (0 : Int) then (-1 : Int)
  else
  bif Nat.beq (Prod.fst (Lp.res k4d (ksu x0 x1))) (0 : Nat) then kgy
  else Prod.fst (Prod.snd (Prod.snd (Lp.res k4d (ksu x0 x1))))

def kx2 (x0 : Int) (x1 : List (Int × ByteArray × Int)) : Bool :=
  allT [ltI (ksq x0 x1) (0 : Int) || Lp.fin k4d (ksu x0 x1)]

def k11s : List SV → List Entry → Option Out
  | [.one ⟨false, [.ref 0]⟩, .one ⟨false, [.val (.int .i64 x0)]⟩], [.row false 175 (.pair (.int .i64) (.pair (.str) (.int .i64))) x1] => some ⟨(.one ⟨false, [(.val (.int IntKind.i64 (kxn x0 x1)))]⟩), [(.row false 175 (CTy.pair (CTy.int IntKind.i64) (CTy.pair CTy.str (CTy.int IntKind.i64))) x1)], [], [(kx2 x0 x1)]⟩
  | _, _ => none

def k15q : PF Tryz.prog := PF.ofG Tryz.prog [k13d] [k4d.F] hmix 84 Tryz.f84 Tryz.func84 (LOk.fnT (l := [loopAt Tryz.f84 0]) (by kernel_rfl) (.cons k10s (.nil _))) k11s (by
  intro vs es r h; unfold k11s at h; split at h
  · cases h; kernel_rfl
  · cases h)

def ko8 (x0 : Int) (x1 : List (Int × Int)) : Int :=
  IntKind.wrap IntKind.i64 (x0 - (↑(List.length x1) : Int))

def kp4 (x0 : Int) (x1 : List (Int × Int)) : Int :=
  bif ltI (ko8 x0 x1) (0 : Int) then (-1 : Int) else ko8 x0 x1

def kto : List SV → List Entry → Option Out
  | [.one ⟨false, [.ref 0]⟩, .one ⟨false, [.val (.int .i64 x0)]⟩], [.row false 183 (.pair (.int .i64) (.int .i64)) x1] => some ⟨(.one ⟨false, [(.val (.int IntKind.i64 (kp4 x0 x1)))]⟩), [(.row false 183 (CTy.pair (CTy.int IntKind.i64) (CTy.int IntKind.i64)) x1)], [], []⟩
  | _, _ => none

def kzh : PF Tryz.prog := PF.ofG Tryz.prog [] [] hmix 85 Tryz.f85 Tryz.func85 (fun c _ => LOk.nil c) kto (by
  intro vs es r h; unfold kto at h; split at h
  · cases h; kernel_rfl
  · cases h)

def ka7 (x3 : Int) : Bool :=
  bif x3 == (1 : Int) then x3 == (1 : Int) else bif x3 == (2 : Int) then x3 == (2 : Int) else x3 == (3 : Int)

def kaa (x3 : Int) : Bool :=
  bif x3 == (5 : Int) then x3 == (5 : Int) else x3 == (6 : Int)

def keo (x3 : Int) : Bool :=
  bif x3 == (8 : Int) then x3 == (8 : Int) else x3 == (9 : Int)

def k4j (x3 : Int) (x4 : Int) (x5 : List (Int × ByteArray × Int)) : Int :=
  bif ka7 x3 then (0 : Int)
  else
  bif x3 == (4 : Int) then (1 : Int)
  else
    bif kaa x3 then (2 : Int)
    else
      bif x3 == (7 : Int) then kn4 (Prod.fst (Option.getD x5[Int.toNat x4]? ((0 : Int), ByteArray.empty, (0 : Int))))
      else bif keo x3 then (1 : Int) else (0 : Int)

def k7u (x3 : Int) : Int :=
  bif ka7 x3 then (1 : Int)
  else
  bif x3 == (4 : Int) then (1 : Int)
  else bif kaa x3 then (1 : Int) else bif x3 == (7 : Int) then (1 : Int) else bif keo x3 then (0 : Int) else (0 : Int)

def khd (x3 : Int) (x4 : Int) (x5 : List (Int × ByteArray × Int)) : Bool :=
  allT
  [ka7 x3 || (x3 == (4 : Int) || (kaa x3 || (!x3 == (7 : Int) || leI (0 : Int) x4))),
    ka7 x3 || (x3 == (4 : Int) || (kaa x3 || (!x3 == (7 : Int) || ltI x4 (↑(List.length x5) : Int)))),
    ka7 x3 || (x3 == (4 : Int) || (kaa x3 || (!x3 == (7 : Int) || ltN (Int.toNat x4) (List.length x5))))]

def k109 : List SV → List Entry → Option Out
  | [.one ⟨true, [.val (.int .i64 _x0), .val (.int .i64 _x1), .val (.int .i64 _x2), .ref 0, .ref 1]⟩, .one ⟨true, [.val (.int .i64 x3), .val (.int .i64 x4)]⟩], [.row false 178 (.pair (.int .i64) (.pair (.str) (.int .i64))) x5, .row false 150 (.pair (.int .i64) (.int .i64)) x6] => some ⟨(.tup [⟨false, [(.val (.int IntKind.i64 (k4j x3 x4 x5)))]⟩, ⟨false, [(.val (.int IntKind.i64 (k7u x3)))]⟩]), [(.row false 178 (CTy.pair (CTy.int IntKind.i64) (CTy.pair CTy.str (CTy.int IntKind.i64))) x5), (.row false 150 (CTy.pair (CTy.int IntKind.i64) (CTy.int IntKind.i64)) x6)], [], [(khd x3 x4 x5)]⟩
  | _, _ => none

def kg5 : PF Tryz.prog := PF.ofG Tryz.prog [k14v] [] hmix 189 Tryz.f189 Tryz.func189 (fun c _ => LOk.nil c) k109 (by
  intro vs es r h; unfold k109 at h; split at h
  · cases h; kernel_rfl
  · cases h)

def kh7 (x0 : Int) (x1 : Int) (x2 : Int) (x3 : Int) (x4 : Int) (x5 : List (Int × ByteArray × Int)) : Bool :=
  bif x3 == (1 : Int) then k1u x4 (0 : Int) (1 : Int)
  else
  bif bif x3 == (2 : Int) then x3 == (2 : Int) else x3 == (10 : Int) then k1u x4 (0 : Int) (IntKind.wrap IntKind.i64 (x0 - (1 : Int)))
  else
    bif bif x3 == (3 : Int) then x3 == (3 : Int) else bif x3 == (8 : Int) then x3 == (8 : Int) else x3 == (11 : Int) then
      k1u x4 (0 : Int) (IntKind.wrap IntKind.i64 (x1 - (1 : Int)))
    else
      bif bif x3 == (4 : Int) then x3 == (4 : Int) else bif x3 == (5 : Int) then x3 == (5 : Int) else x3 == (6 : Int) then x4 == (0 : Int)
      else
        bif x3 == (7 : Int) then k1u x4 (0 : Int) (IntKind.wrap IntKind.i64 ((↑(List.length x5) : Int) - (1 : Int)))
        else bif x3 == (9 : Int) then k1u x4 (0 : Int) (IntKind.wrap IntKind.i64 (x2 - (1 : Int))) else false

def k11w : List SV → List Entry → Option Out
  | [.one ⟨true, [.val (.int .i64 x0), .val (.int .i64 x1), .val (.int .i64 x2), .ref 0, .ref 1]⟩, .one ⟨true, [.val (.int .i64 x3), .val (.int .i64 x4)]⟩], [.row false 178 (.pair (.int .i64) (.pair (.str) (.int .i64))) x5, .row false 150 (.pair (.int .i64) (.int .i64)) x6] => some ⟨(.one ⟨false, [(.val (.bool (kh7 x0 x1 x2 x3 x4 x5)))]⟩), [(.row false 178 (CTy.pair (CTy.int IntKind.i64) (CTy.pair CTy.str (CTy.int IntKind.i64))) x5), (.row false 150 (CTy.pair (CTy.int IntKind.i64) (CTy.int IntKind.i64)) x6)], [], []⟩
  | _, _ => none

def kof : PF Tryz.prog := PF.ofG Tryz.prog [ki7] [] hmix 213 Tryz.f213 Tryz.func213 (fun c _ => LOk.nil c) k11w (by
  intro vs es r h; unfold k11w at h; split at h
  · cases h; kernel_rfl
  · cases h)

abbrev k7w := Int × Int × Int × Int × Int × List Int × List (Int × (ByteArray × Int)) × List (Int × Int)

def k3h (y0 : Int) (y7 : List (Int × Int)) : Int × Int :=
  Option.getD y7[Int.toNat y0]? ((0 : Int), (0 : Int))

def kh0 (y0 : Int) (y6 : List (Int × (ByteArray × Int))) (y7 : List (Int × Int)) : Int :=
  k4j (Prod.fst (k3h y0 y7)) (Prod.snd (k3h y0 y7)) y6

def kat (y0 : Int) (y1 : Int) (y6 : List (Int × (ByteArray × Int))) (y7 : List (Int × Int)) : Int :=
  IntKind.wrap IntKind.i64 (IntKind.wrap IntKind.i64 (y1 - kh0 y0 y6 y7) + k7u (Prod.fst (k3h y0 y7)))

def kde (y0 : Int) (y7 : List (Int × Int)) : Bool :=
  ltI y0 (↑(List.length y7) : Int)

def ki9 (y0 : Int) : Bool :=
  leI (0 : Int) y0

def ki3 (y0 : Int) (y7 : List (Int × Int)) : Bool :=
  ltN (Int.toNat y0) (List.length y7)

def ki5 (y0 : Int) (y2 : Int) (y3 : Int) (y4 : Int) (y6 : List (Int × (ByteArray × Int))) (y7 : List (Int × Int)) : Bool :=
  !kh7 y2 y3 y4 (Prod.fst (k3h y0 y7)) (Prod.snd (k3h y0 y7)) y6

def klg (y0 : Int) (y6 : List (Int × (ByteArray × Int))) (y7 : List (Int × Int)) : Bool :=
  khd (Prod.fst (k3h y0 y7)) (Prod.snd (k3h y0 y7)) y6

def klq (y0 : Int) (y1 : Int) (y6 : List (Int × (ByteArray × Int))) (y7 : List (Int × Int)) : Bool :=
  bif ltI y1 (kh0 y0 y6 y7) then true else ltI (40 : Int) (kat y0 y1 y6 y7)

def klo (y0 : Int) (y1 : Int) (y5 : List Int) (y6 : List (Int × (ByteArray × Int))) (y7 : List (Int × Int)) : Bool :=
  leN (List.length y5 + List.length [kat y0 y1 y6 y7]) (9223372036854775807 : Nat)

def klt (y0 : Int) (y1 : Int) (y5 : List Int) (y6 : List (Int × (ByteArray × Int))) (y7 : List (Int × Int)) : Bool :=
  leN ((List.length y5 + List.length [kat y0 y1 y6 y7]) * (8 : Nat)) (140737488355328 : Nat)

def kli (y0 : Int) : Int :=
  IntKind.wrap IntKind.i64 (y0 + (1 : Int))

def kle (y0 : Int) (y1 : Int) (y6 : List (Int × (ByteArray × Int))) (y7 : List (Int × Int)) : Int :=
  kat y0 y1 y6 y7

def kk0 (y0 : Int) (y1 : Int) (y5 : List Int) (y6 : List (Int × (ByteArray × Int))) (y7 : List (Int × Int)) : List Int :=
  y5 ++ [kat y0 y1 y6 y7]

def kzk : k7w → List (Nat × SV)
  | (y0, y1, _, _, _, _, _, _) => [(6, (.one ⟨false, [(.val (.int IntKind.i64 y0))]⟩)), (1, (.one ⟨false, [(.ptr 0 0)]⟩)), (5, (.one ⟨false, [(.val (.int IntKind.i64 y1))]⟩)), (4, (.one ⟨false, [(.ref 1)]⟩))]

def kze : k7w → List (Nat × Entry)
  | (_, _, y2, y3, y4, y5, y6, y7) => [(0, (.box 34 [(.val (.int IntKind.i64 y2)), (.val (.int IntKind.i64 y3)), (.val (.int IntKind.i64 y4)), (.ref 2), (.ref 3)])), (2, (.row false 178 (CTy.pair (CTy.int IntKind.i64) (CTy.pair CTy.str (CTy.int IntKind.i64))) y6)), (3, (.row false 150 (CTy.pair (CTy.int IntKind.i64) (CTy.int IntKind.i64)) y7)), (1, (.row true 2 (CTy.int IntKind.i64) y5))]

def kzc : Nat → k7w → List (Nat × SV)
  | 0, (_, _, _, _, _, _, _, _) => [(2, (.one ⟨false, [(.ref 4)]⟩)), (3, (.one ⟨false, [(.val (.bool false))]⟩))]
  | 1, (_, _, _, _, _, _, _, _) => [(2, (.one ⟨false, [(.ref 4)]⟩)), (3, (.one ⟨false, [(.val (.bool false))]⟩))]
  | _, (_, y1, _, _, _, _, _, _) => [(5, (.one ⟨false, [(.val (.int IntKind.i64 y1))]⟩)), (4, (.one ⟨false, [(.ref 1)]⟩))]

def kz7 : Nat → k7w → List (Nat × Entry)
  | 0, (_, _, y2, y3, y4, y5, y6, y7) => [(0, (.box 34 [(.val (.int IntKind.i64 y2)), (.val (.int IntKind.i64 y3)), (.val (.int IntKind.i64 y4)), (.ref 2), (.ref 3)])), (1, (.row true 2 (CTy.int IntKind.i64) y5)), (2, (.row false 178 (CTy.pair (CTy.int IntKind.i64) (CTy.pair CTy.str (CTy.int IntKind.i64))) y6)), (3, (.row false 150 (CTy.pair (CTy.int IntKind.i64) (CTy.int IntKind.i64)) y7)), (4, (.row true 2 (CTy.int IntKind.i64) []))]
  | 1, (_, _, y2, y3, y4, y5, y6, y7) => [(0, (.box 34 [(.val (.int IntKind.i64 y2)), (.val (.int IntKind.i64 y3)), (.val (.int IntKind.i64 y4)), (.ref 2), (.ref 3)])), (1, (.row true 2 (CTy.int IntKind.i64) y5)), (2, (.row false 178 (CTy.pair (CTy.int IntKind.i64) (CTy.pair CTy.str (CTy.int IntKind.i64))) y6)), (3, (.row false 150 (CTy.pair (CTy.int IntKind.i64) (CTy.int IntKind.i64)) y7)), (4, (.row true 2 (CTy.int IntKind.i64) []))]
  | _, (_, _, y2, y3, y4, y5, y6, y7) => [(0, (.box 34 [(.val (.int IntKind.i64 y2)), (.val (.int IntKind.i64 y3)), (.val (.int IntKind.i64 y4)), (.ref 2), (.ref 3)])), (1, (.row true 2 (CTy.int IntKind.i64) y5)), (2, (.row false 178 (CTy.pair (CTy.int IntKind.i64) (CTy.pair CTy.str (CTy.int IntKind.i64))) y6)), (3, (.row false 150 (CTy.pair (CTy.int IntKind.i64) (CTy.int IntKind.i64)) y7))]

def kh1 : k7w → LT k7w
  | (y0, y1, y2, y3, y4, y5, y6, y7) => .ite (kde y0 y7) (.need [(ki9 y0), (kde y0 y7), (ki3 y0 y7)] (.ite (ki5 y0 y2 y3 y4 y6 y7) (.ext 0 [(0, 0), (1, 1), (2, 2), (3, 3), (4, 896)]) (.need [(ki9 y0), (kde y0 y7), (ki3 y0 y7), (klg y0 y6 y7)] (.ite (klq y0 y1 y6 y7) (.ext 1 [(0, 0), (1, 1), (2, 2), (3, 3), (4, 2368)]) (.need [(klo y0 y1 y5 y6 y7), (klt y0 y1 y5 y6 y7)] (.nrm ((kli y0), (kle y0 y1 y6 y7), y2, y3, y4, (kk0 y0 y1 y5 y6 y7), y6, y7) [(0, 0), (1, 2944), (2, 2), (3, 3)])))))) (.ext 2 [(0, 0), (1, 1), (2, 2), (3, 3)])

def kp1 (s : St) : Option k7w :=
  (match s.look 6 with
  | some ⟨none, (.one ⟨false, [(.val (.int IntKind.i64 y0))]⟩)⟩ =>
  (match s.look 1 with
  | some ⟨none, (.one ⟨false, [(.ptr 192 0)]⟩)⟩ =>
  (match s.look 5 with
  | some ⟨none, (.one ⟨false, [(.val (.int IntKind.i64 y1))]⟩)⟩ =>
  (match s.look 4 with
  | some ⟨none, (.one ⟨false, [(.ref 384)]⟩)⟩ =>
  (match s.ent 192 with
  | some (.box 34 [(.val (.int IntKind.i64 y2)), (.val (.int IntKind.i64 y3)), (.val (.int IntKind.i64 y4)), (.ref 0), (.ref 1)]) =>
  (match s.ent 0 with
  | some (.row false 178 (CTy.pair (CTy.int IntKind.i64) (CTy.pair CTy.str (CTy.int IntKind.i64))) y6) =>
  (match s.ent 1 with
  | some (.row false 150 (CTy.pair (CTy.int IntKind.i64) (CTy.int IntKind.i64)) y7) =>
  (match s.ent 384 with
  | some (.row true 2 (CTy.int IntKind.i64) y5) =>
  some (y0, y1, y2, y3, y4, y5, y6, y7)
  | _ => none)
  | _ => none)
  | _ => none)
  | _ => none)
  | _ => none)
  | _ => none)
  | _ => none)
  | _ => none)

def k2o : Lp k7w where
  h := ⟨[10, 11, 12, 13, 14, 17, 18, 19, 20, 21, 22, 23, 24, 2, 3, 26, 27, 28, 29, 30, 31, 32, 25, 33, 34, 7, 8, 35, 36, 37, 38, 39, 40, 41, 42, 43, 44, 45, 46, 47, 48, 49, 50, 5, 51, 52, 53, 54, 4, 15, 16, 6], [0, 2, 3], [1], [4]⟩
  JL := kzk
  JE := kze
  XL := kzc
  XE := kz7
  q := fun j => match j with | 0 => .ret | 1 => .ret | _ => .exit 0
  tags := [0, 1, 2]
  lt := kh1
  fuel := fun (y0, y1, y2, y3, y4, y5, y6, y7) => y0.natAbs + y1.natAbs + y2.natAbs + y3.natAbs + y4.natAbs + y5.length + y6.length + y7.length
  fix := fun (_, _, y2, y3, y4, _, y6, y7) (y0, y1, _, _, _, y5, _, _) => (y0, y1, y2, y3, y4, y5, y6, y7)
  σ := [(0, 192), (2, 0), (3, 1), (1, 384)]
  rd := kp1

theorem ky9 : LoopOk Tryz.prog (fun k => Nat.blt k Tryz.f155.ntmps) k2o.F (loopAt Tryz.f155 0) := by
  refine Lp.ok (tbl := [kg5, PF.lend kg5, PF.fz kg5, kof, PF.lend kof, PF.fz kof]) (lf := []) hmix k2o (by kernel_rfl) (LOk.nil _) (fun _ => rfl) (fun j _ => by unfold k2o; match j with | 0 => rfl | 1 => rfl | _ + 2 => rfl) ?_ ?_ ?_ ?_ (fun _ => rfl) ?_
  · intro x; obtain ⟨y0, y1, y2, y3, y4, y5, y6, y7⟩ := x; kernel_rfl
  · intro x; obtain ⟨y0, y1, y2, y3, y4, y5, y6, y7⟩ := x; kernel_rfl
  · intro s x h
    have h : kp1 s = some x := h
    unfold kp1 at h
    repeat' split at h
    all_goals cases h
    exact ⟨absS_cons (by assumption) rfl (absS_cons (by assumption) rfl (absS_cons (by assumption) rfl (absS_cons (by assumption) rfl (rfl)))), absE_cons rfl (by assumption) rfl (absE_cons rfl (by assumption) rfl (absE_cons rfl (by assumption) rfl (absE_cons rfl (by assumption) rfl (rfl))))⟩
  · intro x; obtain ⟨y0, y1, y2, y3, y4, y5, y6, y7⟩ := x; kernel_rfl
  · intro x z; obtain ⟨y0, y1, y2, y3, y4, y5, y6, y7⟩ := x; exact (And.intro (And.intro trivial (And.intro trivial rfl)) trivial)

def kkc (x0 : Int) (x1 : Int) (x2 : Int) (x3 : List (Int × ByteArray × Int)) (x4 : List (Int × Int)) : Int × Int × Int × Int × Int × List Int × List (Int × ByteArray × Int) × List (Int × Int) :=
  ((0 : Int), (0 : Int), x0, x1, x2, [], x3, x4)

def ks2 (x0 : Int) (x1 : Int) (x2 : Int) (x3 : List (Int × ByteArray × Int)) (x4 : List (Int × Int)) : Bool :=
  Nat.beq (Prod.fst (Lp.res k2o (kkc x0 x1 x2 x3 x4))) (0 : Nat)

def kse (x0 : Int) (x1 : Int) (x2 : Int) (x3 : List (Int × ByteArray × Int)) (x4 : List (Int × Int)) : Bool :=
  Nat.beq (Prod.fst (Lp.res k2o (kkc x0 x1 x2 x3 x4))) (1 : Nat)

def krq (x0 : Int) (x1 : Int) (x2 : Int) (x3 : List (Int × ByteArray × Int)) (x4 : List (Int × Int)) : Int × Int × Int × Int × List Int × List (Int × ByteArray × Int) × List (Int × Int) :=
  Prod.snd (Prod.snd (Lp.res k2o (kkc x0 x1 x2 x3 x4)))

def kpm (x0 : Int) (x1 : Int) (x2 : Int) (x3 : List (Int × ByteArray × Int)) (x4 : List (Int × Int)) : Bool :=
  bif ks2 x0 x1 x2 x3 x4 then false
  else bif kse x0 x1 x2 x3 x4 then false else Prod.fst (krq x0 x1 x2 x3 x4) == (0 : Int)

def kt8 (x0 : Int) (x1 : Int) (x2 : Int) (x3 : List (Int × ByteArray × Int)) (x4 : List (Int × Int)) : List Int :=
  bif ks2 x0 x1 x2 x3 x4 then []
  else bif kse x0 x1 x2 x3 x4 then [] else Prod.fst (Prod.snd (Prod.snd (Prod.snd (Prod.snd (krq x0 x1 x2 x3 x4)))))

def kpk (x0 : Int) (x1 : Int) (x2 : Int) (x3 : List (Int × ByteArray × Int)) (x4 : List (Int × Int)) : Bool :=
  allT [Lp.fin k2o (kkc x0 x1 x2 x3 x4)]

def kxy : List SV → List Entry → Option Out
  | [.one ⟨true, [.val (.int .i64 x0), .val (.int .i64 x1), .val (.int .i64 x2), .ref 0, .ref 1]⟩], [.row false 178 (.pair (.int .i64) (.pair (.str) (.int .i64))) x3, .row false 150 (.pair (.int .i64) (.int .i64)) x4] => some ⟨(.tup [⟨false, [(.ref 2)]⟩, ⟨false, [(.val (.bool (kpm x0 x1 x2 x3 x4)))]⟩]), [(.row false 178 (CTy.pair (CTy.int IntKind.i64) (CTy.pair CTy.str (CTy.int IntKind.i64))) x3), (.row false 150 (CTy.pair (CTy.int IntKind.i64) (CTy.int IntKind.i64)) x4)], [(.row true 2 (CTy.int IntKind.i64) (kt8 x0 x1 x2 x3 x4))], [(kpk x0 x1 x2 x3 x4)]⟩
  | _, _ => none

def kgw : PF Tryz.prog := PF.ofG Tryz.prog [kg5, PF.lend kg5, PF.fz kg5, kof, PF.lend kof, PF.fz kof] [k2o.F] hmix 155 Tryz.f155 Tryz.func155 (LOk.fnT (l := [loopAt Tryz.f155 0]) (by kernel_rfl) (.cons ky9 (.nil _))) kxy (by
  intro vs es r h; unfold kxy at h; split at h
  · cases h; kernel_rfl
  · cases h)

abbrev kcr := Int × Int × Int × Int × List (Int × (ByteArray × Int)) × List (Int × Int)

def kbr (y0 : Int) (y4 : List (Int × (ByteArray × Int))) : Int × ByteArray × Int :=
  Option.getD y4[Int.toNat y0]? ((0 : Int), ByteArray.empty, (0 : Int))

def kkn (y0 : Int) (y4 : List (Int × (ByteArray × Int))) : Bool :=
  ltI y0 (↑(List.length y4) : Int)

def kqm (y0 : Int) : Bool :=
  leI (0 : Int) y0

def kr8 (y0 : Int) (y4 : List (Int × (ByteArray × Int))) : Bool :=
  ltN (Int.toNat y0) (List.length y4)

def kqq (y0 : Int) (y4 : List (Int × (ByteArray × Int))) : Bool :=
  leN (ByteArray.size (Prod.fst (Prod.snd (kbr y0 y4)))) (9223372036854775807 : Nat)

def knu (y0 : Int) (y4 : List (Int × (ByteArray × Int))) : Bool :=
  !blockB (Prod.fst (kbr y0 y4)) (Prod.fst (Prod.snd (kbr y0 y4))) (Prod.snd (Prod.snd (kbr y0 y4)))

def kr6 (y0 : Int) : Int :=
  IntKind.wrap IntKind.i64 (y0 + (1 : Int))

def k142 : kcr → List (Nat × SV)
  | (y0, _, _, _, _, _) => [(3, (.one ⟨false, [(.val (.int IntKind.i64 y0))]⟩)), (1, (.one ⟨false, [(.ptr 0 0)]⟩))]

def k13u : kcr → List (Nat × Entry)
  | (_, y1, y2, y3, y4, y5) => [(0, (.box 34 [(.val (.int IntKind.i64 y1)), (.val (.int IntKind.i64 y2)), (.val (.int IntKind.i64 y3)), (.ref 1), (.ref 2)])), (1, (.row false 178 (CTy.pair (CTy.int IntKind.i64) (CTy.pair CTy.str (CTy.int IntKind.i64))) y4)), (2, (.row false 150 (CTy.pair (CTy.int IntKind.i64) (CTy.int IntKind.i64)) y5))]

def k13x : Nat → kcr → List (Nat × SV)
  | 0, (_, _, _, _, _, _) => [(2, (.one ⟨false, [(.val (.bool false))]⟩))]
  | _, (_, _, _, _, _, _) => []

def k146 : Nat → kcr → List (Nat × Entry)
  | 0, (_, y1, y2, y3, y4, y5) => [(0, (.box 34 [(.val (.int IntKind.i64 y1)), (.val (.int IntKind.i64 y2)), (.val (.int IntKind.i64 y3)), (.ref 1), (.ref 2)])), (1, (.row false 178 (CTy.pair (CTy.int IntKind.i64) (CTy.pair CTy.str (CTy.int IntKind.i64))) y4)), (2, (.row false 150 (CTy.pair (CTy.int IntKind.i64) (CTy.int IntKind.i64)) y5))]
  | _, (_, y1, y2, y3, y4, y5) => [(0, (.box 34 [(.val (.int IntKind.i64 y1)), (.val (.int IntKind.i64 y2)), (.val (.int IntKind.i64 y3)), (.ref 1), (.ref 2)])), (1, (.row false 178 (CTy.pair (CTy.int IntKind.i64) (CTy.pair CTy.str (CTy.int IntKind.i64))) y4)), (2, (.row false 150 (CTy.pair (CTy.int IntKind.i64) (CTy.int IntKind.i64)) y5))]

def kmk : kcr → LT kcr
  | (y0, y1, y2, y3, y4, y5) => .ite (kkn y0 y4) (.need [(kqm y0), (kkn y0 y4), (kr8 y0 y4), (kqq y0 y4)] (.ite (knu y0 y4) (.ext 0 [(0, 0), (1, 1), (2, 2)]) (.nrm ((kr6 y0), y1, y2, y3, y4, y5) [(0, 0), (1, 1), (2, 2)]))) (.ext 1 [(0, 0), (1, 1), (2, 2)])

def ktd (s : St) : Option kcr :=
  (match s.look 3 with
  | some ⟨none, (.one ⟨false, [(.val (.int IntKind.i64 y0))]⟩)⟩ =>
  (match s.look 1 with
  | some ⟨none, (.one ⟨false, [(.ptr 192 0)]⟩)⟩ =>
  (match s.ent 192 with
  | some (.box 34 [(.val (.int IntKind.i64 y1)), (.val (.int IntKind.i64 y2)), (.val (.int IntKind.i64 y3)), (.ref 0), (.ref 1)]) =>
  (match s.ent 0 with
  | some (.row false 178 (CTy.pair (CTy.int IntKind.i64) (CTy.pair CTy.str (CTy.int IntKind.i64))) y4) =>
  (match s.ent 1 with
  | some (.row false 150 (CTy.pair (CTy.int IntKind.i64) (CTy.int IntKind.i64)) y5) =>
  some (y0, y1, y2, y3, y4, y5)
  | _ => none)
  | _ => none)
  | _ => none)
  | _ => none)
  | _ => none)

def k6g : Lp kcr where
  h := ⟨[34, 35, 36, 37, 38, 41, 42, 43, 44, 45, 46, 47, 2, 39, 40, 3], [0, 1, 2], [], []⟩
  JL := k142
  JE := k13u
  XL := k13x
  XE := k146
  q := fun j => match j with | 0 => .ret | _ => .exit 0
  tags := [0, 1]
  lt := kmk
  fuel := fun (y0, y1, y2, y3, y4, y5) => y0.natAbs + y1.natAbs + y2.natAbs + y3.natAbs + y4.length + y5.length
  fix := fun (_, y1, y2, y3, y4, y5) (y0, _, _, _, _, _) => (y0, y1, y2, y3, y4, y5)
  σ := [(0, 192), (1, 0), (2, 1)]
  rd := ktd

theorem k110 : LoopOk Tryz.prog (fun k => Nat.blt k Tryz.f87.ntmps) k6g.F (loopAt Tryz.f87 0) := by
  refine Lp.ok (tbl := [ki7, k114, kgw, PF.lend kgw, PF.fz kgw]) (lf := []) hmix k6g (by kernel_rfl) (LOk.nil _) (fun _ => rfl) (fun j _ => by unfold k6g; match j with | 0 => rfl | _ + 1 => rfl) ?_ ?_ ?_ ?_ (fun _ => rfl) ?_
  · intro x; obtain ⟨y0, y1, y2, y3, y4, y5⟩ := x; kernel_rfl
  · intro x; obtain ⟨y0, y1, y2, y3, y4, y5⟩ := x; kernel_rfl
  · intro s x h
    have h : ktd s = some x := h
    unfold ktd at h
    repeat' split at h
    all_goals cases h
    exact ⟨absS_cons (by assumption) rfl (absS_cons (by assumption) rfl (rfl)), absE_cons rfl (by assumption) rfl (absE_cons rfl (by assumption) rfl (absE_cons rfl (by assumption) rfl (rfl)))⟩
  · intro x; obtain ⟨y0, y1, y2, y3, y4, y5⟩ := x; kernel_rfl
  · intro x z; obtain ⟨y0, y1, y2, y3, y4, y5⟩ := x; exact (And.intro (And.intro trivial rfl) trivial)

def klx (x0 : Int) (x1 : Int) (x2 : Int) (x3 : List (Int × ByteArray × Int)) (x4 : List (Int × Int)) : Bool :=
  bif
    bif
        bif bif !k1u x0 (0 : Int) (20 : Int) then true else !k1u x1 (0 : Int) (20 : Int) then true
        else !k1u x2 (0 : Int) (20 : Int) then
      true
    else ltI (2000 : Int) (↑(List.length x3) : Int) then
  true
  else ltI (2000 : Int) (↑(List.length x4) : Int)

def kx1 (x0 : Int) (x1 : Int) (x2 : Int) (x3 : List (Int × ByteArray × Int)) (x4 : List (Int × Int)) : Int × Int × Int × Int × List (Int × ByteArray × Int) × List (Int × Int) :=
  ((0 : Int), x0, x1, x2, x3, x4)

def kxq (x0 : Int) (x1 : Int) (x2 : Int) (x3 : List (Int × ByteArray × Int)) (x4 : List (Int × Int)) : Bool :=
  Nat.beq (Prod.fst (Lp.res k6g (kx1 x0 x1 x2 x3 x4))) (0 : Nat)

def kz1 (x0 : Int) (x1 : Int) (x2 : Int) (x3 : List (Int × ByteArray × Int)) (x4 : List (Int × Int)) : Bool :=
  bif klx x0 x1 x2 x3 x4 then false else bif kxq x0 x1 x2 x3 x4 then false else kpm x0 x1 x2 x3 x4

def kyt (x0 : Int) (x1 : Int) (x2 : Int) (x3 : List (Int × ByteArray × Int)) (x4 : List (Int × Int)) : Bool :=
  allT
  [klx x0 x1 x2 x3 x4 || Lp.fin k6g (kx1 x0 x1 x2 x3 x4),
    klx x0 x1 x2 x3 x4 || (kxq x0 x1 x2 x3 x4 || kpk x0 x1 x2 x3 x4)]

def k13e : List SV → List Entry → Option Out
  | [.one ⟨true, [.val (.int .i64 x0), .val (.int .i64 x1), .val (.int .i64 x2), .ref 0, .ref 1]⟩], [.row false 178 (.pair (.int .i64) (.pair (.str) (.int .i64))) x3, .row false 150 (.pair (.int .i64) (.int .i64)) x4] => some ⟨(.one ⟨false, [(.val (.bool (kz1 x0 x1 x2 x3 x4)))]⟩), [(.row false 178 (CTy.pair (CTy.int IntKind.i64) (CTy.pair CTy.str (CTy.int IntKind.i64))) x3), (.row false 150 (CTy.pair (CTy.int IntKind.i64) (CTy.int IntKind.i64)) x4)], [], [(kyt x0 x1 x2 x3 x4)]⟩
  | _, _ => none

def k165 : PF Tryz.prog := PF.ofG Tryz.prog [ki7, k114, kgw, PF.lend kgw, PF.fz kgw] [k6g.F] hmix 87 Tryz.f87 Tryz.func87 (LOk.fnT (l := [loopAt Tryz.f87 0]) (by kernel_rfl) (.cons k110 (.nil _))) k13e (by
  intro vs es r h; unfold k13e at h; split at h
  · cases h; kernel_rfl
  · cases h)

abbrev kbs := Int × List (Int × (ByteArray × Int)) × List (Int × (ByteArray × Int))

def kfh (y0 : Int) (y1 : List (Int × (ByteArray × Int))) : Int × ByteArray × Int :=
  Option.getD y1[Int.toNat y0]? ((0 : Int), ByteArray.empty, (0 : Int))

def kiz (y0 : Int) (y1 : List (Int × (ByteArray × Int))) : Bool :=
  ltI y0 (↑(List.length y1) : Int)

def kix (y0 : Int) : Bool :=
  leI (0 : Int) y0

def kmg (y0 : Int) (y1 : List (Int × (ByteArray × Int))) : Bool :=
  ltN (Int.toNat y0) (List.length y1)

def kmt (y0 : Int) (y2 : List (Int × (ByteArray × Int))) : Bool :=
  ltI y0 (↑(List.length y2) : Int)

def kmp (y0 : Int) (y2 : List (Int × (ByteArray × Int))) : Bool :=
  ltN (Int.toNat y0) (List.length y2)

def km5 (y0 : Int) : Int :=
  IntKind.wrap IntKind.i64 (y0 + (1 : Int))

def km6 (y0 : Int) (y1 : List (Int × (ByteArray × Int))) (y2 : List (Int × (ByteArray × Int))) : List (Int × (ByteArray × Int)) :=
  List.set y2 (Int.toNat y0)
  (Prod.fst (kfh y0 y1), Prod.fst (Prod.snd (kfh y0 y1)), Prod.snd (Prod.snd (kfh y0 y1)))

def k12v : kbs → List (Nat × SV)
  | (y0, _, _) => [(4, (.one ⟨false, [(.val (.int IntKind.i64 y0))]⟩)), (0, (.one ⟨false, [(.ref 0)]⟩)), (3, (.one ⟨false, [(.ref 1)]⟩))]

def k12g : kbs → List (Nat × Entry)
  | (_, y1, y2) => [(0, (.row false 175 (CTy.pair (CTy.int IntKind.i64) (CTy.pair CTy.str (CTy.int IntKind.i64))) y1)), (1, (.row true 178 (CTy.pair (CTy.int IntKind.i64) (CTy.pair CTy.str (CTy.int IntKind.i64))) y2))]

def k132 : Nat → kbs → List (Nat × SV)
  | _, (_, _, _) => []

def k12w : Nat → kbs → List (Nat × Entry)
  | _, (_, y1, y2) => [(0, (.row false 175 (CTy.pair (CTy.int IntKind.i64) (CTy.pair CTy.str (CTy.int IntKind.i64))) y1)), (1, (.row true 178 (CTy.pair (CTy.int IntKind.i64) (CTy.pair CTy.str (CTy.int IntKind.i64))) y2))]

def kk4 : kbs → LT kbs
  | (y0, y1, y2) => .ite (kiz y0 y1) (.need [(kix y0), (kiz y0 y1), (kmg y0 y1), (kix y0), (kmt y0 y2), (kmp y0 y2)] (.nrm ((km5 y0), y1, (km6 y0 y1 y2)) [(0, 0), (1, 1)])) (.ext 0 [(0, 0), (1, 1)])

def krn (s : St) : Option kbs :=
  (match s.look 4 with
  | some ⟨none, (.one ⟨false, [(.val (.int IntKind.i64 y0))]⟩)⟩ =>
  (match s.look 0 with
  | some ⟨none, (.one ⟨false, [(.ref 0)]⟩)⟩ =>
  (match s.look 3 with
  | some ⟨none, (.one ⟨false, [(.ref 320)]⟩)⟩ =>
  (match s.ent 0 with
  | some (.row false 175 (CTy.pair (CTy.int IntKind.i64) (CTy.pair CTy.str (CTy.int IntKind.i64))) y1) =>
  (match s.ent 320 with
  | some (.row true 178 (CTy.pair (CTy.int IntKind.i64) (CTy.pair CTy.str (CTy.int IntKind.i64))) y2) =>
  some (y0, y1, y2)
  | _ => none)
  | _ => none)
  | _ => none)
  | _ => none)
  | _ => none)

def k6e : Lp kbs where
  h := ⟨[8, 9, 10, 11, 14, 15, 16, 17, 18, 19, 20, 21, 12, 13, 4], [0, 1], [], []⟩
  JL := k12v
  JE := k12g
  XL := k132
  XE := k12w
  q := fun j => match j with | _ => .exit 0
  tags := [0]
  lt := kk4
  fuel := fun (y0, y1, y2) => y0.natAbs + y1.length + y2.length
  fix := fun (_, y1, _) (y0, _, y2) => (y0, y1, y2)
  σ := [(0, 0), (1, 320)]
  rd := krn

theorem k10l : LoopOk Tryz.prog (fun k => Nat.blt k Tryz.f90.ntmps) k6e.F (loopAt Tryz.f90 0) := by
  refine Lp.ok (tbl := [k13n]) (lf := []) hmix k6e (by kernel_rfl) (LOk.nil _) (fun _ => rfl) (fun _ _ => rfl) ?_ ?_ ?_ ?_ (fun _ => rfl) ?_
  · intro x; obtain ⟨y0, y1, y2⟩ := x; kernel_rfl
  · intro x; obtain ⟨y0, y1, y2⟩ := x; kernel_rfl
  · intro s x h
    have h : krn s = some x := h
    unfold krn at h
    repeat' split at h
    all_goals cases h
    exact ⟨absS_cons (by assumption) rfl (absS_cons (by assumption) rfl (absS_cons (by assumption) rfl (rfl))), absE_cons rfl (by assumption) rfl (absE_cons rfl (by assumption) rfl (rfl))⟩
  · intro x; obtain ⟨y0, y1, y2⟩ := x; kernel_rfl
  · intro x z; obtain ⟨y0, y1, y2⟩ := x; exact (And.intro rfl trivial)

def ksl (x0 : List (Int × ByteArray × Int)) : Int × List (Int × ByteArray × Int) × List (Int × ByteArray × Int) :=
  ((0 : Int), x0, List.replicate (Int.toNat (↑(List.length x0) : Int)) ((0 : Int), { data := #[] }, (0 : Int)))

def kty (x0 : List (Int × ByteArray × Int)) : List (Int × (ByteArray × Int)) :=
  Prod.snd (Prod.snd (Prod.snd (Lp.res k6e (ksl x0))))

def ktr (x0 : List (Int × ByteArray × Int)) : Bool :=
  allT
  [leI (0 : Int) (↑(List.length x0) : Int), leI (↑(List.length x0) : Int) (↑(List.length x0) : Int),
    leI ((↑(32 : Nat) : Int) * (↑(List.length x0) : Int)) (281474976710656 : Int), leI (↑(List.length x0) : Int) (9223372036854775807 : Int),
    Lp.fin k6e (ksl x0)]

def k120 : List SV → List Entry → Option Out
  | [.one ⟨false, [.ref 0]⟩], [.row false 175 (.pair (.int .i64) (.pair (.str) (.int .i64))) x0] => some ⟨(.one ⟨false, [(.ref 1)]⟩), [(.row false 175 (CTy.pair (CTy.int IntKind.i64) (CTy.pair CTy.str (CTy.int IntKind.i64))) x0)], [(.row true 178 (CTy.pair (CTy.int IntKind.i64) (CTy.pair CTy.str (CTy.int IntKind.i64))) (kty x0))], [(ktr x0)]⟩
  | _, _ => none

def k15k : PF Tryz.prog := PF.ofG Tryz.prog [k13n] [k6e.F] hmix 90 Tryz.f90 Tryz.func90 (LOk.fnT (l := [loopAt Tryz.f90 0]) (by kernel_rfl) (.cons k10l (.nil _))) k120 (by
  intro vs es r h; unfold k120 at h; split at h
  · cases h; kernel_rfl
  · cases h)

def kuc : List SV → List Entry → Option Out
  | [.one ⟨true, [.val (.int .i64 x0), .val (.int .i64 x1)]⟩], [] => some ⟨(.one ⟨true, [(.val (.int IntKind.i64 x0)), (.val (.int IntKind.i64 x1))]⟩), [], [], []⟩
  | _, _ => none

def ku4 : PF Tryz.prog := PF.ofG Tryz.prog [] [] hmix 157 Tryz.f157 Tryz.func157 (fun c _ => LOk.nil c) kuc (by
  intro vs es r h; unfold kuc at h; split at h
  · cases h; kernel_rfl
  · cases h)

abbrev k4k := Int × List (Int × Int) × List (Int × Int)

def kb8 (y0 : Int) (y1 : List (Int × Int)) : Int × Int :=
  Option.getD y1[Int.toNat y0]? ((0 : Int), (0 : Int))

def kbz (y0 : Int) (y1 : List (Int × Int)) : Bool :=
  ltI y0 (↑(List.length y1) : Int)

def kc2 (y0 : Int) : Bool :=
  leI (0 : Int) y0

def kej (y0 : Int) (y1 : List (Int × Int)) : Bool :=
  ltN (Int.toNat y0) (List.length y1)

def ked (y0 : Int) (y2 : List (Int × Int)) : Bool :=
  ltI y0 (↑(List.length y2) : Int)

def ken (y0 : Int) (y2 : List (Int × Int)) : Bool :=
  ltN (Int.toNat y0) (List.length y2)

def keu (y0 : Int) : Int :=
  IntKind.wrap IntKind.i64 (y0 + (1 : Int))

def ke8 (y0 : Int) (y1 : List (Int × Int)) (y2 : List (Int × Int)) : List (Int × Int) :=
  List.set y2 (Int.toNat y0) (Prod.fst (kb8 y0 y1), Prod.snd (kb8 y0 y1))

def kwe : k4k → List (Nat × SV)
  | (y0, _, _) => [(4, (.one ⟨false, [(.val (.int IntKind.i64 y0))]⟩)), (0, (.one ⟨false, [(.ref 0)]⟩)), (3, (.one ⟨false, [(.ref 1)]⟩))]

def kwh : k4k → List (Nat × Entry)
  | (_, y1, y2) => [(0, (.row false 183 (CTy.pair (CTy.int IntKind.i64) (CTy.int IntKind.i64)) y1)), (1, (.row true 150 (CTy.pair (CTy.int IntKind.i64) (CTy.int IntKind.i64)) y2))]

def kwj : Nat → k4k → List (Nat × SV)
  | _, (_, _, _) => []

def kwl : Nat → k4k → List (Nat × Entry)
  | _, (_, y1, y2) => [(0, (.row false 183 (CTy.pair (CTy.int IntKind.i64) (CTy.int IntKind.i64)) y1)), (1, (.row true 150 (CTy.pair (CTy.int IntKind.i64) (CTy.int IntKind.i64)) y2))]

def kdj : k4k → LT k4k
  | (y0, y1, y2) => .ite (kbz y0 y1) (.need [(kc2 y0), (kbz y0 y1), (kej y0 y1), (kc2 y0), (ked y0 y2), (ken y0 y2)] (.nrm ((keu y0), y1, (ke8 y0 y1 y2)) [(0, 0), (1, 1)])) (.ext 0 [(0, 0), (1, 1)])

def kl3 (s : St) : Option k4k :=
  (match s.look 4 with
  | some ⟨none, (.one ⟨false, [(.val (.int IntKind.i64 y0))]⟩)⟩ =>
  (match s.look 0 with
  | some ⟨none, (.one ⟨false, [(.ref 0)]⟩)⟩ =>
  (match s.look 3 with
  | some ⟨none, (.one ⟨false, [(.ref 320)]⟩)⟩ =>
  (match s.ent 0 with
  | some (.row false 183 (CTy.pair (CTy.int IntKind.i64) (CTy.int IntKind.i64)) y1) =>
  (match s.ent 320 with
  | some (.row true 150 (CTy.pair (CTy.int IntKind.i64) (CTy.int IntKind.i64)) y2) =>
  some (y0, y1, y2)
  | _ => none)
  | _ => none)
  | _ => none)
  | _ => none)
  | _ => none)

def k2m : Lp k4k where
  h := ⟨[8, 9, 10, 11, 14, 15, 16, 17, 18, 19, 20, 21, 12, 13, 4], [0, 1], [], []⟩
  JL := kwe
  JE := kwh
  XL := kwj
  XE := kwl
  q := fun j => match j with | _ => .exit 0
  tags := [0]
  lt := kdj
  fuel := fun (y0, y1, y2) => y0.natAbs + y1.length + y2.length
  fix := fun (_, y1, _) (y0, _, y2) => (y0, y1, y2)
  σ := [(0, 0), (1, 320)]
  rd := kl3

theorem kv2 : LoopOk Tryz.prog (fun k => Nat.blt k Tryz.f91.ntmps) k2m.F (loopAt Tryz.f91 0) := by
  refine Lp.ok (tbl := [ku4]) (lf := []) hmix k2m (by kernel_rfl) (LOk.nil _) (fun _ => rfl) (fun _ _ => rfl) ?_ ?_ ?_ ?_ (fun _ => rfl) ?_
  · intro x; obtain ⟨y0, y1, y2⟩ := x; kernel_rfl
  · intro x; obtain ⟨y0, y1, y2⟩ := x; kernel_rfl
  · intro s x h
    have h : kl3 s = some x := h
    unfold kl3 at h
    repeat' split at h
    all_goals cases h
    exact ⟨absS_cons (by assumption) rfl (absS_cons (by assumption) rfl (absS_cons (by assumption) rfl (rfl))), absE_cons rfl (by assumption) rfl (absE_cons rfl (by assumption) rfl (rfl))⟩
  · intro x; obtain ⟨y0, y1, y2⟩ := x; kernel_rfl
  · intro x z; obtain ⟨y0, y1, y2⟩ := x; exact (And.intro rfl trivial)

def kj5 (x0 : List (Int × Int)) : Int × List (Int × Int) × List (Int × Int) :=
  ((0 : Int), x0, List.replicate (Int.toNat (↑(List.length x0) : Int)) ((0 : Int), (0 : Int)))

def kjw (x0 : List (Int × Int)) : List (Int × Int) :=
  Prod.snd (Prod.snd (Prod.snd (Lp.res k2m (kj5 x0))))

def kk1 (x0 : List (Int × Int)) : Bool :=
  allT
  [leI (0 : Int) (↑(List.length x0) : Int), leI (↑(List.length x0) : Int) (↑(List.length x0) : Int),
    leI ((↑(16 : Nat) : Int) * (↑(List.length x0) : Int)) (281474976710656 : Int), leI (↑(List.length x0) : Int) (9223372036854775807 : Int),
    Lp.fin k2m (kj5 x0)]

def ktp : List SV → List Entry → Option Out
  | [.one ⟨false, [.ref 0]⟩], [.row false 183 (.pair (.int .i64) (.int .i64)) x0] => some ⟨(.one ⟨false, [(.ref 1)]⟩), [(.row false 183 (CTy.pair (CTy.int IntKind.i64) (CTy.int IntKind.i64)) x0)], [(.row true 150 (CTy.pair (CTy.int IntKind.i64) (CTy.int IntKind.i64)) (kjw x0))], [(kk1 x0)]⟩
  | _, _ => none

def kzt : PF Tryz.prog := PF.ofG Tryz.prog [ku4] [k2m.F] hmix 91 Tryz.f91 Tryz.func91 (LOk.fnT (l := [loopAt Tryz.f91 0]) (by kernel_rfl) (.cons kv2 (.nil _))) ktp (by
  intro vs es r h; unfold ktp at h; split at h
  · cases h; kernel_rfl
  · cases h)

def k152 (x0 : Int) (x1 : ByteArray) (x2 : Int) : Bool :=
  !blockB x0 x1 x2

def k106 : List SV → List Entry → Option Out
  | [.one ⟨true, [.val (.int .i64 x0), .val (.string x1), .val (.int .i64 x2)]⟩], [] => some ⟨(.one ⟨false, [(.val (.bool (k152 x0 x1 x2)))]⟩), [], [], []⟩
  | _, _ => none

def k151 : PF Tryz.prog := PF.ofG Tryz.prog [k11c] [] hmix 160 Tryz.f160 Tryz.func160 (fun c _ => LOk.nil c) k106 (by
  intro vs es r h; unfold k106 at h; split at h
  · cases h; kernel_rfl
  · cases h)

def kyf (x0 : Int) : Int :=
  bif bif x0 == (1 : Int) then x0 == (1 : Int) else bif x0 == (2 : Int) then x0 == (2 : Int) else x0 == (3 : Int) then (0 : Int)
  else
  bif
      bif x0 == (4 : Int) then x0 == (4 : Int)
      else bif x0 == (7 : Int) then x0 == (7 : Int) else bif x0 == (8 : Int) then x0 == (8 : Int) else x0 == (9 : Int) then
    (1 : Int)
  else (2 : Int)

def kyg : List SV → List Entry → Option Out
  | [.one ⟨false, [.val (.int .i64 x0)]⟩], [] => some ⟨(.one ⟨false, [(.val (.int IntKind.i64 (kyf x0)))]⟩), [], [], []⟩
  | _, _ => none

def k14m : PF Tryz.prog := PF.ofG Tryz.prog [] [] hmix 222 Tryz.f222 Tryz.func222 (fun c _ => LOk.nil c) kyg (by
  intro vs es r h; unfold kyg at h; split at h
  · cases h; kernel_rfl
  · cases h)

def k4y (x3 : Int) : Bool :=
  bif x3 == (1 : Int) then x3 == (1 : Int) else bif x3 == (2 : Int) then x3 == (2 : Int) else x3 == (3 : Int)

def k53 (x3 : Int) : Bool :=
  bif x3 == (5 : Int) then x3 == (5 : Int) else x3 == (6 : Int)

def kgr (x3 : Int) : Bool :=
  bif x3 == (8 : Int) then x3 == (8 : Int) else x3 == (9 : Int)

def k1c (x3 : Int) (x4 : Int) (x5 : List (Int × ByteArray × Int)) : Int :=
  bif k4y x3 then (0 : Int)
  else
  bif x3 == (4 : Int) then (1 : Int)
  else
    bif k53 x3 then (2 : Int)
    else
      bif x3 == (7 : Int) then kyf (Prod.fst (Option.getD x5[Int.toNat x4]? ((0 : Int), ByteArray.empty, (0 : Int))))
      else bif kgr x3 then (1 : Int) else (0 : Int)

def k1t (x3 : Int) : Int :=
  bif k4y x3 then (1 : Int)
  else
  bif x3 == (4 : Int) then (1 : Int)
  else
    bif k53 x3 then (1 : Int)
    else bif x3 == (7 : Int) then (1 : Int) else bif kgr x3 then (0 : Int) else (0 : Int)

def k5g (x3 : Int) (x4 : Int) (x5 : List (Int × ByteArray × Int)) : Bool :=
  allT
  [k4y x3 ||
      (x3 == (4 : Int) || (k53 x3 || (!x3 == (7 : Int) || leI (0 : Int) x4))),
    k4y x3 ||
      (x3 == (4 : Int) || (k53 x3 || (!x3 == (7 : Int) || ltI x4 (↑(List.length x5) : Int)))),
    k4y x3 ||
      (x3 == (4 : Int) || (k53 x3 || (!x3 == (7 : Int) || ltN (Int.toNat x4) (List.length x5))))]

def kh5 : List SV → List Entry → Option Out
  | [.one ⟨true, [.val (.int .i64 _x0), .val (.int .i64 _x1), .val (.int .i64 _x2), .ref 0, .ref 1]⟩, .one ⟨true, [.val (.int .i64 x3), .val (.int .i64 x4)]⟩], [.row false 178 (.pair (.int .i64) (.pair (.str) (.int .i64))) x5, .row false 150 (.pair (.int .i64) (.int .i64)) x6] => some ⟨(.tup [⟨false, [(.val (.int IntKind.i64 (k1c x3 x4 x5)))]⟩, ⟨false, [(.val (.int IntKind.i64 (k1t x3)))]⟩]), [(.row false 178 (CTy.pair (CTy.int IntKind.i64) (CTy.pair CTy.str (CTy.int IntKind.i64))) x5), (.row false 150 (CTy.pair (CTy.int IntKind.i64) (CTy.int IntKind.i64)) x6)], [], [(k5g x3 x4 x5)]⟩
  | _, _ => none

def k2g : PF Tryz.prog := PF.ofG Tryz.prog [k14m] [] hmix 196 Tryz.f196 Tryz.func196 (fun c _ => LOk.nil c) kh5 (by
  intro vs es r h; unfold kh5 at h; split at h
  · cases h; kernel_rfl
  · cases h)

def knb (x0 : List (Int × ByteArray × Int)) : Int :=
  (↑(List.length x0) : Int)

def krc : List SV → List Entry → Option Out
  | [.one ⟨false, [.ref 0]⟩], [.row false 178 (.pair (.int .i64) (.pair (.str) (.int .i64))) x0] => some ⟨(.one ⟨false, [(.val (.int IntKind.i64 (knb x0)))]⟩), [(.row false 178 (CTy.pair (CTy.int IntKind.i64) (CTy.pair CTy.str (CTy.int IntKind.i64))) x0)], [], []⟩
  | _, _ => none

def knc : PF Tryz.prog := PF.ofG Tryz.prog [] [] hmix 254 Tryz.f254 Tryz.func254 (fun c _ => LOk.nil c) krc (by
  intro vs es r h; unfold krc at h; split at h
  · cases h; kernel_rfl
  · cases h)

def k4b (x0 : Int) (x1 : Int) (x2 : Int) (x3 : Int) (x4 : List (Int × ByteArray × Int)) : Int :=
  bif x3 == (1 : Int) then (2 : Int)
  else
  bif bif x3 == (2 : Int) then x3 == (2 : Int) else x3 == (10 : Int) then x0
  else
    bif bif x3 == (3 : Int) then x3 == (3 : Int) else bif x3 == (8 : Int) then x3 == (8 : Int) else x3 == (11 : Int) then x1
    else
      bif bif x3 == (4 : Int) then x3 == (4 : Int) else bif x3 == (5 : Int) then x3 == (5 : Int) else x3 == (6 : Int) then (1 : Int)
      else bif x3 == (7 : Int) then knb x4 else bif x3 == (9 : Int) then x2 else (0 : Int)

def khr : List SV → List Entry → Option Out
  | [.one ⟨true, [.val (.int .i64 x0), .val (.int .i64 x1), .val (.int .i64 x2), .ref 0, .ref 1]⟩, .one ⟨false, [.val (.int .i64 x3)]⟩], [.row false 178 (.pair (.int .i64) (.pair (.str) (.int .i64))) x4, .row false 150 (.pair (.int .i64) (.int .i64)) x5] => some ⟨(.one ⟨false, [(.val (.int IntKind.i64 (k4b x0 x1 x2 x3 x4)))]⟩), [(.row false 178 (CTy.pair (CTy.int IntKind.i64) (CTy.pair CTy.str (CTy.int IntKind.i64))) x4), (.row false 150 (CTy.pair (CTy.int IntKind.i64) (CTy.int IntKind.i64)) x5)], [], []⟩
  | _, _ => none

def k4c : PF Tryz.prog := PF.ofG Tryz.prog [knc, PF.lend knc, PF.fz knc] [] hmix 216 Tryz.f216 Tryz.func216 (fun c _ => LOk.nil c) khr (by
  intro vs es r h; unfold khr at h; split at h
  · cases h; kernel_rfl
  · cases h)

abbrev k1l := Int × Int × Int × List (Int × Int) × Int × Int × Int × List Int × List (Int × (ByteArray × Int))

def kz (y0 : Int) (y3 : List (Int × Int)) : Int × Int :=
  Option.getD y3[Int.toNat y0]? ((0 : Int), (0 : Int))

def k3j (y0 : Int) (y3 : List (Int × Int)) (y8 : List (Int × (ByteArray × Int))) : Int :=
  k1c (Prod.fst (kz y0 y3))
  (Prod.snd (kz y0 y3)) y8

def k20 (y0 : Int) (y2 : Int) (y3 : List (Int × Int)) (y8 : List (Int × (ByteArray × Int))) : Int :=
  IntKind.wrap IntKind.i64
  (y2 +
    IntKind.wrap IntKind.i64
      (k1t (Prod.fst (kz y0 y3)) -
        k3j y0 y3 y8))

def k43 (y0 : Int) (y1 : Int) : Bool :=
  ltI y0 y1

def k6p (y0 : Int) : Bool :=
  leI (0 : Int) y0

def k6r (y0 : Int) (y3 : List (Int × Int)) : Bool :=
  ltI y0 (↑(List.length y3) : Int)

def k6v (y0 : Int) (y3 : List (Int × Int)) : Bool :=
  ltN (Int.toNat y0) (List.length y3)

def k3x (y0 : Int) (y3 : List (Int × Int)) (y4 : Int) (y5 : Int) (y6 : Int) (y8 : List (Int × (ByteArray × Int))) : Bool :=
  bif ltI (Prod.snd (kz y0 y3)) (0 : Int) then true
  else
  leI (k4b y4 y5 y6 (Prod.fst (kz y0 y3)) y8)
    (Prod.snd (kz y0 y3))

def k6t (y0 : Int) (y3 : List (Int × Int)) (y8 : List (Int × (ByteArray × Int))) : Bool :=
  k5g (Prod.fst (kz y0 y3))
  (Prod.snd (kz y0 y3)) y8

def k6q (y0 : Int) (y2 : Int) (y3 : List (Int × Int)) (y8 : List (Int × (ByteArray × Int))) : Bool :=
  ltI y2 (k3j y0 y3 y8)

def k6s (y0 : Int) (y2 : Int) (y3 : List (Int × Int)) (y8 : List (Int × (ByteArray × Int))) : Bool :=
  ltI (40 : Int) (k20 y0 y2 y3 y8)

def k6u (y0 : Int) (y2 : Int) (y3 : List (Int × Int)) (y7 : List Int) (y8 : List (Int × (ByteArray × Int))) : Bool :=
  leN (List.length y7 + List.length [k20 y0 y2 y3 y8]) (9223372036854775807 : Nat)

def k6w (y0 : Int) (y2 : Int) (y3 : List (Int × Int)) (y7 : List Int) (y8 : List (Int × (ByteArray × Int))) : Bool :=
  leN ((List.length y7 + List.length [k20 y0 y2 y3 y8]) * (8 : Nat)) (140737488355328 : Nat)

def k6i (y0 : Int) : Int :=
  IntKind.wrap IntKind.i64 (y0 + (1 : Int))

def k6j (y0 : Int) (y2 : Int) (y3 : List (Int × Int)) (y8 : List (Int × (ByteArray × Int))) : Int :=
  k20 y0 y2 y3 y8

def k6f (y0 : Int) (y2 : Int) (y3 : List (Int × Int)) (y7 : List Int) (y8 : List (Int × (ByteArray × Int))) : List Int :=
  y7 ++ [k20 y0 y2 y3 y8]

def kmj : k1l → List (Nat × SV)
  | (y0, y1, y2, _, _, _, _, _, _) => [(13, (.one ⟨false, [(.val (.int IntKind.i64 y0))]⟩)), (12, (.one ⟨false, [(.val (.int IntKind.i64 y1))]⟩)), (11, (.one ⟨false, [(.ref 0)]⟩)), (1, (.one ⟨false, [(.ptr 1 0)]⟩)), (5, (.one ⟨false, [(.val (.int IntKind.i64 y2))]⟩)), (4, (.one ⟨false, [(.ref 2)]⟩))]

def kmw : k1l → List (Nat × Entry)
  | (_, _, _, y3, y4, y5, y6, y7, y8) => [(0, (.row false 150 (CTy.pair (CTy.int IntKind.i64) (CTy.int IntKind.i64)) y3)), (1, (.box 34 [(.val (.int IntKind.i64 y4)), (.val (.int IntKind.i64 y5)), (.val (.int IntKind.i64 y6)), (.ref 3), (.ref 0)])), (3, (.row false 178 (CTy.pair (CTy.int IntKind.i64) (CTy.pair CTy.str (CTy.int IntKind.i64))) y8)), (2, (.row true 2 (CTy.int IntKind.i64) y7))]

def kmi : Nat → k1l → List (Nat × SV)
  | 0, (_, _, _, _, _, _, _, _, _) => [(2, (.one ⟨false, [(.ref 4)]⟩)), (3, (.one ⟨false, [(.val (.bool false))]⟩))]
  | 1, (_, _, _, _, _, _, _, _, _) => [(2, (.one ⟨false, [(.ref 4)]⟩)), (3, (.one ⟨false, [(.val (.bool false))]⟩))]
  | 2, (_, _, _, _, _, _, _, _, _) => [(2, (.one ⟨false, [(.ref 4)]⟩)), (3, (.one ⟨false, [(.val (.bool false))]⟩))]
  | _, (_, _, y2, _, _, _, _, _, _) => [(5, (.one ⟨false, [(.val (.int IntKind.i64 y2))]⟩)), (4, (.one ⟨false, [(.ref 2)]⟩))]

def kmh : Nat → k1l → List (Nat × Entry)
  | 0, (_, _, _, y3, y4, y5, y6, y7, y8) => [(0, (.row false 150 (CTy.pair (CTy.int IntKind.i64) (CTy.int IntKind.i64)) y3)), (1, (.box 34 [(.val (.int IntKind.i64 y4)), (.val (.int IntKind.i64 y5)), (.val (.int IntKind.i64 y6)), (.ref 3), (.ref 0)])), (2, (.row true 2 (CTy.int IntKind.i64) y7)), (3, (.row false 178 (CTy.pair (CTy.int IntKind.i64) (CTy.pair CTy.str (CTy.int IntKind.i64))) y8)), (4, (.row true 2 (CTy.int IntKind.i64) []))]
  | 1, (_, _, _, y3, y4, y5, y6, y7, y8) => [(0, (.row false 150 (CTy.pair (CTy.int IntKind.i64) (CTy.int IntKind.i64)) y3)), (1, (.box 34 [(.val (.int IntKind.i64 y4)), (.val (.int IntKind.i64 y5)), (.val (.int IntKind.i64 y6)), (.ref 3), (.ref 0)])), (2, (.row true 2 (CTy.int IntKind.i64) y7)), (3, (.row false 178 (CTy.pair (CTy.int IntKind.i64) (CTy.pair CTy.str (CTy.int IntKind.i64))) y8)), (4, (.row true 2 (CTy.int IntKind.i64) []))]
  | 2, (_, _, _, y3, y4, y5, y6, y7, y8) => [(0, (.row false 150 (CTy.pair (CTy.int IntKind.i64) (CTy.int IntKind.i64)) y3)), (1, (.box 34 [(.val (.int IntKind.i64 y4)), (.val (.int IntKind.i64 y5)), (.val (.int IntKind.i64 y6)), (.ref 3), (.ref 0)])), (2, (.row true 2 (CTy.int IntKind.i64) y7)), (3, (.row false 178 (CTy.pair (CTy.int IntKind.i64) (CTy.pair CTy.str (CTy.int IntKind.i64))) y8)), (4, (.row true 2 (CTy.int IntKind.i64) []))]
  | _, (_, _, _, y3, y4, y5, y6, y7, y8) => [(0, (.row false 150 (CTy.pair (CTy.int IntKind.i64) (CTy.int IntKind.i64)) y3)), (1, (.box 34 [(.val (.int IntKind.i64 y4)), (.val (.int IntKind.i64 y5)), (.val (.int IntKind.i64 y6)), (.ref 3), (.ref 0)])), (2, (.row true 2 (CTy.int IntKind.i64) y7)), (3, (.row false 178 (CTy.pair (CTy.int IntKind.i64) (CTy.pair CTy.str (CTy.int IntKind.i64))) y8))]

def k3k : k1l → LT k1l
  | (y0, y1, y2, y3, y4, y5, y6, y7, y8) => .ite (k43 y0 y1) (.need [(k6p y0), (k6r y0 y3), (k6v y0 y3)] (.ite (k3x y0 y3 y4 y5 y6 y8) (.ext 0 [(0, 0), (1, 1), (2, 2), (3, 3), (4, 1152)]) (.need [(k6t y0 y3 y8)] (.ite (k6q y0 y2 y3 y8) (.ext 1 [(0, 0), (1, 1), (2, 2), (3, 3), (4, 1856)]) (.ite (k6s y0 y2 y3 y8) (.ext 2 [(0, 0), (1, 1), (2, 2), (3, 3), (4, 2368)]) (.need [(k6u y0 y2 y3 y7 y8), (k6w y0 y2 y3 y7 y8)] (.nrm ((k6i y0), y1, (k6j y0 y2 y3 y8), y3, y4, y5, y6, (k6f y0 y2 y3 y7 y8), y8) [(0, 0), (1, 1), (2, 2560), (3, 3)]))))))) (.ext 3 [(0, 0), (1, 1), (2, 2), (3, 3)])

def k9z (s : St) : Option k1l :=
  (match s.look 13 with
  | some ⟨none, (.one ⟨false, [(.val (.int IntKind.i64 y0))]⟩)⟩ =>
  (match s.look 12 with
  | some ⟨none, (.one ⟨false, [(.val (.int IntKind.i64 y1))]⟩)⟩ =>
  (match s.look 11 with
  | some ⟨none, (.one ⟨false, [(.ref 1)]⟩)⟩ =>
  (match s.look 1 with
  | some ⟨none, (.one ⟨false, [(.ptr 192 0)]⟩)⟩ =>
  (match s.look 5 with
  | some ⟨none, (.one ⟨false, [(.val (.int IntKind.i64 y2))]⟩)⟩ =>
  (match s.look 4 with
  | some ⟨none, (.one ⟨false, [(.ref 384)]⟩)⟩ =>
  (match s.ent 1 with
  | some (.row false 150 (CTy.pair (CTy.int IntKind.i64) (CTy.int IntKind.i64)) y3) =>
  (match s.ent 192 with
  | some (.box 34 [(.val (.int IntKind.i64 y4)), (.val (.int IntKind.i64 y5)), (.val (.int IntKind.i64 y6)), (.ref 0), (.ref 1)]) =>
  (match s.ent 0 with
  | some (.row false 178 (CTy.pair (CTy.int IntKind.i64) (CTy.pair CTy.str (CTy.int IntKind.i64))) y8) =>
  (match s.ent 384 with
  | some (.row true 2 (CTy.int IntKind.i64) y7) =>
  some (y0, y1, y2, y3, y4, y5, y6, y7, y8)
  | _ => none)
  | _ => none)
  | _ => none)
  | _ => none)
  | _ => none)
  | _ => none)
  | _ => none)
  | _ => none)
  | _ => none)
  | _ => none)

def kk : Lp k1l where
  h := ⟨[14, 15, 16, 7, 17, 18, 19, 20, 21, 22, 23, 24, 25, 26, 27, 28, 2, 3, 30, 31, 32, 29, 33, 34, 8, 9, 35, 36, 37, 38, 39, 40, 41, 42, 5, 43, 44, 45, 46, 47, 48, 4, 49, 13], [0, 1, 3], [2], [4]⟩
  JL := kmj
  JE := kmw
  XL := kmi
  XE := kmh
  q := fun j => match j with | 0 => .ret | 1 => .ret | 2 => .ret | _ => .exit 0
  tags := [0, 1, 2, 3]
  lt := k3k
  fuel := fun (y0, y1, y2, y3, y4, y5, y6, y7, y8) => y0.natAbs + y1.natAbs + y2.natAbs + y3.length + y4.natAbs + y5.natAbs + y6.natAbs + y7.length + y8.length
  fix := fun (_, y1, _, y3, y4, y5, y6, _, y8) (y0, _, y2, _, _, _, _, y7, _) => (y0, y1, y2, y3, y4, y5, y6, y7, y8)
  σ := [(0, 1), (1, 192), (3, 0), (2, 384)]
  rd := k9z

theorem kl7 : LoopOk Tryz.prog (fun k => Nat.blt k Tryz.f162.ntmps) kk.F (loopAt Tryz.f162 0) := by
  refine Lp.ok (tbl := [k2g, PF.lend k2g, PF.fz k2g, k4c, PF.lend k4c, PF.fz k4c]) (lf := []) hmix kk (by kernel_rfl) (LOk.nil _) (fun _ => rfl) (fun j _ => by unfold kk; match j with | 0 => rfl | 1 => rfl | 2 => rfl | _ + 3 => rfl) ?_ ?_ ?_ ?_ (fun _ => rfl) ?_
  · intro x; obtain ⟨y0, y1, y2, y3, y4, y5, y6, y7, y8⟩ := x; kernel_rfl
  · intro x; obtain ⟨y0, y1, y2, y3, y4, y5, y6, y7, y8⟩ := x; kernel_rfl
  · intro s x h
    have h : k9z s = some x := h
    unfold k9z at h
    repeat' split at h
    all_goals cases h
    exact ⟨absS_cons (by assumption) rfl (absS_cons (by assumption) rfl (absS_cons (by assumption) rfl (absS_cons (by assumption) rfl (absS_cons (by assumption) rfl (absS_cons (by assumption) rfl (rfl)))))), absE_cons rfl (by assumption) rfl (absE_cons rfl (by assumption) rfl (absE_cons rfl (by assumption) rfl (absE_cons rfl (by assumption) rfl (rfl))))⟩
  · intro x; obtain ⟨y0, y1, y2, y3, y4, y5, y6, y7, y8⟩ := x; kernel_rfl
  · intro x z; obtain ⟨y0, y1, y2, y3, y4, y5, y6, y7, y8⟩ := x; exact (And.intro (And.intro trivial (And.intro trivial (And.intro trivial rfl))) trivial)

def k3a (x0 : Int) (x1 : Int) (x2 : Int) (x3 : List (Int × ByteArray × Int)) (x4 : List (Int × Int)) : Int × Int × Int × List (Int × Int) × Int × Int × Int × List Int × List (Int × ByteArray × Int) :=
  ((0 : Int), (↑(List.length x4) : Int), (0 : Int), x4, x0, x1, x2, [], x3)

def kbc (x0 : Int) (x1 : Int) (x2 : Int) (x3 : List (Int × ByteArray × Int)) (x4 : List (Int × Int)) : Bool :=
  Nat.beq (Prod.fst (Lp.res kk (k3a x0 x1 x2 x3 x4))) (0 : Nat)

def kbd (x0 : Int) (x1 : Int) (x2 : Int) (x3 : List (Int × ByteArray × Int)) (x4 : List (Int × Int)) : Bool :=
  Nat.beq (Prod.fst (Lp.res kk (k3a x0 x1 x2 x3 x4))) (1 : Nat)

def kbi (x0 : Int) (x1 : Int) (x2 : Int) (x3 : List (Int × ByteArray × Int)) (x4 : List (Int × Int)) : Bool :=
  Nat.beq (Prod.fst (Lp.res kk (k3a x0 x1 x2 x3 x4))) (2 : Nat)

def kbe (x0 : Int) (x1 : Int) (x2 : Int) (x3 : List (Int × ByteArray × Int)) (x4 : List (Int × Int)) : Int × List (Int × Int) × Int × Int × Int × List Int × List (Int × ByteArray × Int) :=
  Prod.snd (Prod.snd (Prod.snd (Lp.res kk (k3a x0 x1 x2 x3 x4))))

def k84 (x0 : Int) (x1 : Int) (x2 : Int) (x3 : List (Int × ByteArray × Int)) (x4 : List (Int × Int)) : Bool :=
  bif kbc x0 x1 x2 x3 x4 then false
  else
  bif kbd x0 x1 x2 x3 x4 then false
  else
    bif kbi x0 x1 x2 x3 x4 then false
    else Prod.fst (kbe x0 x1 x2 x3 x4) == (0 : Int)

def kc1 (x0 : Int) (x1 : Int) (x2 : Int) (x3 : List (Int × ByteArray × Int)) (x4 : List (Int × Int)) : List Int :=
  bif kbc x0 x1 x2 x3 x4 then []
  else
  bif kbd x0 x1 x2 x3 x4 then []
  else
    bif kbi x0 x1 x2 x3 x4 then []
    else Prod.fst (Prod.snd (Prod.snd (Prod.snd (Prod.snd (Prod.snd (kbe x0 x1 x2 x3 x4))))))

def k89 (x0 : Int) (x1 : Int) (x2 : Int) (x3 : List (Int × ByteArray × Int)) (x4 : List (Int × Int)) : Bool :=
  allT [Lp.fin kk (k3a x0 x1 x2 x3 x4)]

def kgq : List SV → List Entry → Option Out
  | [.one ⟨true, [.val (.int .i64 x0), .val (.int .i64 x1), .val (.int .i64 x2), .ref 0, .ref 1]⟩], [.row false 178 (.pair (.int .i64) (.pair (.str) (.int .i64))) x3, .row false 150 (.pair (.int .i64) (.int .i64)) x4] => some ⟨(.tup [⟨false, [(.ref 2)]⟩, ⟨false, [(.val (.bool (k84 x0 x1 x2 x3 x4)))]⟩]), [(.row false 178 (CTy.pair (CTy.int IntKind.i64) (CTy.pair CTy.str (CTy.int IntKind.i64))) x3), (.row false 150 (CTy.pair (CTy.int IntKind.i64) (CTy.int IntKind.i64)) x4)], [(.row true 2 (CTy.int IntKind.i64) (kc1 x0 x1 x2 x3 x4))], [(k89 x0 x1 x2 x3 x4)]⟩
  | _, _ => none

def k87 : PF Tryz.prog := PF.ofG Tryz.prog [k2g, PF.lend k2g, PF.fz k2g, k4c, PF.lend k4c, PF.fz k4c] [kk.F] hmix 162 Tryz.f162 Tryz.func162 (LOk.fnT (l := [loopAt Tryz.f162 0]) (by kernel_rfl) (.cons kl7 (.nil _))) kgq (by
  intro vs es r h; unfold kgq at h; split at h
  · cases h; kernel_rfl
  · cases h)

def kp6 (x0 : Int) (x1 : ByteArray) (x2 : Int) : Bool :=
  !blockB x0 x1 x2

def ktm : List SV → List Entry → Option Out
  | [(.one ⟨true, [(.val (.int IntKind.i64 x0)), (.val (.string x1)), (.val (.int IntKind.i64 x2))]⟩)], [] => some ⟨(.one ⟨false, [(.val (.bool (kp6 x0 x1 x2)))]⟩), [], [], []⟩
  | _, _ => none

def ktk : PF Tryz.prog := PF.ofG Tryz.prog [k11c] [] hmix 160 Tryz.f160 Tryz.func160 (fun c _ => LOk.nil c) ktm (by
  intro vs es r h; unfold ktm at h; split at h
  · cases h; kernel_rfl
  · cases h)

abbrev k1v := Int × Int × List (Int × (ByteArray × Int))

def k32 (y0 : Int) (y2 : List (Int × (ByteArray × Int))) : Int × ByteArray × Int :=
  Option.getD y2[Int.toNat y0]? ((0 : Int), ByteArray.empty, (0 : Int))

def k68 (y0 : Int) (y1 : Int) : Bool :=
  ltI y0 y1

def k69 (y0 : Int) : Bool :=
  leI (0 : Int) y0

def k66 (y0 : Int) (y2 : List (Int × (ByteArray × Int))) : Bool :=
  ltI y0 (↑(List.length y2) : Int)

def k63 (y0 : Int) (y2 : List (Int × (ByteArray × Int))) : Bool :=
  ltN (Int.toNat y0) (List.length y2)

def k6b (y0 : Int) (y2 : List (Int × (ByteArray × Int))) : Bool :=
  kp6 (Prod.fst (k32 y0 y2)) (Prod.fst (Prod.snd (k32 y0 y2)))
  (Prod.snd (Prod.snd (k32 y0 y2)))

def k61 (y0 : Int) : Int :=
  IntKind.wrap IntKind.i64 (y0 + (1 : Int))

def kpb : k1v → List (Nat × SV)
  | (y0, y1, _) => [(8, (.one ⟨false, [(.val (.int IntKind.i64 y0))]⟩)), (7, (.one ⟨false, [(.val (.int IntKind.i64 y1))]⟩)), (1, (.one ⟨false, [(.val (.func (.func 160) ⟨[]⟩ ⟨[]⟩))]⟩)), (0, (.one ⟨false, [(.ref 0)]⟩))]

def koy : k1v → List (Nat × Entry)
  | (_, _, y2) => [(0, (.row false 178 (CTy.pair (CTy.int IntKind.i64) (CTy.pair CTy.str (CTy.int IntKind.i64))) y2))]

def kov : Nat → k1v → List (Nat × SV)
  | 0, (y0, _, _) => [(4, (.one ⟨false, [(.val (.int IntKind.i64 y0))]⟩))]
  | _, (_, _, _) => []

def kp2 : Nat → k1v → List (Nat × Entry)
  | 0, (_, _, y2) => [(0, (.row false 178 (CTy.pair (CTy.int IntKind.i64) (CTy.pair CTy.str (CTy.int IntKind.i64))) y2))]
  | _, (_, _, y2) => [(0, (.row false 178 (CTy.pair (CTy.int IntKind.i64) (CTy.pair CTy.str (CTy.int IntKind.i64))) y2))]

def k5n : k1v → LT k1v
  | (y0, y1, y2) => .ite (k68 y0 y1) (.need [(k69 y0), (k66 y0 y2), (k63 y0 y2)] (.ite (k6b y0 y2) (.ext 0 [(0, 0)]) (.nrm ((k61 y0), y1, y2) [(0, 0)]))) (.ext 1 [(0, 0)])

def kc7 (s : St) : Option k1v :=
  (match s.look 8 with
  | some ⟨none, (.one ⟨false, [(.val (.int IntKind.i64 y0))]⟩)⟩ =>
  (match s.look 7 with
  | some ⟨none, (.one ⟨false, [(.val (.int IntKind.i64 y1))]⟩)⟩ =>
  (match s.look 1 with
  | some ⟨none, (.one ⟨false, [(.val (.func (.func 160) ⟨[]⟩ ⟨[]⟩))]⟩)⟩ =>
  (match s.look 0 with
  | some ⟨none, (.one ⟨false, [(.ref 0)]⟩)⟩ =>
  (match s.ent 0 with
  | some (.row false 178 (CTy.pair (CTy.int IntKind.i64) (CTy.pair CTy.str (CTy.int IntKind.i64))) y2) =>
  some (y0, y1, y2)
  | _ => none)
  | _ => none)
  | _ => none)
  | _ => none)
  | _ => none)

def k16 : Lp k1v where
  h := ⟨[9, 10, 5, 11, 12, 13, 14, 15, 16, 17, 4, 18, 8], [0], [], []⟩
  JL := kpb
  JE := koy
  XL := kov
  XE := kp2
  q := fun j => match j with | 0 => .ret | _ => .exit 0
  tags := [0, 1]
  lt := k5n
  fuel := fun (y0, y1, y2) => y0.natAbs + y1.natAbs + y2.length
  fix := fun (_, y1, y2) (y0, _, _) => (y0, y1, y2)
  σ := [(0, 0)]
  rd := kc7

theorem knx : LoopOk Tryz.prog (fun k => Nat.blt k Tryz.f214.ntmps) k16.F (loopAt Tryz.f214 0) := by
  refine Lp.ok (tbl := [ktk]) (lf := []) hmix k16 (by kernel_rfl) (LOk.nil _) (fun _ => rfl) (fun j _ => by unfold k16; match j with | 0 => rfl | _ + 1 => rfl) ?_ ?_ ?_ ?_ (fun _ => rfl) ?_
  · intro x; obtain ⟨y0, y1, y2⟩ := x; kernel_rfl
  · intro x; obtain ⟨y0, y1, y2⟩ := x; kernel_rfl
  · intro s x h
    have h : kc7 s = some x := h
    unfold kc7 at h
    repeat' split at h
    all_goals cases h
    exact ⟨absS_cons (by assumption) rfl (absS_cons (by assumption) rfl (absS_cons (by assumption) rfl (absS_cons (by assumption) rfl (rfl)))), absE_cons rfl (by assumption) rfl (rfl)⟩
  · intro x; obtain ⟨y0, y1, y2⟩ := x; kernel_rfl
  · intro x z; obtain ⟨y0, y1, y2⟩ := x; exact (And.intro (And.intro trivial rfl) trivial)

def kac (x0 : List (Int × ByteArray × Int)) : Int × Int × List (Int × ByteArray × Int) :=
  ((0 : Int), (↑(List.length x0) : Int), x0)

def ke9 (x0 : List (Int × ByteArray × Int)) : Int :=
  bif Nat.beq (Prod.fst (Lp.res k16 (kac x0))) (0 : Nat) then
  Prod.fst (Prod.snd (Lp.res k16 (kac x0)))
  else (-1 : Int)

def kee (x0 : List (Int × ByteArray × Int)) : Bool :=
  allT [Lp.fin k16 (kac x0)]

def kjf : List SV → List Entry → Option Out
  | [(.one ⟨false, [(.ref 0)]⟩), (.one ⟨false, [(.val (.func (.func 160) ⟨[]⟩ ⟨[]⟩))]⟩)], [(.row false 178 (CTy.pair (CTy.int IntKind.i64) (CTy.pair CTy.str (CTy.int IntKind.i64))) x0)] => some ⟨(.one ⟨false, [(.val (.int IntKind.i64 (ke9 x0)))]⟩), [(.row false 178 (CTy.pair (CTy.int IntKind.i64) (CTy.pair CTy.str (CTy.int IntKind.i64))) x0)], [], [(kee x0)]⟩
  | _, _ => none

def ke6 : PF Tryz.prog := PF.ofG Tryz.prog [ktk] [k16.F] hmix 214 Tryz.f214 Tryz.func214 (LOk.fnT (l := [loopAt Tryz.f214 0]) (by kernel_rfl) (.cons knx (.nil _))) kjf (by
  intro vs es r h; unfold kjf at h; split at h
  · cases h; kernel_rfl
  · cases h)

def k8u (x0 : List (Int × ByteArray × Int)) : Bool :=
  leI (0 : Int) (ke9 x0)

def kd5 (x0 : List (Int × ByteArray × Int)) : Bool :=
  allT [kee x0]

def khe : List SV → List Entry → Option Out
  | [(.one ⟨false, [(.ref 0)]⟩), (.one ⟨false, [(.val (.func (.func 160) ⟨[]⟩ ⟨[]⟩))]⟩)], [(.row false 178 (CTy.pair (CTy.int IntKind.i64) (CTy.pair CTy.str (CTy.int IntKind.i64))) x0)] => some ⟨(.one ⟨false, [(.val (.bool (k8u x0)))]⟩), [(.row false 178 (CTy.pair (CTy.int IntKind.i64) (CTy.pair CTy.str (CTy.int IntKind.i64))) x0)], [], [(kd5 x0)]⟩
  | _, _ => none

def kd4 : PF Tryz.prog := PF.ofG Tryz.prog [ke6, PF.lend ke6, PF.fz ke6] [] hmix 159 Tryz.f159 Tryz.func159 (fun c _ => LOk.nil c) khe (by
  intro vs es r h; unfold khe at h; split at h
  · cases h; kernel_rfl
  · cases h)

def kr9 (x0 : Int) (x1 : Int) (x2 : Int) (x3 : List (Int × ByteArray × Int)) (x4 : List (Int × Int)) : Bool :=
  bif
    bif
        bif bif !k3s x0 (0 : Int) (20 : Int) then true else !k3s x1 (0 : Int) (20 : Int) then true
        else !k3s x2 (0 : Int) (20 : Int) then
      true
    else ltI (2000 : Int) (↑(List.length x3) : Int) then
  true
  else ltI (2000 : Int) (↑(List.length x4) : Int)

def kz0 (x0 : Int) (x1 : Int) (x2 : Int) (x3 : List (Int × ByteArray × Int)) (x4 : List (Int × Int)) : Bool :=
  bif kr9 x0 x1 x2 x3 x4 then false
  else bif k8u x3 then false else k84 x0 x1 x2 x3 x4

def kys (x0 : Int) (x1 : Int) (x2 : Int) (x3 : List (Int × ByteArray × Int)) (x4 : List (Int × Int)) : Bool :=
  allT
  [kr9 x0 x1 x2 x3 x4 || kd5 x3,
    kr9 x0 x1 x2 x3 x4 || (k8u x3 || k89 x0 x1 x2 x3 x4)]

def k13q : List SV → List Entry → Option Out
  | [.one ⟨true, [.val (.int .i64 x0), .val (.int .i64 x1), .val (.int .i64 x2), .ref 0, .ref 1]⟩], [.row false 178 (.pair (.int .i64) (.pair (.str) (.int .i64))) x3, .row false 150 (.pair (.int .i64) (.int .i64)) x4] => some ⟨(.one ⟨false, [(.val (.bool (kz0 x0 x1 x2 x3 x4)))]⟩), [(.row false 178 (CTy.pair (CTy.int IntKind.i64) (CTy.pair CTy.str (CTy.int IntKind.i64))) x3), (.row false 150 (CTy.pair (CTy.int IntKind.i64) (CTy.int IntKind.i64)) x4)], [], [(kys x0 x1 x2 x3 x4)]⟩
  | _, _ => none

def k15y : PF Tryz.prog := PF.ofG Tryz.prog [ksx, k151, k87, PF.lend k87, PF.fz k87, kd4, PF.lend kd4, PF.fz kd4] [] hmix 92 Tryz.f92 Tryz.func92 (fun c _ => LOk.nil c) k13q (by
  intro vs es r h; unfold k13q at h; split at h
  · cases h; kernel_rfl
  · cases h)

abbrev k1k := Int × Int × List (Int × (ByteArray × Int)) × List Int × List (Int × (Int × Int))

def k2z (y0 : Int) (y2 : List (Int × (ByteArray × Int))) : Int × ByteArray × Int :=
  Option.getD y2[Int.toNat y0]? ((0 : Int), ByteArray.empty, (0 : Int))

def k2d (y0 : Int) (y4 : List (Int × (Int × Int))) : Int × Int × Int :=
  Option.getD y4[Int.toNat y0]? ((0 : Int), (0 : Int), (0 : Int))

def k44 (y0 : Int) (y1 : Int) : Bool :=
  ltI y0 y1

def k33 (y0 : Int) : Bool :=
  leI (0 : Int) y0

def k45 (y0 : Int) (y2 : List (Int × (ByteArray × Int))) : Bool :=
  ltI y0 (↑(List.length y2) : Int)

def k42 (y0 : Int) (y2 : List (Int × (ByteArray × Int))) : Bool :=
  ltN (Int.toNat y0) (List.length y2)

def k46 (y0 : Int) (y4 : List (Int × (Int × Int))) : Bool :=
  ltI y0 (↑(List.length y4) : Int)

def k3z (y0 : Int) (y4 : List (Int × (Int × Int))) : Bool :=
  ltN (Int.toNat y0) (List.length y4)

def k3y (y0 : Int) (y2 : List (Int × (ByteArray × Int))) (y4 : List (Int × (Int × Int))) : Bool :=
  !kiv (Prod.fst (k2z y0 y2))
    (Prod.snd (Prod.snd (k2z y0 y2))) (Prod.fst (k2d y0 y4))
    (Prod.fst (Prod.snd (k2d y0 y4)))
    (Prod.snd (Prod.snd (k2d y0 y4)))

def k40 (y0 : Int) : Int :=
  IntKind.wrap IntKind.i64 (y0 + (1 : Int))

def kn2 : k1k → List (Nat × SV)
  | (y0, y1, _, _, _) => [(24, (.one ⟨false, [(.val (.int IntKind.i64 y0))]⟩)), (23, (.one ⟨false, [(.val (.int IntKind.i64 y1))]⟩)), (22, (.one ⟨false, [(.ref 0)]⟩)), (3, (.one ⟨false, [(.ptr 1 0)]⟩))]

def kn0 : k1k → List (Nat × Entry)
  | (_, _, y2, y3, y4) => [(0, (.row false 178 (CTy.pair (CTy.int IntKind.i64) (CTy.pair CTy.str (CTy.int IntKind.i64))) y2)), (1, (.box 48 [(.ref 2), (.ref 3)])), (2, (.row false 2 (CTy.int IntKind.i64) y3)), (3, (.row false 172 (CTy.pair (CTy.int IntKind.i64) (CTy.pair (CTy.int IntKind.i64) (CTy.int IntKind.i64))) y4))]

def kmn : Nat → k1k → List (Nat × SV)
  | 0, (_, _, _, _, _) => [(6, (.one ⟨false, [(.val (.bool false))]⟩))]
  | _, (_, _, _, _, _) => []

def kmc : Nat → k1k → List (Nat × Entry)
  | 0, (_, _, y2, y3, y4) => [(0, (.row false 178 (CTy.pair (CTy.int IntKind.i64) (CTy.pair CTy.str (CTy.int IntKind.i64))) y2)), (1, (.box 48 [(.ref 2), (.ref 3)])), (2, (.row false 2 (CTy.int IntKind.i64) y3)), (3, (.row false 172 (CTy.pair (CTy.int IntKind.i64) (CTy.pair (CTy.int IntKind.i64) (CTy.int IntKind.i64))) y4))]
  | _, (_, _, y2, y3, y4) => [(0, (.row false 178 (CTy.pair (CTy.int IntKind.i64) (CTy.pair CTy.str (CTy.int IntKind.i64))) y2)), (1, (.box 48 [(.ref 2), (.ref 3)])), (2, (.row false 2 (CTy.int IntKind.i64) y3)), (3, (.row false 172 (CTy.pair (CTy.int IntKind.i64) (CTy.pair (CTy.int IntKind.i64) (CTy.int IntKind.i64))) y4))]

def k3q : k1k → LT k1k
  | (y0, y1, y2, y3, y4) => .ite (k44 y0 y1) (.need [(k33 y0), (k45 y0 y2), (k42 y0 y2)] (.need [(k33 y0), (k46 y0 y4), (k3z y0 y4)] (.ite (k3y y0 y2 y4) (.ext 0 [(0, 0), (1, 1), (2, 2), (3, 3)]) (.nrm ((k40 y0), y1, y2, y3, y4) [(0, 0), (1, 1), (2, 2), (3, 3)])))) (.ext 1 [(0, 0), (1, 1), (2, 2), (3, 3)])

def ka0 (s : St) : Option k1k :=
  (match s.look 24 with
  | some ⟨none, (.one ⟨false, [(.val (.int IntKind.i64 y0))]⟩)⟩ =>
  (match s.look 23 with
  | some ⟨none, (.one ⟨false, [(.val (.int IntKind.i64 y1))]⟩)⟩ =>
  (match s.look 22 with
  | some ⟨none, (.one ⟨false, [(.ref 2)]⟩)⟩ =>
  (match s.look 3 with
  | some ⟨none, (.one ⟨false, [(.ptr 256 0)]⟩)⟩ =>
  (match s.ent 2 with
  | some (.row false 178 (CTy.pair (CTy.int IntKind.i64) (CTy.pair CTy.str (CTy.int IntKind.i64))) y2) =>
  (match s.ent 256 with
  | some (.box 48 [(.ref 0), (.ref 1)]) =>
  (match s.ent 0 with
  | some (.row false 2 (CTy.int IntKind.i64) y3) =>
  (match s.ent 1 with
  | some (.row false 172 (CTy.pair (CTy.int IntKind.i64) (CTy.pair (CTy.int IntKind.i64) (CTy.int IntKind.i64))) y4) =>
  some (y0, y1, y2, y3, y4)
  | _ => none)
  | _ => none)
  | _ => none)
  | _ => none)
  | _ => none)
  | _ => none)
  | _ => none)
  | _ => none)

def k14 : Lp k1k where
  h := ⟨[25, 26, 27, 28, 8, 7, 29, 30, 31, 32, 33, 34, 35, 36, 6, 37, 24], [0, 1, 2, 3], [], []⟩
  JL := kn2
  JE := kn0
  XL := kmn
  XE := kmc
  q := fun j => match j with | 0 => .ret | _ => .exit 0
  tags := [0, 1]
  lt := k3q
  fuel := fun (y0, y1, y2, y3, y4) => y0.natAbs + y1.natAbs + y2.length + y3.length + y4.length
  fix := fun (_, y1, y2, y3, y4) (y0, _, _, _, _) => (y0, y1, y2, y3, y4)
  σ := [(0, 2), (1, 256), (2, 0), (3, 1)]
  rd := ka0

theorem kl8 : LoopOk Tryz.prog (fun k => Nat.blt k Tryz.f116.ntmps) k14.F (loopAt Tryz.f116 0) := by
  refine Lp.ok (tbl := [kdb, PF.lend kdb, PF.fz kdb, kxv]) (lf := []) hmix k14 (by kernel_rfl) (LOk.nil _) (fun _ => rfl) (fun j _ => by unfold k14; match j with | 0 => rfl | _ + 1 => rfl) ?_ ?_ ?_ ?_ (fun _ => rfl) ?_
  · intro x; obtain ⟨y0, y1, y2, y3, y4⟩ := x; kernel_rfl
  · intro x; obtain ⟨y0, y1, y2, y3, y4⟩ := x; kernel_rfl
  · intro s x h
    have h : ka0 s = some x := h
    unfold ka0 at h
    repeat' split at h
    all_goals cases h
    exact ⟨absS_cons (by assumption) rfl (absS_cons (by assumption) rfl (absS_cons (by assumption) rfl (absS_cons (by assumption) rfl (rfl)))), absE_cons rfl (by assumption) rfl (absE_cons rfl (by assumption) rfl (absE_cons rfl (by assumption) rfl (absE_cons rfl (by assumption) rfl (rfl))))⟩
  · intro x; obtain ⟨y0, y1, y2, y3, y4⟩ := x; kernel_rfl
  · intro x z; obtain ⟨y0, y1, y2, y3, y4⟩ := x; exact (And.intro (And.intro trivial rfl) trivial)

def k3d (x0 : Int) (x1 : List Int) (x2 : List (Int × Int × Int)) (x3 : List (Int × ByteArray × Int)) : Bool :=
  bif !bitsB x0 x1 then true else (↑(List.length x2) : Int) != (↑(List.length x3) : Int)

def kbn (x1 : List Int) (x2 : List (Int × Int × Int)) (x3 : List (Int × ByteArray × Int)) : Int × Int × List (Int × ByteArray × Int) × List Int × List (Int × Int × Int) :=
  ((0 : Int), (↑(List.length x3) : Int), x3, x1, x2)

def k85 (x0 : Int) (x1 : List Int) (x2 : List (Int × Int × Int)) (x3 : List (Int × ByteArray × Int)) : Bool :=
  bif k3d x0 x1 x2 x3 then false
  else
  bif Nat.beq (Prod.fst (Lp.res k14 (kbn x1 x2 x3))) (0 : Nat) then false
  else true

def k80 (x0 : Int) (x1 : List Int) (x2 : List (Int × Int × Int)) (x3 : List (Int × ByteArray × Int)) : Bool :=
  allT
  [leN (List.length x1) (9223372036854775807 : Nat),
    k3d x0 x1 x2 x3 ||
      Lp.fin k14 (kbn x1 x2 x3)]

def kgp : List SV → List Entry → Option Out
  | [.one ⟨true, [.ref 0, .ref 1]⟩, .one ⟨false, [.val (.int .i64 x0)]⟩, .one ⟨false, [.ref 2]⟩], [.row false 2 (.int .i64) x1, .row false 172 (.pair (.int .i64) (.pair (.int .i64) (.int .i64))) x2, .row false 178 (.pair (.int .i64) (.pair (.str) (.int .i64))) x3] => some ⟨(.one ⟨false, [(.val (.bool (k85 x0 x1 x2 x3)))]⟩), [(.row false 2 (CTy.int IntKind.i64) x1), (.row false 172 (CTy.pair (CTy.int IntKind.i64) (CTy.pair (CTy.int IntKind.i64) (CTy.int IntKind.i64))) x2), (.row false 178 (CTy.pair (CTy.int IntKind.i64) (CTy.pair CTy.str (CTy.int IntKind.i64))) x3)], [], [(k80 x0 x1 x2 x3)]⟩
  | _, _ => none

def kok : PF Tryz.prog := PF.ofG Tryz.prog [kdb, PF.lend kdb, PF.fz kdb, kxv] [k14.F] hmix 116 Tryz.f116 Tryz.func116 (LOk.fnT (l := [loopAt Tryz.f116 0]) (by kernel_rfl) (.cons kl8 (.nil _))) kgp (by
  intro vs es r h; unfold kgp at h; split at h
  · cases h; kernel_rfl
  · cases h)

def kd9 (x0 : List (Int × Int × Int)) : Bool :=
  allT
  [ltN (0 : Nat) (List.length x0), false || leN ((0 : Nat) + List.length x0) (9223372036854775807 : Nat),
    false || leN (((0 : Nat) + List.length x0) * (24 : Nat)) (140737488355328 : Nat)]

def kmx : List SV → List Entry → Option Out
  | [.one ⟨false, [.ref 0]⟩], [.row false 172 (.pair (.int .i64) (.pair (.int .i64) (.int .i64))) x0] => some ⟨(.one ⟨false, [(.ref 1)]⟩), [(.row false 172 (CTy.pair (CTy.int IntKind.i64) (CTy.pair (CTy.int IntKind.i64) (CTy.int IntKind.i64))) x0)], [(.row true 172 (CTy.pair (CTy.int IntKind.i64) (CTy.pair (CTy.int IntKind.i64) (CTy.int IntKind.i64))) x0)], [(kd9 x0)]⟩
  | _, _ => none

def ktg : PF Tryz.prog := PF.ofG Tryz.prog [] [] hmix 195 Tryz.f195 Tryz.func195 (fun c _ => LOk.nil c) kmx (by
  intro vs es r h; unfold kmx at h; split at h
  · cases h; kernel_rfl
  · cases h)

def kt1 (x0 : Int) (x1 : ByteArray) (x2 : Int) (x3 : Int) (x4 : ByteArray) (x5 : Int) : Bool :=
  bif x0 != x3 then false else bif !ByteArray.toList x1 == ByteArray.toList x4 then false else bif x2 != x5 then false else true

def k13k : List SV → List Entry → Option Out
  | [.one ⟨true, [.val (.int .i64 x0), .val (.string x1), .val (.int .i64 x2)]⟩, .one ⟨true, [.val (.int .i64 x3), .val (.string x4), .val (.int .i64 x5)]⟩], [] => some ⟨(.one ⟨false, [(.val (.bool (kt1 x0 x1 x2 x3 x4 x5)))]⟩), [], [], []⟩
  | _, _ => none

def k13b : PF Tryz.prog := PF.ofG Tryz.prog [] [] hmix 166 Tryz.f166 Tryz.func166 (fun c _ => LOk.nil c) k13k (by
  intro vs es r h; unfold k13k at h; split at h
  · cases h; kernel_rfl
  · cases h)

abbrev kbu := Int × List (Int × (ByteArray × Int)) × List (Int × (ByteArray × Int))

def kfs (y0 : Int) (y1 : List (Int × (ByteArray × Int))) : Int × ByteArray × Int :=
  Option.getD y1[Int.toNat y0]? ((0 : Int), ByteArray.empty, (0 : Int))

def kfx (y0 : Int) (y2 : List (Int × (ByteArray × Int))) : Int × ByteArray × Int :=
  Option.getD y2[Int.toNat y0]? ((0 : Int), ByteArray.empty, (0 : Int))

def kiw (y0 : Int) (y1 : List (Int × (ByteArray × Int))) : Bool :=
  ltI y0 (↑(List.length y1) : Int)

def kir (y0 : Int) : Bool :=
  leI (0 : Int) y0

def km1 (y0 : Int) (y1 : List (Int × (ByteArray × Int))) : Bool :=
  ltN (Int.toNat y0) (List.length y1)

def km0 (y0 : Int) (y2 : List (Int × (ByteArray × Int))) : Bool :=
  ltI y0 (↑(List.length y2) : Int)

def kmq (y0 : Int) (y2 : List (Int × (ByteArray × Int))) : Bool :=
  ltN (Int.toNat y0) (List.length y2)

def kmd (y0 : Int) (y1 : List (Int × (ByteArray × Int))) (y2 : List (Int × (ByteArray × Int))) : Bool :=
  !kt1 (Prod.fst (kfs y0 y1)) (Prod.fst (Prod.snd (kfs y0 y1))) (Prod.snd (Prod.snd (kfs y0 y1)))
    (Prod.fst (kfx y0 y2)) (Prod.fst (Prod.snd (kfx y0 y2))) (Prod.snd (Prod.snd (kfx y0 y2)))

def kn1 (y0 : Int) : Int :=
  IntKind.wrap IntKind.i64 (y0 + (1 : Int))

def k12p : kbu → List (Nat × SV)
  | (y0, _, _) => [(5, (.one ⟨false, [(.val (.int IntKind.i64 y0))]⟩)), (0, (.one ⟨false, [(.ref 0)]⟩)), (1, (.one ⟨false, [(.ref 1)]⟩))]

def k12i : kbu → List (Nat × Entry)
  | (_, y1, y2) => [(0, (.row false 178 (CTy.pair (CTy.int IntKind.i64) (CTy.pair CTy.str (CTy.int IntKind.i64))) y1)), (1, (.row false 178 (CTy.pair (CTy.int IntKind.i64) (CTy.pair CTy.str (CTy.int IntKind.i64))) y2))]

def k12e : Nat → kbu → List (Nat × SV)
  | 0, (_, _, _) => [(4, (.one ⟨false, [(.val (.bool false))]⟩))]
  | _, (_, _, _) => []

def k12z : Nat → kbu → List (Nat × Entry)
  | 0, (_, y1, y2) => [(0, (.row false 178 (CTy.pair (CTy.int IntKind.i64) (CTy.pair CTy.str (CTy.int IntKind.i64))) y1)), (1, (.row false 178 (CTy.pair (CTy.int IntKind.i64) (CTy.pair CTy.str (CTy.int IntKind.i64))) y2))]
  | _, (_, y1, y2) => [(0, (.row false 178 (CTy.pair (CTy.int IntKind.i64) (CTy.pair CTy.str (CTy.int IntKind.i64))) y1)), (1, (.row false 178 (CTy.pair (CTy.int IntKind.i64) (CTy.pair CTy.str (CTy.int IntKind.i64))) y2))]

def kkb : kbu → LT kbu
  | (y0, y1, y2) => .ite (kiw y0 y1) (.need [(kir y0), (kiw y0 y1), (km1 y0 y1), (kir y0), (km0 y0 y2), (kmq y0 y2)] (.ite (kmd y0 y1 y2) (.ext 0 [(0, 0), (1, 1)]) (.nrm ((kn1 y0), y1, y2) [(0, 0), (1, 1)]))) (.ext 1 [(0, 0), (1, 1)])

def kru (s : St) : Option kbu :=
  (match s.look 5 with
  | some ⟨none, (.one ⟨false, [(.val (.int IntKind.i64 y0))]⟩)⟩ =>
  (match s.look 0 with
  | some ⟨none, (.one ⟨false, [(.ref 0)]⟩)⟩ =>
  (match s.look 1 with
  | some ⟨none, (.one ⟨false, [(.ref 1)]⟩)⟩ =>
  (match s.ent 0 with
  | some (.row false 178 (CTy.pair (CTy.int IntKind.i64) (CTy.pair CTy.str (CTy.int IntKind.i64))) y1) =>
  (match s.ent 1 with
  | some (.row false 178 (CTy.pair (CTy.int IntKind.i64) (CTy.pair CTy.str (CTy.int IntKind.i64))) y2) =>
  some (y0, y1, y2)
  | _ => none)
  | _ => none)
  | _ => none)
  | _ => none)
  | _ => none)

def k54 : Lp kbu where
  h := ⟨[11, 12, 13, 14, 17, 18, 19, 20, 21, 22, 23, 24, 25, 26, 4, 15, 16, 5], [0, 1], [], []⟩
  JL := k12p
  JE := k12i
  XL := k12e
  XE := k12z
  q := fun j => match j with | 0 => .ret | _ => .exit 0
  tags := [0, 1]
  lt := kkb
  fuel := fun (y0, y1, y2) => y0.natAbs + y1.length + y2.length
  fix := fun (_, y1, y2) (y0, _, _) => (y0, y1, y2)
  σ := [(0, 0), (1, 1)]
  rd := kru

theorem k10x : LoopOk Tryz.prog (fun k => Nat.blt k Tryz.f96.ntmps) k54.F (loopAt Tryz.f96 0) := by
  refine Lp.ok (tbl := [k13b]) (lf := []) hmix k54 (by kernel_rfl) (LOk.nil _) (fun _ => rfl) (fun j _ => by unfold k54; match j with | 0 => rfl | _ + 1 => rfl) ?_ ?_ ?_ ?_ (fun _ => rfl) ?_
  · intro x; obtain ⟨y0, y1, y2⟩ := x; kernel_rfl
  · intro x; obtain ⟨y0, y1, y2⟩ := x; kernel_rfl
  · intro s x h
    have h : kru s = some x := h
    unfold kru at h
    repeat' split at h
    all_goals cases h
    exact ⟨absS_cons (by assumption) rfl (absS_cons (by assumption) rfl (absS_cons (by assumption) rfl (rfl))), absE_cons rfl (by assumption) rfl (absE_cons rfl (by assumption) rfl (rfl))⟩
  · intro x; obtain ⟨y0, y1, y2⟩ := x; kernel_rfl
  · intro x z; obtain ⟨y0, y1, y2⟩ := x; exact (And.intro (And.intro trivial rfl) trivial)

def kso (x0 : List (Int × ByteArray × Int)) (x1 : List (Int × ByteArray × Int)) : Bool :=
  (↑(List.length x0) : Int) != (↑(List.length x1) : Int)

def ksp (x0 : List (Int × ByteArray × Int)) (x1 : List (Int × ByteArray × Int)) : Int × List (Int × ByteArray × Int) × List (Int × ByteArray × Int) :=
  ((0 : Int), x0, x1)

def ku0 (x0 : List (Int × ByteArray × Int)) (x1 : List (Int × ByteArray × Int)) : Bool :=
  bif kso x0 x1 then false else bif Nat.beq (Prod.fst (Lp.res k54 (ksp x0 x1))) (0 : Nat) then false else true

def ktw (x0 : List (Int × ByteArray × Int)) (x1 : List (Int × ByteArray × Int)) : Bool :=
  allT [kso x0 x1 || Lp.fin k54 (ksp x0 x1)]

def k113 : List SV → List Entry → Option Out
  | [.one ⟨false, [.ref 0]⟩, .one ⟨false, [.ref 1]⟩], [.row false 178 (.pair (.int .i64) (.pair (.str) (.int .i64))) x0, .row false 178 (.pair (.int .i64) (.pair (.str) (.int .i64))) x1] => some ⟨(.one ⟨false, [(.val (.bool (ku0 x0 x1)))]⟩), [(.row false 178 (CTy.pair (CTy.int IntKind.i64) (CTy.pair CTy.str (CTy.int IntKind.i64))) x0), (.row false 178 (CTy.pair (CTy.int IntKind.i64) (CTy.pair CTy.str (CTy.int IntKind.i64))) x1)], [], [(ktw x0 x1)]⟩
  | _, _ => none

def k15f : PF Tryz.prog := PF.ofG Tryz.prog [k13b] [k54.F] hmix 96 Tryz.f96 Tryz.func96 (LOk.fnT (l := [loopAt Tryz.f96 0]) (by kernel_rfl) (.cons k10x (.nil _))) k113 (by
  intro vs es r h; unfold k113 at h; split at h
  · cases h; kernel_rfl
  · cases h)

def kht (x0 : Int) (x1 : Int) (x2 : Int) (x3 : Int) : Bool :=
  bif x0 != x2 then false else bif x1 != x3 then false else true

def kue : List SV → List Entry → Option Out
  | [.one ⟨true, [.val (.int .i64 x0), .val (.int .i64 x1)]⟩, .one ⟨true, [.val (.int .i64 x2), .val (.int .i64 x3)]⟩], [] => some ⟨(.one ⟨false, [(.val (.bool (kht x0 x1 x2 x3)))]⟩), [], [], []⟩
  | _, _ => none

def ku3 : PF Tryz.prog := PF.ofG Tryz.prog [] [] hmix 167 Tryz.f167 Tryz.func167 (fun c _ => LOk.nil c) kue (by
  intro vs es r h; unfold kue at h; split at h
  · cases h; kernel_rfl
  · cases h)

abbrev k4h := Int × List (Int × Int) × List (Int × Int)

def kb6 (y0 : Int) (y1 : List (Int × Int)) : Int × Int :=
  Option.getD y1[Int.toNat y0]? ((0 : Int), (0 : Int))

def kb7 (y0 : Int) (y2 : List (Int × Int)) : Int × Int :=
  Option.getD y2[Int.toNat y0]? ((0 : Int), (0 : Int))

def kbw (y0 : Int) (y1 : List (Int × Int)) : Bool :=
  ltI y0 (↑(List.length y1) : Int)

def kbv (y0 : Int) : Bool :=
  leI (0 : Int) y0

def ket (y0 : Int) (y1 : List (Int × Int)) : Bool :=
  ltN (Int.toNat y0) (List.length y1)

def ke7 (y0 : Int) (y2 : List (Int × Int)) : Bool :=
  ltI y0 (↑(List.length y2) : Int)

def kea (y0 : Int) (y2 : List (Int × Int)) : Bool :=
  ltN (Int.toNat y0) (List.length y2)

def kef (y0 : Int) (y1 : List (Int × Int)) (y2 : List (Int × Int)) : Bool :=
  !kht (Prod.fst (kb6 y0 y1)) (Prod.snd (kb6 y0 y1))
    (Prod.fst (kb7 y0 y2)) (Prod.snd (kb7 y0 y2))

def kec (y0 : Int) : Int :=
  IntKind.wrap IntKind.i64 (y0 + (1 : Int))

def kwp : k4h → List (Nat × SV)
  | (y0, _, _) => [(5, (.one ⟨false, [(.val (.int IntKind.i64 y0))]⟩)), (0, (.one ⟨false, [(.ref 0)]⟩)), (1, (.one ⟨false, [(.ref 1)]⟩))]

def kwr : k4h → List (Nat × Entry)
  | (_, y1, y2) => [(0, (.row false 150 (CTy.pair (CTy.int IntKind.i64) (CTy.int IntKind.i64)) y1)), (1, (.row false 150 (CTy.pair (CTy.int IntKind.i64) (CTy.int IntKind.i64)) y2))]

def kwc : Nat → k4h → List (Nat × SV)
  | 0, (_, _, _) => [(4, (.one ⟨false, [(.val (.bool false))]⟩))]
  | _, (_, _, _) => []

def kw6 : Nat → k4h → List (Nat × Entry)
  | 0, (_, y1, y2) => [(0, (.row false 150 (CTy.pair (CTy.int IntKind.i64) (CTy.int IntKind.i64)) y1)), (1, (.row false 150 (CTy.pair (CTy.int IntKind.i64) (CTy.int IntKind.i64)) y2))]
  | _, (_, y1, y2) => [(0, (.row false 150 (CTy.pair (CTy.int IntKind.i64) (CTy.int IntKind.i64)) y1)), (1, (.row false 150 (CTy.pair (CTy.int IntKind.i64) (CTy.int IntKind.i64)) y2))]

def kdx : k4h → LT k4h
  | (y0, y1, y2) => .ite (kbw y0 y1) (.need [(kbv y0), (kbw y0 y1), (ket y0 y1), (kbv y0), (ke7 y0 y2), (kea y0 y2)] (.ite (kef y0 y1 y2) (.ext 0 [(0, 0), (1, 1)]) (.nrm ((kec y0), y1, y2) [(0, 0), (1, 1)]))) (.ext 1 [(0, 0), (1, 1)])

def kkg (s : St) : Option k4h :=
  (match s.look 5 with
  | some ⟨none, (.one ⟨false, [(.val (.int IntKind.i64 y0))]⟩)⟩ =>
  (match s.look 0 with
  | some ⟨none, (.one ⟨false, [(.ref 0)]⟩)⟩ =>
  (match s.look 1 with
  | some ⟨none, (.one ⟨false, [(.ref 1)]⟩)⟩ =>
  (match s.ent 0 with
  | some (.row false 150 (CTy.pair (CTy.int IntKind.i64) (CTy.int IntKind.i64)) y1) =>
  (match s.ent 1 with
  | some (.row false 150 (CTy.pair (CTy.int IntKind.i64) (CTy.int IntKind.i64)) y2) =>
  some (y0, y1, y2)
  | _ => none)
  | _ => none)
  | _ => none)
  | _ => none)
  | _ => none)

def k2b : Lp k4h where
  h := ⟨[11, 12, 13, 14, 17, 18, 19, 20, 21, 22, 23, 24, 25, 26, 4, 15, 16, 5], [0, 1], [], []⟩
  JL := kwp
  JE := kwr
  XL := kwc
  XE := kw6
  q := fun j => match j with | 0 => .ret | _ => .exit 0
  tags := [0, 1]
  lt := kdx
  fuel := fun (y0, y1, y2) => y0.natAbs + y1.length + y2.length
  fix := fun (_, y1, y2) (y0, _, _) => (y0, y1, y2)
  σ := [(0, 0), (1, 1)]
  rd := kkg

theorem kv5 : LoopOk Tryz.prog (fun k => Nat.blt k Tryz.f97.ntmps) k2b.F (loopAt Tryz.f97 0) := by
  refine Lp.ok (tbl := [ku3]) (lf := []) hmix k2b (by kernel_rfl) (LOk.nil _) (fun _ => rfl) (fun j _ => by unfold k2b; match j with | 0 => rfl | _ + 1 => rfl) ?_ ?_ ?_ ?_ (fun _ => rfl) ?_
  · intro x; obtain ⟨y0, y1, y2⟩ := x; kernel_rfl
  · intro x; obtain ⟨y0, y1, y2⟩ := x; kernel_rfl
  · intro s x h
    have h : kkg s = some x := h
    unfold kkg at h
    repeat' split at h
    all_goals cases h
    exact ⟨absS_cons (by assumption) rfl (absS_cons (by assumption) rfl (absS_cons (by assumption) rfl (rfl))), absE_cons rfl (by assumption) rfl (absE_cons rfl (by assumption) rfl (rfl))⟩
  · intro x; obtain ⟨y0, y1, y2⟩ := x; kernel_rfl
  · intro x z; obtain ⟨y0, y1, y2⟩ := x; exact (And.intro (And.intro trivial rfl) trivial)

def kj4 (x0 : List (Int × Int)) (x1 : List (Int × Int)) : Bool :=
  (↑(List.length x0) : Int) != (↑(List.length x1) : Int)

def kjn (x0 : List (Int × Int)) (x1 : List (Int × Int)) : Int × List (Int × Int) × List (Int × Int) :=
  ((0 : Int), x0, x1)

def kjx (x0 : List (Int × Int)) (x1 : List (Int × Int)) : Bool :=
  bif kj4 x0 x1 then false
  else bif Nat.beq (Prod.fst (Lp.res k2b (kjn x0 x1))) (0 : Nat) then false else true

def kk2 (x0 : List (Int × Int)) (x1 : List (Int × Int)) : Bool :=
  allT [kj4 x0 x1 || Lp.fin k2b (kjn x0 x1)]

def ktj : List SV → List Entry → Option Out
  | [.one ⟨false, [.ref 0]⟩, .one ⟨false, [.ref 1]⟩], [.row false 150 (.pair (.int .i64) (.int .i64)) x0, .row false 150 (.pair (.int .i64) (.int .i64)) x1] => some ⟨(.one ⟨false, [(.val (.bool (kjx x0 x1)))]⟩), [(.row false 150 (CTy.pair (CTy.int IntKind.i64) (CTy.int IntKind.i64)) x0), (.row false 150 (CTy.pair (CTy.int IntKind.i64) (CTy.int IntKind.i64)) x1)], [], [(kk2 x0 x1)]⟩
  | _, _ => none

def kzm : PF Tryz.prog := PF.ofG Tryz.prog [ku3] [k2b.F] hmix 97 Tryz.f97 Tryz.func97 (LOk.fnT (l := [loopAt Tryz.f97 0]) (by kernel_rfl) (.cons kv5 (.nil _))) ktj (by
  intro vs es r h; unfold ktj at h; split at h
  · cases h; kernel_rfl
  · cases h)

abbrev kdt := Int × ByteArray

def kch (y0 : Int) : ByteArray :=
  strOfNums [IntKind.wrap IntKind.u8 (IntKind.wrap IntKind.i64 ((48 : Int) + Int.tmod y0 (10 : Int)))]

def koi (y0 : Int) : Bool :=
  ltI (0 : Int) y0

def ks1  : Bool :=
  neI (10 : Int) (0 : Int)

def kws (y0 : Int) (y1 : ByteArray) : Bool :=
  leN (ByteArray.size (kch y0) + ByteArray.size y1) (9223372036854775807 : Nat)

def kwk (y0 : Int) : Int :=
  IntKind.wrap IntKind.i64 (Int.tdiv y0 (10 : Int))

def kwv (y0 : Int) (y1 : ByteArray) : ByteArray :=
  kch y0 ++ y1

def k11o : kdt → List (Nat × SV)
  | (y0, y1) => [(0, (.one ⟨false, [(.val (.int IntKind.i64 y0))]⟩)), (3, (.one ⟨false, [(.val (.string y1))]⟩))]

def k12b : kdt → List (Nat × Entry)
  | (_, _) => []

def k111 : Nat → kdt → List (Nat × SV)
  | _, (y0, y1) => [(3, (.one ⟨false, [(.val (.string y1))]⟩)), (0, (.one ⟨false, [(.val (.int IntKind.i64 y0))]⟩))]

def k126 : Nat → kdt → List (Nat × Entry)
  | _, (_, _) => []

def knk : kdt → LT kdt
  | (y0, y1) => .ite (koi y0) (.need [(ks1), (kws y0 y1)] (.need [(ks1)] (.nrm ((kwk y0), (kwv y0 y1)) []))) (.ext 0 [])

def kra (s : St) : Option kdt :=
  (match s.look 0 with
  | some ⟨none, (.one ⟨false, [(.val (.int IntKind.i64 y0))]⟩)⟩ =>
  (match s.look 3 with
  | some ⟨none, (.one ⟨false, [(.val (.string y1))]⟩)⟩ =>
  some (y0, y1)
  | _ => none)
  | _ => none)

def k7f : Lp kdt where
  h := ⟨[6, 7, 8, 9, 10, 11, 12, 13, 14, 15, 3, 16, 17, 0], [], [], []⟩
  JL := k11o
  JE := k12b
  XL := k111
  XE := k126
  q := fun j => match j with | _ => .exit 0
  tags := [0]
  lt := knk
  fuel := fun (y0, y1) => y0.natAbs + y1.size
  fix := fun (_, _) (y0, y1) => (y0, y1)
  σ := []
  rd := kra

theorem kzn : LoopOk Tryz.prog (fun k => Nat.blt k Tryz.f168.ntmps) k7f.F (loopAt Tryz.f168 0) := by
  refine Lp.ok (tbl := []) (lf := []) hmix k7f (by kernel_rfl) (LOk.nil _) (fun _ => rfl) (fun _ _ => rfl) ?_ ?_ ?_ ?_ (fun _ => rfl) ?_
  · intro x; obtain ⟨y0, y1⟩ := x; kernel_rfl
  · intro x; obtain ⟨y0, y1⟩ := x; kernel_rfl
  · intro s x h
    have h : kra s = some x := h
    unfold kra at h
    repeat' split at h
    all_goals cases h
    exact ⟨absS_cons (by assumption) rfl (absS_cons (by assumption) rfl (rfl)), rfl⟩
  · intro x; obtain ⟨y0, y1⟩ := x; kernel_rfl
  · intro x z; obtain ⟨y0, y1⟩ := x; exact (And.intro rfl trivial)

def kum (x0 : Int) : ByteArray :=
  Prod.snd (Prod.snd (Lp.res k7f (x0, { data := #[] })))

def kn6 (x0 : Int) : ByteArray :=
  bif leI x0 (0 : Int) then { data := #[(109 : UInt8), (48 : UInt8)] } else { data := #[(109 : UInt8)] } ++ kum x0

def kpd (x0 : Int) : Bool :=
  allT
  [leI x0 (0 : Int) || Lp.fin k7f (x0, { data := #[] }),
    leI x0 (0 : Int) || leN (ByteArray.size { data := #[(109 : UInt8)] } + ByteArray.size (kum x0)) (9223372036854775807 : Nat)]

def k100 : List SV → List Entry → Option Out
  | [.one ⟨false, [.val (.int .i64 x0)]⟩], [] => some ⟨(.one ⟨false, [(.val (.string (kn6 x0)))]⟩), [], [], [(kpd x0)]⟩
  | _, _ => none

def k107 : PF Tryz.prog := PF.ofG Tryz.prog [] [k7f.F] hmix 168 Tryz.f168 Tryz.func168 (LOk.fnT (l := [loopAt Tryz.f168 0]) (by kernel_rfl) (.cons kzn (.nil _))) k100 (by
  intro vs es r h; unfold k100 at h; split at h
  · cases h; kernel_rfl
  · cases h)

abbrev k94 := Int × Int × List (Int × (ByteArray × Int))

def kdg (y1 : Int) : Int :=
  IntKind.wrap IntKind.i64 (y1 + (1 : Int))

def kfz (y0 : Int) (y2 : List (Int × (ByteArray × Int))) : ByteArray × Int :=
  Prod.snd (Option.getD y2[Int.toNat y0]? ((0 : Int), ByteArray.empty, (0 : Int)))

def kbl (y0 : Int) (y1 : Int) (y2 : List (Int × (ByteArray × Int))) : List (Int × ByteArray × Int) :=
  List.set y2 (Int.toNat y0) (y1, Prod.fst (kfz y0 y2), Prod.snd (kfz y0 y2))

def kfi (y0 : Int) (y1 : Int) (y2 : List (Int × (ByteArray × Int))) : Int × ByteArray × Int :=
  Option.getD (kbl y0 y1 y2)[Int.toNat y0]? ((0 : Int), ByteArray.empty, (0 : Int))

def kbk (y0 : Int) (y1 : Int) (y2 : List (Int × (ByteArray × Int))) : List (Int × ByteArray × Int) :=
  List.set (kbl y0 y1 y2) (Int.toNat y0)
  (Prod.fst (kfi y0 y1 y2), kn6 (kdg y1), Prod.snd (Prod.snd (kfi y0 y1 y2)))

def kfj (y1 : Int) : Int :=
  IntKind.wrap IntKind.i64 (kdg y1 + (1 : Int))

def kff (y0 : Int) (y1 : Int) (y2 : List (Int × (ByteArray × Int))) : Int × ByteArray × Int :=
  Option.getD (kbk y0 y1 y2)[Int.toNat y0]? ((0 : Int), ByteArray.empty, (0 : Int))

def kgu (y0 : Int) (y2 : List (Int × (ByteArray × Int))) : Bool :=
  ltI y0 (↑(List.length y2) : Int)

def kei (y0 : Int) : Bool :=
  leI (0 : Int) y0

def kjl (y0 : Int) (y2 : List (Int × (ByteArray × Int))) : Bool :=
  ltN (Int.toNat y0) (List.length y2)

def kjd (y1 : Int) : Bool :=
  kpd (kdg y1)

def kj7 (y0 : Int) (y1 : Int) (y2 : List (Int × (ByteArray × Int))) : Bool :=
  ltI y0 (↑(List.length (kbl y0 y1 y2)) : Int)

def kjj (y0 : Int) (y1 : Int) (y2 : List (Int × (ByteArray × Int))) : Bool :=
  ltN (Int.toNat y0) (List.length (kbl y0 y1 y2))

def kjm (y0 : Int) (y1 : Int) (y2 : List (Int × (ByteArray × Int))) : Bool :=
  ltI y0 (↑(List.length (kbk y0 y1 y2)) : Int)

def kjh (y0 : Int) (y1 : Int) (y2 : List (Int × (ByteArray × Int))) : Bool :=
  ltN (Int.toNat y0) (List.length (kbk y0 y1 y2))

def kj2 (y0 : Int) : Int :=
  IntKind.wrap IntKind.i64 (y0 + (1 : Int))

def kj6 (y1 : Int) : Int :=
  IntKind.wrap IntKind.i64 (kfj y1 + (1 : Int))

def ki0 (y0 : Int) (y1 : Int) (y2 : List (Int × (ByteArray × Int))) : List (Int × (ByteArray × Int)) :=
  List.set (kbk y0 y1 y2) (Int.toNat y0)
  (Prod.fst (kff y0 y1 y2), Prod.fst (Prod.snd (kff y0 y1 y2)), kfj y1)

def k10p : k94 → List (Nat × SV)
  | (y0, y1, _) => [(5, (.one ⟨false, [(.val (.int IntKind.i64 y0))]⟩)), (0, (.one ⟨false, [(.ref 0)]⟩)), (1, (.one ⟨false, [(.val (.int IntKind.i64 y1))]⟩))]

def k10i : k94 → List (Nat × Entry)
  | (_, _, y2) => [(0, (.row true 178 (CTy.pair (CTy.int IntKind.i64) (CTy.pair CTy.str (CTy.int IntKind.i64))) y2))]

def k10g : Nat → k94 → List (Nat × SV)
  | _, (_, y1, _) => [(1, (.one ⟨false, [(.val (.int IntKind.i64 y1))]⟩))]

def k10f : Nat → k94 → List (Nat × Entry)
  | _, (_, _, y2) => [(0, (.row true 178 (CTy.pair (CTy.int IntKind.i64) (CTy.pair CTy.str (CTy.int IntKind.i64))) y2))]

def kim : k94 → LT k94
  | (y0, y1, y2) => .ite (kgu y0 y2) (.need [(kei y0), (kgu y0 y2), (kjl y0 y2)] (.need [(kjd y1), (kei y0), (kj7 y0 y1 y2), (kjj y0 y1 y2)] (.need [(kei y0), (kjm y0 y1 y2), (kjh y0 y1 y2)] (.nrm ((kj2 y0), (kj6 y1), (ki0 y0 y1 y2)) [(0, 0)])))) (.ext 0 [(0, 0)])

def kq8 (s : St) : Option k94 :=
  (match s.look 5 with
  | some ⟨none, (.one ⟨false, [(.val (.int IntKind.i64 y0))]⟩)⟩ =>
  (match s.look 0 with
  | some ⟨none, (.one ⟨false, [(.ref 0)]⟩)⟩ =>
  (match s.look 1 with
  | some ⟨none, (.one ⟨false, [(.val (.int IntKind.i64 y1))]⟩)⟩ =>
  (match s.ent 0 with
  | some (.row true 178 (CTy.pair (CTy.int IntKind.i64) (CTy.pair CTy.str (CTy.int IntKind.i64))) y2) =>
  some (y0, y1, y2)
  | _ => none)
  | _ => none)
  | _ => none)
  | _ => none)

def k4f : Lp k94 where
  h := ⟨[6, 7, 8, 9, 12, 13, 14, 15, 16, 17, 18, 1, 19, 20, 21, 22, 23, 24, 25, 26, 27, 28, 29, 30, 31, 32, 33, 10, 11, 5], [0], [], []⟩
  JL := k10p
  JE := k10i
  XL := k10g
  XE := k10f
  q := fun j => match j with | _ => .exit 0
  tags := [0]
  lt := kim
  fuel := fun (y0, y1, y2) => y0.natAbs + y1.natAbs + y2.length
  fix := fun (_, _, _) (y0, y1, y2) => (y0, y1, y2)
  σ := [(0, 0)]
  rd := kq8

theorem kyy : LoopOk Tryz.prog (fun k => Nat.blt k Tryz.f98.ntmps) k4f.F (loopAt Tryz.f98 0) := by
  refine Lp.ok (tbl := [k107]) (lf := []) hmix k4f (by kernel_rfl) (LOk.nil _) (fun _ => rfl) (fun _ _ => rfl) ?_ ?_ ?_ ?_ (fun _ => rfl) ?_
  · intro x; obtain ⟨y0, y1, y2⟩ := x; kernel_rfl
  · intro x; obtain ⟨y0, y1, y2⟩ := x; kernel_rfl
  · intro s x h
    have h : kq8 s = some x := h
    unfold kq8 at h
    repeat' split at h
    all_goals cases h
    exact ⟨absS_cons (by assumption) rfl (absS_cons (by assumption) rfl (absS_cons (by assumption) rfl (rfl))), absE_cons rfl (by assumption) rfl (rfl)⟩
  · intro x; obtain ⟨y0, y1, y2⟩ := x; kernel_rfl
  · intro x z; obtain ⟨y0, y1, y2⟩ := x; exact (And.intro rfl trivial)

def kpj (x0 : Int) (x1 : List (Int × ByteArray × Int)) : Int × Int × List (Int × ByteArray × Int) :=
  ((0 : Int), x0, x1)

def ktf (x0 : Int) (x1 : List (Int × ByteArray × Int)) : Int × List (Int × ByteArray × Int) :=
  Prod.snd (Prod.snd (Lp.res k4f (kpj x0 x1)))

def kur (x0 : Int) (x1 : List (Int × ByteArray × Int)) : Int :=
  Prod.fst (ktf x0 x1)

def kuu (x0 : Int) (x1 : List (Int × ByteArray × Int)) : List (Int × (ByteArray × Int)) :=
  Prod.snd (ktf x0 x1)

def kuh (x0 : Int) (x1 : List (Int × ByteArray × Int)) : Bool :=
  allT [Lp.fin k4f (kpj x0 x1)]

def kyc : List SV → List Entry → Option Out
  | [.one ⟨false, [.ref 0]⟩, .one ⟨false, [.val (.int .i64 x0)]⟩], [.row true 178 (.pair (.int .i64) (.pair (.str) (.int .i64))) x1] => some ⟨(.one ⟨false, [(.val (.int IntKind.i64 (kur x0 x1)))]⟩), [(.row true 178 (CTy.pair (CTy.int IntKind.i64) (CTy.pair CTy.str (CTy.int IntKind.i64))) (kuu x0 x1))], [], [(kuh x0 x1)]⟩
  | _, _ => none

def k14h : PF Tryz.prog := PF.ofG Tryz.prog [k107] [k4f.F] hmix 98 Tryz.f98 Tryz.func98 (LOk.fnT (l := [loopAt Tryz.f98 0]) (by kernel_rfl) (.cons kyy (.nil _))) kyc (by
  intro vs es r h; unfold kyc at h; split at h
  · cases h; kernel_rfl
  · cases h)

abbrev k3f := Int × Int × List (Int × Int)

def k5b (y0 : Int) (y1 : Int) (y2 : List (Int × Int)) : List (Int × Int) :=
  List.set y2 (Int.toNat y0) (y1, Prod.snd (Option.getD y2[Int.toNat y0]? ((0 : Int), (0 : Int))))

def k9p (y1 : Int) : Int :=
  IntKind.wrap IntKind.i64 (y1 + (1 : Int))

def kan (y0 : Int) (y2 : List (Int × Int)) : Bool :=
  ltI y0 (↑(List.length y2) : Int)

def kaj (y0 : Int) : Bool :=
  leI (0 : Int) y0

def kcp (y0 : Int) (y2 : List (Int × Int)) : Bool :=
  ltN (Int.toNat y0) (List.length y2)

def kd3 (y0 : Int) (y1 : Int) (y2 : List (Int × Int)) : Bool :=
  ltI y0 (↑(List.length (k5b y0 y1 y2)) : Int)

def kcv (y0 : Int) (y1 : Int) (y2 : List (Int × Int)) : Bool :=
  ltN (Int.toNat y0) (List.length (k5b y0 y1 y2))

def kd7 (y0 : Int) : Int :=
  IntKind.wrap IntKind.i64 (y0 + (1 : Int))

def kd8 (y1 : Int) : Int :=
  IntKind.wrap IntKind.i64 (k9p y1 + (1 : Int))

def kcy (y0 : Int) (y1 : Int) (y2 : List (Int × Int)) : List (Int × Int) :=
  List.set (k5b y0 y1 y2) (Int.toNat y0)
  (Prod.fst (Option.getD (k5b y0 y1 y2)[Int.toNat y0]? ((0 : Int), (0 : Int))), k9p y1)

def kv7 : k3f → List (Nat × SV)
  | (y0, y1, _) => [(5, (.one ⟨false, [(.val (.int IntKind.i64 y0))]⟩)), (0, (.one ⟨false, [(.ref 0)]⟩)), (1, (.one ⟨false, [(.val (.int IntKind.i64 y1))]⟩))]

def kv4 : k3f → List (Nat × Entry)
  | (_, _, y2) => [(0, (.row true 150 (CTy.pair (CTy.int IntKind.i64) (CTy.int IntKind.i64)) y2))]

def kv3 : Nat → k3f → List (Nat × SV)
  | _, (_, y1, _) => [(1, (.one ⟨false, [(.val (.int IntKind.i64 y1))]⟩))]

def kv1 : Nat → k3f → List (Nat × Entry)
  | _, (_, _, y2) => [(0, (.row true 150 (CTy.pair (CTy.int IntKind.i64) (CTy.int IntKind.i64)) y2))]

def kc6 : k3f → LT k3f
  | (y0, y1, y2) => .ite (kan y0 y2) (.need [(kaj y0), (kan y0 y2), (kcp y0 y2)] (.need [(kaj y0), (kd3 y0 y1 y2), (kcv y0 y1 y2)] (.nrm ((kd7 y0), (kd8 y1), (kcy y0 y1 y2)) [(0, 0)]))) (.ext 0 [(0, 0)])

def kip (s : St) : Option k3f :=
  (match s.look 5 with
  | some ⟨none, (.one ⟨false, [(.val (.int IntKind.i64 y0))]⟩)⟩ =>
  (match s.look 0 with
  | some ⟨none, (.one ⟨false, [(.ref 0)]⟩)⟩ =>
  (match s.look 1 with
  | some ⟨none, (.one ⟨false, [(.val (.int IntKind.i64 y1))]⟩)⟩ =>
  (match s.ent 0 with
  | some (.row true 150 (CTy.pair (CTy.int IntKind.i64) (CTy.int IntKind.i64)) y2) =>
  some (y0, y1, y2)
  | _ => none)
  | _ => none)
  | _ => none)
  | _ => none)

def k29 : Lp k3f where
  h := ⟨[6, 7, 8, 9, 12, 13, 14, 15, 16, 17, 18, 1, 19, 20, 21, 22, 23, 24, 25, 10, 11, 5], [0], [], []⟩
  JL := kv7
  JE := kv4
  XL := kv3
  XE := kv1
  q := fun j => match j with | _ => .exit 0
  tags := [0]
  lt := kc6
  fuel := fun (y0, y1, y2) => y0.natAbs + y1.natAbs + y2.length
  fix := fun (_, _, _) (y0, y1, y2) => (y0, y1, y2)
  σ := [(0, 0)]
  rd := kip

theorem ktx : LoopOk Tryz.prog (fun k => Nat.blt k Tryz.f99.ntmps) k29.F (loopAt Tryz.f99 0) := by
  refine Lp.ok (tbl := []) (lf := []) hmix k29 (by kernel_rfl) (LOk.nil _) (fun _ => rfl) (fun _ _ => rfl) ?_ ?_ ?_ ?_ (fun _ => rfl) ?_
  · intro x; obtain ⟨y0, y1, y2⟩ := x; kernel_rfl
  · intro x; obtain ⟨y0, y1, y2⟩ := x; kernel_rfl
  · intro s x h
    have h : kip s = some x := h
    unfold kip at h
    repeat' split at h
    all_goals cases h
    exact ⟨absS_cons (by assumption) rfl (absS_cons (by assumption) rfl (absS_cons (by assumption) rfl (rfl))), absE_cons rfl (by assumption) rfl (rfl)⟩
  · intro x; obtain ⟨y0, y1, y2⟩ := x; kernel_rfl
  · intro x z; obtain ⟨y0, y1, y2⟩ := x; exact (And.intro rfl trivial)

def kh6 (x0 : Int) (x1 : List (Int × Int)) : Int × Int × List (Int × Int) :=
  ((0 : Int), x0, x1)

def klv (x0 : Int) (x1 : List (Int × Int)) : Int × List (Int × Int) :=
  Prod.snd (Prod.snd (Lp.res k29 (kh6 x0 x1)))

def kne (x0 : Int) (x1 : List (Int × Int)) : Int :=
  Prod.fst (klv x0 x1)

def knf (x0 : Int) (x1 : List (Int × Int)) : List (Int × Int) :=
  Prod.snd (klv x0 x1)

def knh (x0 : Int) (x1 : List (Int × Int)) : Bool :=
  allT [Lp.fin k29 (kh6 x0 x1)]

def kre : List SV → List Entry → Option Out
  | [.one ⟨false, [.ref 0]⟩, .one ⟨false, [.val (.int .i64 x0)]⟩], [.row true 150 (.pair (.int .i64) (.int .i64)) x1] => some ⟨(.one ⟨false, [(.val (.int IntKind.i64 (kne x0 x1)))]⟩), [(.row true 150 (CTy.pair (CTy.int IntKind.i64) (CTy.int IntKind.i64)) (knf x0 x1))], [], [(knh x0 x1)]⟩
  | _, _ => none

def ky8 : PF Tryz.prog := PF.ofG Tryz.prog [] [k29.F] hmix 99 Tryz.f99 Tryz.func99 (LOk.fnT (l := [loopAt Tryz.f99 0]) (by kernel_rfl) (.cons ktx (.nil _))) kre (by
  intro vs es r h; unfold kre at h; split at h
  · cases h; kernel_rfl
  · cases h)

def kp5 (x0 : Int) (x1 : List (Int × Int × Int)) : Int :=
  IntKind.wrap IntKind.i64 (x0 - (↑(List.length x1) : Int))

def kqa (x0 : Int) (x1 : List (Int × Int × Int)) : Int :=
  bif ltI (kp5 x0 x1) (0 : Int) then (-1 : Int) else kp5 x0 x1

def ku7 : List SV → List Entry → Option Out
  | [.one ⟨false, [.ref 0]⟩, .one ⟨false, [.val (.int .i64 x0)]⟩], [.row false 194 (.pair (.int .i64) (.pair (.int .i64) (.int .i64))) x1] => some ⟨(.one ⟨false, [(.val (.int IntKind.i64 (kqa x0 x1)))]⟩), [(.row false 194 (CTy.pair (CTy.int IntKind.i64) (CTy.pair (CTy.int IntKind.i64) (CTy.int IntKind.i64))) x1)], [], []⟩
  | _, _ => none

def k10r : PF Tryz.prog := PF.ofG Tryz.prog [] [] hmix 100 Tryz.f100 Tryz.func100 (fun c _ => LOk.nil c) ku7 (by
  intro vs es r h; unfold ku7 at h; split at h
  · cases h; kernel_rfl
  · cases h)

abbrev kap := Int × Int × Int × Int × List (Int × (ByteArray × Int)) × List (Int × Int) × List Int × List (Int × (Int × Int))

def kgm (y0 : Int) (y4 : List (Int × (ByteArray × Int))) : Int × ByteArray × Int :=
  Option.getD y4[Int.toNat y0]? ((0 : Int), ByteArray.empty, (0 : Int))

def kep (y0 : Int) (y7 : List (Int × (Int × Int))) : Int × Int × Int :=
  Option.getD y7[Int.toNat y0]? ((0 : Int), (0 : Int), (0 : Int))

def khk (y0 : Int) (y4 : List (Int × (ByteArray × Int))) : Bool :=
  ltI y0 (↑(List.length y4) : Int)

def khg (y0 : Int) : Bool :=
  leI (0 : Int) y0

def kl6 (y0 : Int) (y4 : List (Int × (ByteArray × Int))) : Bool :=
  ltN (Int.toNat y0) (List.length y4)

def kl0 (y0 : Int) (y7 : List (Int × (Int × Int))) : Bool :=
  ltI y0 (↑(List.length y7) : Int)

def kko (y0 : Int) (y7 : List (Int × (Int × Int))) : Bool :=
  ltN (Int.toNat y0) (List.length y7)

def kl4 (y0 : Int) (y4 : List (Int × (ByteArray × Int))) (y7 : List (Int × (Int × Int))) : Bool :=
  !k2u (Prod.fst (kgm y0 y4)) (Prod.snd (Prod.snd (kgm y0 y4))) (Prod.fst (kep y0 y7))
    (Prod.fst (Prod.snd (kep y0 y7))) (Prod.snd (Prod.snd (kep y0 y7)))

def kk8 (y0 : Int) : Int :=
  IntKind.wrap IntKind.i64 (y0 + (1 : Int))

def k122 : kap → List (Nat × SV)
  | (y0, _, _, _, _, _, _, _) => [(5, (.one ⟨false, [(.val (.int IntKind.i64 y0))]⟩)), (2, (.one ⟨false, [(.ptr 0 0)]⟩)), (3, (.one ⟨false, [(.ptr 1 0)]⟩))]

def k11t : kap → List (Nat × Entry)
  | (_, y1, y2, y3, y4, y5, y6, y7) => [(0, (.box 34 [(.val (.int IntKind.i64 y1)), (.val (.int IntKind.i64 y2)), (.val (.int IntKind.i64 y3)), (.ref 2), (.ref 3)])), (1, (.box 48 [(.ref 4), (.ref 5)])), (2, (.row false 178 (CTy.pair (CTy.int IntKind.i64) (CTy.pair CTy.str (CTy.int IntKind.i64))) y4)), (3, (.row false 150 (CTy.pair (CTy.int IntKind.i64) (CTy.int IntKind.i64)) y5)), (4, (.row false 2 (CTy.int IntKind.i64) y6)), (5, (.row false 172 (CTy.pair (CTy.int IntKind.i64) (CTy.pair (CTy.int IntKind.i64) (CTy.int IntKind.i64))) y7))]

def k117 : Nat → kap → List (Nat × SV)
  | 0, (_, _, _, _, _, _, _, _) => [(4, (.one ⟨false, [(.val (.bool false))]⟩))]
  | _, (_, _, _, _, _, _, _, _) => []

def k11p : Nat → kap → List (Nat × Entry)
  | 0, (_, y1, y2, y3, y4, y5, y6, y7) => [(0, (.box 34 [(.val (.int IntKind.i64 y1)), (.val (.int IntKind.i64 y2)), (.val (.int IntKind.i64 y3)), (.ref 2), (.ref 3)])), (1, (.box 48 [(.ref 4), (.ref 5)])), (2, (.row false 178 (CTy.pair (CTy.int IntKind.i64) (CTy.pair CTy.str (CTy.int IntKind.i64))) y4)), (3, (.row false 150 (CTy.pair (CTy.int IntKind.i64) (CTy.int IntKind.i64)) y5)), (4, (.row false 2 (CTy.int IntKind.i64) y6)), (5, (.row false 172 (CTy.pair (CTy.int IntKind.i64) (CTy.pair (CTy.int IntKind.i64) (CTy.int IntKind.i64))) y7))]
  | _, (_, y1, y2, y3, y4, y5, y6, y7) => [(0, (.box 34 [(.val (.int IntKind.i64 y1)), (.val (.int IntKind.i64 y2)), (.val (.int IntKind.i64 y3)), (.ref 2), (.ref 3)])), (1, (.box 48 [(.ref 4), (.ref 5)])), (2, (.row false 178 (CTy.pair (CTy.int IntKind.i64) (CTy.pair CTy.str (CTy.int IntKind.i64))) y4)), (3, (.row false 150 (CTy.pair (CTy.int IntKind.i64) (CTy.int IntKind.i64)) y5)), (4, (.row false 2 (CTy.int IntKind.i64) y6)), (5, (.row false 172 (CTy.pair (CTy.int IntKind.i64) (CTy.pair (CTy.int IntKind.i64) (CTy.int IntKind.i64))) y7))]

def kj9 : kap → LT kap
  | (y0, y1, y2, y3, y4, y5, y6, y7) => .ite (khk y0 y4) (.need [(khg y0), (khk y0 y4), (kl6 y0 y4), (khg y0), (kl0 y0 y7), (kko y0 y7)] (.ite (kl4 y0 y4 y7) (.ext 0 [(0, 0), (1, 1), (2, 2), (3, 3), (4, 4), (5, 5)]) (.nrm ((kk8 y0), y1, y2, y3, y4, y5, y6, y7) [(0, 0), (1, 1), (2, 2), (3, 3), (4, 4), (5, 5)]))) (.ext 1 [(0, 0), (1, 1), (2, 2), (3, 3), (4, 4), (5, 5)])

def kqy (s : St) : Option kap :=
  (match s.look 5 with
  | some ⟨none, (.one ⟨false, [(.val (.int IntKind.i64 y0))]⟩)⟩ =>
  (match s.look 2 with
  | some ⟨none, (.one ⟨false, [(.ptr 320 0)]⟩)⟩ =>
  (match s.look 3 with
  | some ⟨none, (.one ⟨false, [(.ptr 384 0)]⟩)⟩ =>
  (match s.ent 320 with
  | some (.box 34 [(.val (.int IntKind.i64 y1)), (.val (.int IntKind.i64 y2)), (.val (.int IntKind.i64 y3)), (.ref 0), (.ref 1)]) =>
  (match s.ent 384 with
  | some (.box 48 [(.ref 2), (.ref 3)]) =>
  (match s.ent 0 with
  | some (.row false 178 (CTy.pair (CTy.int IntKind.i64) (CTy.pair CTy.str (CTy.int IntKind.i64))) y4) =>
  (match s.ent 1 with
  | some (.row false 150 (CTy.pair (CTy.int IntKind.i64) (CTy.int IntKind.i64)) y5) =>
  (match s.ent 2 with
  | some (.row false 2 (CTy.int IntKind.i64) y6) =>
  (match s.ent 3 with
  | some (.row false 172 (CTy.pair (CTy.int IntKind.i64) (CTy.pair (CTy.int IntKind.i64) (CTy.int IntKind.i64))) y7) =>
  some (y0, y1, y2, y3, y4, y5, y6, y7)
  | _ => none)
  | _ => none)
  | _ => none)
  | _ => none)
  | _ => none)
  | _ => none)
  | _ => none)
  | _ => none)
  | _ => none)

def k48 : Lp kap where
  h := ⟨[21, 22, 23, 24, 25, 28, 29, 30, 31, 32, 33, 34, 35, 36, 37, 38, 39, 4, 26, 27, 5], [0, 1, 2, 3, 4, 5], [], []⟩
  JL := k122
  JE := k11t
  XL := k117
  XE := k11p
  q := fun j => match j with | 0 => .ret | _ => .exit 0
  tags := [0, 1]
  lt := kj9
  fuel := fun (y0, y1, y2, y3, y4, y5, y6, y7) => y0.natAbs + y1.natAbs + y2.natAbs + y3.natAbs + y4.length + y5.length + y6.length + y7.length
  fix := fun (_, y1, y2, y3, y4, y5, y6, y7) (y0, _, _, _, _, _, _, _) => (y0, y1, y2, y3, y4, y5, y6, y7)
  σ := [(0, 320), (1, 384), (2, 0), (3, 1), (4, 2), (5, 3)]
  rd := kqy

theorem kzo : LoopOk Tryz.prog (fun k => Nat.blt k Tryz.f101.ntmps) k48.F (loopAt Tryz.f101 0) := by
  refine Lp.ok (tbl := [kwb, kda, PF.lend kda, PF.fz kda]) (lf := []) hmix k48 (by kernel_rfl) (LOk.nil _) (fun _ => rfl) (fun j _ => by unfold k48; match j with | 0 => rfl | _ + 1 => rfl) ?_ ?_ ?_ ?_ (fun _ => rfl) ?_
  · intro x; obtain ⟨y0, y1, y2, y3, y4, y5, y6, y7⟩ := x; kernel_rfl
  · intro x; obtain ⟨y0, y1, y2, y3, y4, y5, y6, y7⟩ := x; kernel_rfl
  · intro s x h
    have h : kqy s = some x := h
    unfold kqy at h
    repeat' split at h
    all_goals cases h
    exact ⟨absS_cons (by assumption) rfl (absS_cons (by assumption) rfl (absS_cons (by assumption) rfl (rfl))), absE_cons rfl (by assumption) rfl (absE_cons rfl (by assumption) rfl (absE_cons rfl (by assumption) rfl (absE_cons rfl (by assumption) rfl (absE_cons rfl (by assumption) rfl (absE_cons rfl (by assumption) rfl (rfl))))))⟩
  · intro x; obtain ⟨y0, y1, y2, y3, y4, y5, y6, y7⟩ := x; kernel_rfl
  · intro x z; obtain ⟨y0, y1, y2, y3, y4, y5, y6, y7⟩ := x; exact (And.intro (And.intro trivial rfl) trivial)

def kil (x3 : List (Int × ByteArray × Int)) (x6 : List (Int × Int × Int)) : Bool :=
  (↑(List.length x6) : Int) != (↑(List.length x3) : Int)

def kub (x0 : Int) (x1 : Int) (x2 : Int) (x3 : List (Int × ByteArray × Int)) (x4 : List (Int × Int)) (x5 : List Int) (x6 : List (Int × Int × Int)) : Int × Int × Int × Int × List (Int × ByteArray × Int) × List (Int × Int) × List Int × List (Int × Int × Int) :=
  ((0 : Int), x0, x1, x2, x3, x4, x5, x6)

def ksm (x0 : Int) (x1 : Int) (x2 : Int) (x3 : List (Int × ByteArray × Int)) (x4 : List (Int × Int)) (x5 : List Int) (x6 : List (Int × Int × Int)) : Bool :=
  bif bif kil x3 x6 then true else !bitsB x1 x5 then false
  else bif Nat.beq (Prod.fst (Lp.res k48 (kub x0 x1 x2 x3 x4 x5 x6))) (0 : Nat) then false else true

def kst (x0 : Int) (x1 : Int) (x2 : Int) (x3 : List (Int × ByteArray × Int)) (x4 : List (Int × Int)) (x5 : List Int) (x6 : List (Int × Int × Int)) : Bool :=
  allT
  [!(!kil x3 x6 && true) || leN (List.length x5) (9223372036854775807 : Nat),
    (bif kil x3 x6 then true else !bitsB x1 x5) || Lp.fin k48 (kub x0 x1 x2 x3 x4 x5 x6)]

def k10b : List SV → List Entry → Option Out
  | [.one ⟨true, [.val (.int .i64 x0), .val (.int .i64 x1), .val (.int .i64 x2), .ref 0, .ref 1]⟩, .one ⟨true, [.ref 2, .ref 3]⟩], [.row false 178 (.pair (.int .i64) (.pair (.str) (.int .i64))) x3, .row false 150 (.pair (.int .i64) (.int .i64)) x4, .row false 2 (.int .i64) x5, .row false 172 (.pair (.int .i64) (.pair (.int .i64) (.int .i64))) x6] => some ⟨(.one ⟨false, [(.val (.bool (ksm x0 x1 x2 x3 x4 x5 x6)))]⟩), [(.row false 178 (CTy.pair (CTy.int IntKind.i64) (CTy.pair CTy.str (CTy.int IntKind.i64))) x3), (.row false 150 (CTy.pair (CTy.int IntKind.i64) (CTy.int IntKind.i64)) x4), (.row false 2 (CTy.int IntKind.i64) x5), (.row false 172 (CTy.pair (CTy.int IntKind.i64) (CTy.pair (CTy.int IntKind.i64) (CTy.int IntKind.i64))) x6)], [], [(kst x0 x1 x2 x3 x4 x5 x6)]⟩
  | _, _ => none

def k150 : PF Tryz.prog := PF.ofG Tryz.prog [kwb, kda, PF.lend kda, PF.fz kda] [k48.F] hmix 101 Tryz.f101 Tryz.func101 (LOk.fnT (l := [loopAt Tryz.f101 0]) (by kernel_rfl) (.cons kzo (.nil _))) k10b (by
  intro vs es r h; unfold k10b at h; split at h
  · cases h; kernel_rfl
  · cases h)

abbrev k56 := Int × List (Int × (Int × Int)) × List (Int × (Int × Int))

def k9w (y0 : Int) (y1 : List (Int × (Int × Int))) : Int × Int × Int :=
  Option.getD y1[Int.toNat y0]? ((0 : Int), (0 : Int), (0 : Int))

def kcn (y0 : Int) (y1 : List (Int × (Int × Int))) : Bool :=
  ltI y0 (↑(List.length y1) : Int)

def kck (y0 : Int) : Bool :=
  leI (0 : Int) y0

def kfc (y0 : Int) (y1 : List (Int × (Int × Int))) : Bool :=
  ltN (Int.toNat y0) (List.length y1)

def kfe (y0 : Int) (y2 : List (Int × (Int × Int))) : Bool :=
  ltI y0 (↑(List.length y2) : Int)

def kf6 (y0 : Int) (y2 : List (Int × (Int × Int))) : Bool :=
  ltN (Int.toNat y0) (List.length y2)

def kfd (y0 : Int) : Int :=
  IntKind.wrap IntKind.i64 (y0 + (1 : Int))

def kfa (y0 : Int) (y1 : List (Int × (Int × Int))) (y2 : List (Int × (Int × Int))) : List (Int × (Int × Int)) :=
  List.set y2 (Int.toNat y0)
  (Prod.fst (k9w y0 y1), Prod.fst (Prod.snd (k9w y0 y1)),
    Prod.snd (Prod.snd (k9w y0 y1)))

def kxd : k56 → List (Nat × SV)
  | (y0, _, _) => [(4, (.one ⟨false, [(.val (.int IntKind.i64 y0))]⟩)), (0, (.one ⟨false, [(.ref 0)]⟩)), (3, (.one ⟨false, [(.ref 1)]⟩))]

def kxl : k56 → List (Nat × Entry)
  | (_, y1, y2) => [(0, (.row false 194 (CTy.pair (CTy.int IntKind.i64) (CTy.pair (CTy.int IntKind.i64) (CTy.int IntKind.i64))) y1)), (1, (.row true 172 (CTy.pair (CTy.int IntKind.i64) (CTy.pair (CTy.int IntKind.i64) (CTy.int IntKind.i64))) y2))]

def kxr : Nat → k56 → List (Nat × SV)
  | _, (_, _, _) => []

def kxf : Nat → k56 → List (Nat × Entry)
  | _, (_, y1, y2) => [(0, (.row false 194 (CTy.pair (CTy.int IntKind.i64) (CTy.pair (CTy.int IntKind.i64) (CTy.int IntKind.i64))) y1)), (1, (.row true 172 (CTy.pair (CTy.int IntKind.i64) (CTy.pair (CTy.int IntKind.i64) (CTy.int IntKind.i64))) y2))]

def kes : k56 → LT k56
  | (y0, y1, y2) => .ite (kcn y0 y1) (.need [(kck y0), (kcn y0 y1), (kfc y0 y1), (kck y0), (kfe y0 y2), (kf6 y0 y2)] (.nrm ((kfd y0), y1, (kfa y0 y1 y2)) [(0, 0), (1, 1)])) (.ext 0 [(0, 0), (1, 1)])

def klk (s : St) : Option k56 :=
  (match s.look 4 with
  | some ⟨none, (.one ⟨false, [(.val (.int IntKind.i64 y0))]⟩)⟩ =>
  (match s.look 0 with
  | some ⟨none, (.one ⟨false, [(.ref 0)]⟩)⟩ =>
  (match s.look 3 with
  | some ⟨none, (.one ⟨false, [(.ref 320)]⟩)⟩ =>
  (match s.ent 0 with
  | some (.row false 194 (CTy.pair (CTy.int IntKind.i64) (CTy.pair (CTy.int IntKind.i64) (CTy.int IntKind.i64))) y1) =>
  (match s.ent 320 with
  | some (.row true 172 (CTy.pair (CTy.int IntKind.i64) (CTy.pair (CTy.int IntKind.i64) (CTy.int IntKind.i64))) y2) =>
  some (y0, y1, y2)
  | _ => none)
  | _ => none)
  | _ => none)
  | _ => none)
  | _ => none)

def k2v : Lp k56 where
  h := ⟨[8, 9, 10, 11, 14, 15, 16, 17, 18, 19, 20, 21, 12, 13, 4], [0, 1], [], []⟩
  JL := kxd
  JE := kxl
  XL := kxr
  XE := kxf
  q := fun j => match j with | _ => .exit 0
  tags := [0]
  lt := kes
  fuel := fun (y0, y1, y2) => y0.natAbs + y1.length + y2.length
  fix := fun (_, y1, _) (y0, _, y2) => (y0, y1, y2)
  σ := [(0, 0), (1, 320)]
  rd := klk

theorem kvw : LoopOk Tryz.prog (fun k => Nat.blt k Tryz.f102.ntmps) k2v.F (loopAt Tryz.f102 0) := by
  refine Lp.ok (tbl := [kvb]) (lf := []) hmix k2v (by kernel_rfl) (LOk.nil _) (fun _ => rfl) (fun _ _ => rfl) ?_ ?_ ?_ ?_ (fun _ => rfl) ?_
  · intro x; obtain ⟨y0, y1, y2⟩ := x; kernel_rfl
  · intro x; obtain ⟨y0, y1, y2⟩ := x; kernel_rfl
  · intro s x h
    have h : klk s = some x := h
    unfold klk at h
    repeat' split at h
    all_goals cases h
    exact ⟨absS_cons (by assumption) rfl (absS_cons (by assumption) rfl (absS_cons (by assumption) rfl (rfl))), absE_cons rfl (by assumption) rfl (absE_cons rfl (by assumption) rfl (rfl))⟩
  · intro x; obtain ⟨y0, y1, y2⟩ := x; kernel_rfl
  · intro x z; obtain ⟨y0, y1, y2⟩ := x; exact (And.intro rfl trivial)

def kk3 (x0 : List (Int × Int × Int)) : Int × List (Int × Int × Int) × List (Int × Int × Int) :=
  ((0 : Int), x0, List.replicate (Int.toNat (↑(List.length x0) : Int)) ((0 : Int), (0 : Int), (0 : Int)))

def klu (x0 : List (Int × Int × Int)) : List (Int × (Int × Int)) :=
  Prod.snd (Prod.snd (Prod.snd (Lp.res k2v (kk3 x0))))

def klr (x0 : List (Int × Int × Int)) : Bool :=
  allT
  [leI (0 : Int) (↑(List.length x0) : Int), leI (↑(List.length x0) : Int) (↑(List.length x0) : Int),
    leI ((↑(24 : Nat) : Int) * (↑(List.length x0) : Int)) (281474976710656 : Int), leI (↑(List.length x0) : Int) (9223372036854775807 : Int),
    Lp.fin k2v (kk3 x0)]

def kuv : List SV → List Entry → Option Out
  | [.one ⟨false, [.ref 0]⟩], [.row false 194 (.pair (.int .i64) (.pair (.int .i64) (.int .i64))) x0] => some ⟨(.one ⟨false, [(.ref 1)]⟩), [(.row false 194 (CTy.pair (CTy.int IntKind.i64) (CTy.pair (CTy.int IntKind.i64) (CTy.int IntKind.i64))) x0)], [(.row true 172 (CTy.pair (CTy.int IntKind.i64) (CTy.pair (CTy.int IntKind.i64) (CTy.int IntKind.i64))) (klu x0))], [(klr x0)]⟩
  | _, _ => none

def k10u : PF Tryz.prog := PF.ofG Tryz.prog [kvb] [k2v.F] hmix 102 Tryz.f102 Tryz.func102 (LOk.fnT (l := [loopAt Tryz.f102 0]) (by kernel_rfl) (.cons kvw (.nil _))) kuv (by
  intro vs es r h; unfold kuv at h; split at h
  · cases h; kernel_rfl
  · cases h)

abbrev k57 := Int × List (Int × (Int × Int)) × List (Int × (Int × Int))

def k9u (y0 : Int) (y1 : List (Int × (Int × Int))) : Int × Int × Int :=
  Option.getD y1[Int.toNat y0]? ((0 : Int), (0 : Int), (0 : Int))

def k9x (y0 : Int) (y2 : List (Int × (Int × Int))) : Int × Int × Int :=
  Option.getD y2[Int.toNat y0]? ((0 : Int), (0 : Int), (0 : Int))

def kcm (y0 : Int) (y1 : List (Int × (Int × Int))) : Bool :=
  ltI y0 (↑(List.length y1) : Int)

def kcl (y0 : Int) : Bool :=
  leI (0 : Int) y0

def kf4 (y0 : Int) (y1 : List (Int × (Int × Int))) : Bool :=
  ltN (Int.toNat y0) (List.length y1)

def kf7 (y0 : Int) (y2 : List (Int × (Int × Int))) : Bool :=
  ltI y0 (↑(List.length y2) : Int)

def kf9 (y0 : Int) (y2 : List (Int × (Int × Int))) : Bool :=
  ltN (Int.toNat y0) (List.length y2)

def kf5 (y0 : Int) (y1 : List (Int × (Int × Int))) (y2 : List (Int × (Int × Int))) : Bool :=
  !kjc (Prod.fst (k9u y0 y1)) (Prod.fst (Prod.snd (k9u y0 y1)))
    (Prod.snd (Prod.snd (k9u y0 y1))) (Prod.fst (k9x y0 y2))
    (Prod.fst (Prod.snd (k9x y0 y2))) (Prod.snd (Prod.snd (k9x y0 y2)))

def kfb (y0 : Int) : Int :=
  IntKind.wrap IntKind.i64 (y0 + (1 : Int))

def kx3 : k57 → List (Nat × SV)
  | (y0, _, _) => [(5, (.one ⟨false, [(.val (.int IntKind.i64 y0))]⟩)), (0, (.one ⟨false, [(.ref 0)]⟩)), (1, (.one ⟨false, [(.ref 1)]⟩))]

def kx9 : k57 → List (Nat × Entry)
  | (_, y1, y2) => [(0, (.row false 172 (CTy.pair (CTy.int IntKind.i64) (CTy.pair (CTy.int IntKind.i64) (CTy.int IntKind.i64))) y1)), (1, (.row false 172 (CTy.pair (CTy.int IntKind.i64) (CTy.pair (CTy.int IntKind.i64) (CTy.int IntKind.i64))) y2))]

def kxg : Nat → k57 → List (Nat × SV)
  | 0, (_, _, _) => [(4, (.one ⟨false, [(.val (.bool false))]⟩))]
  | _, (_, _, _) => []

def kxm : Nat → k57 → List (Nat × Entry)
  | 0, (_, y1, y2) => [(0, (.row false 172 (CTy.pair (CTy.int IntKind.i64) (CTy.pair (CTy.int IntKind.i64) (CTy.int IntKind.i64))) y1)), (1, (.row false 172 (CTy.pair (CTy.int IntKind.i64) (CTy.pair (CTy.int IntKind.i64) (CTy.int IntKind.i64))) y2))]
  | _, (_, y1, y2) => [(0, (.row false 172 (CTy.pair (CTy.int IntKind.i64) (CTy.pair (CTy.int IntKind.i64) (CTy.int IntKind.i64))) y1)), (1, (.row false 172 (CTy.pair (CTy.int IntKind.i64) (CTy.pair (CTy.int IntKind.i64) (CTy.int IntKind.i64))) y2))]

def kek : k57 → LT k57
  | (y0, y1, y2) => .ite (kcm y0 y1) (.need [(kcl y0), (kcm y0 y1), (kf4 y0 y1), (kcl y0), (kf7 y0 y2), (kf9 y0 y2)] (.ite (kf5 y0 y1 y2) (.ext 0 [(0, 0), (1, 1)]) (.nrm ((kfb y0), y1, y2) [(0, 0), (1, 1)]))) (.ext 1 [(0, 0), (1, 1)])

def klf (s : St) : Option k57 :=
  (match s.look 5 with
  | some ⟨none, (.one ⟨false, [(.val (.int IntKind.i64 y0))]⟩)⟩ =>
  (match s.look 0 with
  | some ⟨none, (.one ⟨false, [(.ref 0)]⟩)⟩ =>
  (match s.look 1 with
  | some ⟨none, (.one ⟨false, [(.ref 1)]⟩)⟩ =>
  (match s.ent 0 with
  | some (.row false 172 (CTy.pair (CTy.int IntKind.i64) (CTy.pair (CTy.int IntKind.i64) (CTy.int IntKind.i64))) y1) =>
  (match s.ent 1 with
  | some (.row false 172 (CTy.pair (CTy.int IntKind.i64) (CTy.pair (CTy.int IntKind.i64) (CTy.int IntKind.i64))) y2) =>
  some (y0, y1, y2)
  | _ => none)
  | _ => none)
  | _ => none)
  | _ => none)
  | _ => none)

def k2j : Lp k57 where
  h := ⟨[11, 12, 13, 14, 17, 18, 19, 20, 21, 22, 23, 24, 25, 26, 4, 15, 16, 5], [0, 1], [], []⟩
  JL := kx3
  JE := kx9
  XL := kxg
  XE := kxm
  q := fun j => match j with | 0 => .ret | _ => .exit 0
  tags := [0, 1]
  lt := kek
  fuel := fun (y0, y1, y2) => y0.natAbs + y1.length + y2.length
  fix := fun (_, y1, y2) (y0, _, _) => (y0, y1, y2)
  σ := [(0, 0), (1, 1)]
  rd := klf

theorem kvv : LoopOk Tryz.prog (fun k => Nat.blt k Tryz.f103.ntmps) k2j.F (loopAt Tryz.f103 0) := by
  refine Lp.ok (tbl := [kvi]) (lf := []) hmix k2j (by kernel_rfl) (LOk.nil _) (fun _ => rfl) (fun j _ => by unfold k2j; match j with | 0 => rfl | _ + 1 => rfl) ?_ ?_ ?_ ?_ (fun _ => rfl) ?_
  · intro x; obtain ⟨y0, y1, y2⟩ := x; kernel_rfl
  · intro x; obtain ⟨y0, y1, y2⟩ := x; kernel_rfl
  · intro s x h
    have h : klf s = some x := h
    unfold klf at h
    repeat' split at h
    all_goals cases h
    exact ⟨absS_cons (by assumption) rfl (absS_cons (by assumption) rfl (absS_cons (by assumption) rfl (rfl))), absE_cons rfl (by assumption) rfl (absE_cons rfl (by assumption) rfl (rfl))⟩
  · intro x; obtain ⟨y0, y1, y2⟩ := x; kernel_rfl
  · intro x z; obtain ⟨y0, y1, y2⟩ := x; exact (And.intro (And.intro trivial rfl) trivial)

def kjy (x0 : List (Int × Int × Int)) (x1 : List (Int × Int × Int)) : Bool :=
  (↑(List.length x0) : Int) != (↑(List.length x1) : Int)

def kjz (x0 : List (Int × Int × Int)) (x1 : List (Int × Int × Int)) : Int × List (Int × Int × Int) × List (Int × Int × Int) :=
  ((0 : Int), x0, x1)

def kly (x0 : List (Int × Int × Int)) (x1 : List (Int × Int × Int)) : Bool :=
  bif kjy x0 x1 then false
  else bif Nat.beq (Prod.fst (Lp.res k2j (kjz x0 x1))) (0 : Nat) then false else true

def klm (x0 : List (Int × Int × Int)) (x1 : List (Int × Int × Int)) : Bool :=
  allT [kjy x0 x1 || Lp.fin k2j (kjz x0 x1)]

def ku5 : List SV → List Entry → Option Out
  | [.one ⟨false, [.ref 0]⟩, .one ⟨false, [.ref 1]⟩], [.row false 172 (.pair (.int .i64) (.pair (.int .i64) (.int .i64))) x0, .row false 172 (.pair (.int .i64) (.pair (.int .i64) (.int .i64))) x1] => some ⟨(.one ⟨false, [(.val (.bool (kly x0 x1)))]⟩), [(.row false 172 (CTy.pair (CTy.int IntKind.i64) (CTy.pair (CTy.int IntKind.i64) (CTy.int IntKind.i64))) x0), (.row false 172 (CTy.pair (CTy.int IntKind.i64) (CTy.pair (CTy.int IntKind.i64) (CTy.int IntKind.i64))) x1)], [], [(klm x0 x1)]⟩
  | _, _ => none

def k10o : PF Tryz.prog := PF.ofG Tryz.prog [kvi] [k2j.F] hmix 103 Tryz.f103 Tryz.func103 (LOk.fnT (l := [loopAt Tryz.f103 0]) (by kernel_rfl) (.cons kvv (.nil _))) ku5 (by
  intro vs es r h; unfold ku5 at h; split at h
  · cases h; kernel_rfl
  · cases h)

abbrev k3u := Int × Int × List (Int × (Int × Int))

def kag (y0 : Int) (y2 : List (Int × (Int × Int))) : Int × Int :=
  Prod.snd (Option.getD y2[Int.toNat y0]? ((0 : Int), (0 : Int), (0 : Int)))

def k62 (y0 : Int) (y1 : Int) (y2 : List (Int × (Int × Int))) : List (Int × Int × Int) :=
  List.set y2 (Int.toNat y0) (y1, Prod.fst (kag y0 y2), Prod.snd (kag y0 y2))

def kah (y0 : Int) (y1 : Int) (y2 : List (Int × (Int × Int))) : Int × Int × Int :=
  Option.getD (k62 y0 y1 y2)[Int.toNat y0]? ((0 : Int), (0 : Int), (0 : Int))

def kak (y1 : Int) : Int :=
  IntKind.wrap IntKind.i64 (y1 + (1 : Int))

def k64 (y0 : Int) (y1 : Int) (y2 : List (Int × (Int × Int))) : List (Int × Int × Int) :=
  List.set (k62 y0 y1 y2) (Int.toNat y0)
  (Prod.fst (kah y0 y1 y2), kak y1, Prod.snd (Prod.snd (kah y0 y1 y2)))

def kai (y1 : Int) : Int :=
  IntKind.wrap IntKind.i64 (kak y1 + (1 : Int))

def kaq (y0 : Int) (y1 : Int) (y2 : List (Int × (Int × Int))) : Int × Int × Int :=
  Option.getD (k64 y0 y1 y2)[Int.toNat y0]? ((0 : Int), (0 : Int), (0 : Int))

def kb5 (y0 : Int) (y2 : List (Int × (Int × Int))) : Bool :=
  ltI y0 (↑(List.length y2) : Int)

def k8f (y0 : Int) : Bool :=
  leI (0 : Int) y0

def ke0 (y0 : Int) (y2 : List (Int × (Int × Int))) : Bool :=
  ltN (Int.toNat y0) (List.length y2)

def kdr (y0 : Int) (y1 : Int) (y2 : List (Int × (Int × Int))) : Bool :=
  ltI y0 (↑(List.length (k62 y0 y1 y2)) : Int)

def kdk (y0 : Int) (y1 : Int) (y2 : List (Int × (Int × Int))) : Bool :=
  ltN (Int.toNat y0) (List.length (k62 y0 y1 y2))

def kdq (y0 : Int) (y1 : Int) (y2 : List (Int × (Int × Int))) : Bool :=
  ltI y0 (↑(List.length (k64 y0 y1 y2)) : Int)

def kdz (y0 : Int) (y1 : Int) (y2 : List (Int × (Int × Int))) : Bool :=
  ltN (Int.toNat y0) (List.length (k64 y0 y1 y2))

def kdm (y0 : Int) : Int :=
  IntKind.wrap IntKind.i64 (y0 + (1 : Int))

def kdu (y1 : Int) : Int :=
  IntKind.wrap IntKind.i64 (kai y1 + (1 : Int))

def kdn (y0 : Int) (y1 : Int) (y2 : List (Int × (Int × Int))) : List (Int × (Int × Int)) :=
  List.set (k64 y0 y1 y2) (Int.toNat y0)
  (Prod.fst (kaq y0 y1 y2), Prod.fst (Prod.snd (kaq y0 y1 y2)), kai y1)

def kvq : k3u → List (Nat × SV)
  | (y0, y1, _) => [(5, (.one ⟨false, [(.val (.int IntKind.i64 y0))]⟩)), (0, (.one ⟨false, [(.ref 0)]⟩)), (1, (.one ⟨false, [(.val (.int IntKind.i64 y1))]⟩))]

def kw5 : k3u → List (Nat × Entry)
  | (_, _, y2) => [(0, (.row true 172 (CTy.pair (CTy.int IntKind.i64) (CTy.pair (CTy.int IntKind.i64) (CTy.int IntKind.i64))) y2))]

def kvt : Nat → k3u → List (Nat × SV)
  | _, (_, y1, _) => [(1, (.one ⟨false, [(.val (.int IntKind.i64 y1))]⟩))]

def kvs : Nat → k3u → List (Nat × Entry)
  | _, (_, _, y2) => [(0, (.row true 172 (CTy.pair (CTy.int IntKind.i64) (CTy.pair (CTy.int IntKind.i64) (CTy.int IntKind.i64))) y2))]

def kct : k3u → LT k3u
  | (y0, y1, y2) => .ite (kb5 y0 y2) (.need [(k8f y0), (kb5 y0 y2), (ke0 y0 y2)] (.need [(k8f y0), (kdr y0 y1 y2), (kdk y0 y1 y2)] (.need [(k8f y0), (kdq y0 y1 y2), (kdz y0 y1 y2)] (.nrm ((kdm y0), (kdu y1), (kdn y0 y1 y2)) [(0, 0)])))) (.ext 0 [(0, 0)])

def kjs (s : St) : Option k3u :=
  (match s.look 5 with
  | some ⟨none, (.one ⟨false, [(.val (.int IntKind.i64 y0))]⟩)⟩ =>
  (match s.look 0 with
  | some ⟨none, (.one ⟨false, [(.ref 0)]⟩)⟩ =>
  (match s.look 1 with
  | some ⟨none, (.one ⟨false, [(.val (.int IntKind.i64 y1))]⟩)⟩ =>
  (match s.ent 0 with
  | some (.row true 172 (CTy.pair (CTy.int IntKind.i64) (CTy.pair (CTy.int IntKind.i64) (CTy.int IntKind.i64))) y2) =>
  some (y0, y1, y2)
  | _ => none)
  | _ => none)
  | _ => none)
  | _ => none)

def k2e : Lp k3u where
  h := ⟨[6, 7, 8, 9, 12, 13, 14, 15, 16, 17, 18, 1, 19, 20, 21, 22, 23, 24, 25, 26, 27, 28, 29, 30, 31, 32, 10, 11, 5], [0], [], []⟩
  JL := kvq
  JE := kw5
  XL := kvt
  XE := kvs
  q := fun j => match j with | _ => .exit 0
  tags := [0]
  lt := kct
  fuel := fun (y0, y1, y2) => y0.natAbs + y1.natAbs + y2.length
  fix := fun (_, _, _) (y0, y1, y2) => (y0, y1, y2)
  σ := [(0, 0)]
  rd := kjs

theorem kuo : LoopOk Tryz.prog (fun k => Nat.blt k Tryz.f104.ntmps) k2e.F (loopAt Tryz.f104 0) := by
  refine Lp.ok (tbl := []) (lf := []) hmix k2e (by kernel_rfl) (LOk.nil _) (fun _ => rfl) (fun _ _ => rfl) ?_ ?_ ?_ ?_ (fun _ => rfl) ?_
  · intro x; obtain ⟨y0, y1, y2⟩ := x; kernel_rfl
  · intro x; obtain ⟨y0, y1, y2⟩ := x; kernel_rfl
  · intro s x h
    have h : kjs s = some x := h
    unfold kjs at h
    repeat' split at h
    all_goals cases h
    exact ⟨absS_cons (by assumption) rfl (absS_cons (by assumption) rfl (absS_cons (by assumption) rfl (rfl))), absE_cons rfl (by assumption) rfl (rfl)⟩
  · intro x; obtain ⟨y0, y1, y2⟩ := x; kernel_rfl
  · intro x z; obtain ⟨y0, y1, y2⟩ := x; exact (And.intro rfl trivial)

def kf8 (x0 : Int) (x1 : List (Int × Int × Int)) : Int × Int × List (Int × Int × Int) :=
  ((0 : Int), x0, x1)

def kin (x0 : Int) (x1 : List (Int × Int × Int)) : Int × List (Int × Int × Int) :=
  Prod.snd (Prod.snd (Lp.res k2e (kf8 x0 x1)))

def ko5 (x0 : Int) (x1 : List (Int × Int × Int)) : Int :=
  Prod.fst (kin x0 x1)

def kod (x0 : Int) (x1 : List (Int × Int × Int)) : List (Int × (Int × Int)) :=
  Prod.snd (kin x0 x1)

def ko6 (x0 : Int) (x1 : List (Int × Int × Int)) : Bool :=
  allT [Lp.fin k2e (kf8 x0 x1)]

def kt4 : List SV → List Entry → Option Out
  | [.one ⟨false, [.ref 0]⟩, .one ⟨false, [.val (.int .i64 x0)]⟩], [.row true 172 (.pair (.int .i64) (.pair (.int .i64) (.int .i64))) x1] => some ⟨(.one ⟨false, [(.val (.int IntKind.i64 (ko5 x0 x1)))]⟩), [(.row true 172 (CTy.pair (CTy.int IntKind.i64) (CTy.pair (CTy.int IntKind.i64) (CTy.int IntKind.i64))) (kod x0 x1))], [], [(ko6 x0 x1)]⟩
  | _, _ => none

def kyk : PF Tryz.prog := PF.ofG Tryz.prog [] [k2e.F] hmix 104 Tryz.f104 Tryz.func104 (LOk.fnT (l := [loopAt Tryz.f104 0]) (by kernel_rfl) (.cons kuo (.nil _))) kt4 (by
  intro vs es r h; unfold kt4 at h; split at h
  · cases h; kernel_rfl
  · cases h)

abbrev k3v := Int × Int × List (Int × (Int × Int))

def k7x (y0 : Int) (y2 : List (Int × (Int × Int))) : Int × Int × Int :=
  Option.getD y2[Int.toNat y0]? ((0 : Int), (0 : Int), (0 : Int))

def kaf (y1 : Int) : Int :=
  IntKind.wrap IntKind.i64 (y1 + (1 : Int))

def kal (y1 : Int) : Int :=
  IntKind.wrap IntKind.i64 (kaf y1 + (1 : Int))

def k6y (y0 : Int) (y2 : List (Int × (Int × Int))) : Bool :=
  ltI y0 (↑(List.length y2) : Int)

def k8m (y0 : Int) : Bool :=
  leI (0 : Int) y0

def k8g (y0 : Int) (y2 : List (Int × (Int × Int))) : Bool :=
  ltN (Int.toNat y0) (List.length y2)

def kdw (y0 : Int) (y1 : Int) (y2 : List (Int × (Int × Int))) : Bool :=
  Prod.fst (k7x y0 y2) != y1

def k3t  : Int :=
  (-1 : Int)

def kdp (y0 : Int) (y1 : Int) (y2 : List (Int × (Int × Int))) : Bool :=
  Prod.fst (Prod.snd (k7x y0 y2)) != kaf y1

def kdy (y0 : Int) (y1 : Int) (y2 : List (Int × (Int × Int))) : Bool :=
  Prod.snd (Prod.snd (k7x y0 y2)) != kal y1

def kdv (y0 : Int) : Int :=
  IntKind.wrap IntKind.i64 (y0 + (1 : Int))

def kds (y1 : Int) : Int :=
  IntKind.wrap IntKind.i64 (kal y1 + (1 : Int))

def kw2 : k3v → List (Nat × SV)
  | (y0, y1, _) => [(5, (.one ⟨false, [(.val (.int IntKind.i64 y0))]⟩)), (0, (.one ⟨false, [(.ref 0)]⟩)), (1, (.one ⟨false, [(.val (.int IntKind.i64 y1))]⟩))]

def kw3 : k3v → List (Nat × Entry)
  | (_, _, y2) => [(0, (.row false 172 (CTy.pair (CTy.int IntKind.i64) (CTy.pair (CTy.int IntKind.i64) (CTy.int IntKind.i64))) y2))]

def kvx : Nat → k3v → List (Nat × SV)
  | 0, (_, _, _) => [(4, (.one ⟨false, [(.val (.int IntKind.i64 (k3t)))]⟩))]
  | 1, (_, _, _) => [(4, (.one ⟨false, [(.val (.int IntKind.i64 (k3t)))]⟩))]
  | 2, (_, _, _) => [(4, (.one ⟨false, [(.val (.int IntKind.i64 (k3t)))]⟩))]
  | _, (_, y1, _) => [(1, (.one ⟨false, [(.val (.int IntKind.i64 y1))]⟩))]

def kvu : Nat → k3v → List (Nat × Entry)
  | 0, (_, _, y2) => [(0, (.row false 172 (CTy.pair (CTy.int IntKind.i64) (CTy.pair (CTy.int IntKind.i64) (CTy.int IntKind.i64))) y2))]
  | 1, (_, _, y2) => [(0, (.row false 172 (CTy.pair (CTy.int IntKind.i64) (CTy.pair (CTy.int IntKind.i64) (CTy.int IntKind.i64))) y2))]
  | 2, (_, _, y2) => [(0, (.row false 172 (CTy.pair (CTy.int IntKind.i64) (CTy.pair (CTy.int IntKind.i64) (CTy.int IntKind.i64))) y2))]
  | _, (_, _, y2) => [(0, (.row false 172 (CTy.pair (CTy.int IntKind.i64) (CTy.pair (CTy.int IntKind.i64) (CTy.int IntKind.i64))) y2))]

def kd1 : k3v → LT k3v
  | (y0, y1, y2) => .ite (k6y y0 y2) (.need [(k8m y0), (k6y y0 y2), (k8g y0 y2)] (.ite (kdw y0 y1 y2) (.ext 0 [(0, 0)]) (.need [(k8m y0), (k6y y0 y2), (k8g y0 y2)] (.ite (kdp y0 y1 y2) (.ext 1 [(0, 0)]) (.need [(k8m y0), (k6y y0 y2), (k8g y0 y2)] (.ite (kdy y0 y1 y2) (.ext 2 [(0, 0)]) (.nrm ((kdv y0), (kds y1), y2) [(0, 0)]))))))) (.ext 3 [(0, 0)])

def kjv (s : St) : Option k3v :=
  (match s.look 5 with
  | some ⟨none, (.one ⟨false, [(.val (.int IntKind.i64 y0))]⟩)⟩ =>
  (match s.look 0 with
  | some ⟨none, (.one ⟨false, [(.ref 0)]⟩)⟩ =>
  (match s.look 1 with
  | some ⟨none, (.one ⟨false, [(.val (.int IntKind.i64 y1))]⟩)⟩ =>
  (match s.ent 0 with
  | some (.row false 172 (CTy.pair (CTy.int IntKind.i64) (CTy.pair (CTy.int IntKind.i64) (CTy.int IntKind.i64))) y2) =>
  some (y0, y1, y2)
  | _ => none)
  | _ => none)
  | _ => none)
  | _ => none)

def k1q : Lp k3v where
  h := ⟨[6, 7, 8, 9, 12, 13, 14, 15, 16, 17, 18, 4, 19, 20, 1, 21, 22, 23, 24, 25, 26, 27, 28, 29, 30, 31, 32, 33, 34, 35, 36, 37, 38, 10, 11, 5], [0], [], []⟩
  JL := kw2
  JE := kw3
  XL := kvx
  XE := kvu
  q := fun j => match j with | 0 => .ret | 1 => .ret | 2 => .ret | _ => .exit 0
  tags := [0, 1, 2, 3]
  lt := kd1
  fuel := fun (y0, y1, y2) => y0.natAbs + y1.natAbs + y2.length
  fix := fun (_, _, y2) (y0, y1, _) => (y0, y1, y2)
  σ := [(0, 0)]
  rd := kjv

theorem kuk : LoopOk Tryz.prog (fun k => Nat.blt k Tryz.f105.ntmps) k1q.F (loopAt Tryz.f105 0) := by
  refine Lp.ok (tbl := []) (lf := []) hmix k1q (by kernel_rfl) (LOk.nil _) (fun _ => rfl) (fun j _ => by unfold k1q; match j with | 0 => rfl | 1 => rfl | 2 => rfl | _ + 3 => rfl) ?_ ?_ ?_ ?_ (fun _ => rfl) ?_
  · intro x; obtain ⟨y0, y1, y2⟩ := x; kernel_rfl
  · intro x; obtain ⟨y0, y1, y2⟩ := x; kernel_rfl
  · intro s x h
    have h : kjv s = some x := h
    unfold kjv at h
    repeat' split at h
    all_goals cases h
    exact ⟨absS_cons (by assumption) rfl (absS_cons (by assumption) rfl (absS_cons (by assumption) rfl (rfl))), absE_cons rfl (by assumption) rfl (rfl)⟩
  · intro x; obtain ⟨y0, y1, y2⟩ := x; kernel_rfl
  · intro x z; obtain ⟨y0, y1, y2⟩ := x; exact (And.intro (And.intro trivial (And.intro trivial (And.intro trivial rfl))) trivial)

def kax (x0 : Int) (x1 : List (Int × Int × Int)) : Int × Int × List (Int × Int × Int) :=
  ((0 : Int), x0, x1)

def kj0 (x0 : Int) (x1 : List (Int × Int × Int)) : Int :=
  bif Nat.beq (Prod.fst (Lp.res k1q (kax x0 x1))) (0 : Nat) then k3t
  else
  bif Nat.beq (Prod.fst (Lp.res k1q (kax x0 x1))) (1 : Nat) then k3t
  else
    bif Nat.beq (Prod.fst (Lp.res k1q (kax x0 x1))) (2 : Nat) then k3t
    else Prod.fst (Prod.snd (Prod.snd (Lp.res k1q (kax x0 x1))))

def ko4 (x0 : Int) (x1 : List (Int × Int × Int)) : Bool :=
  allT [Lp.fin k1q (kax x0 x1)]

def kt3 : List SV → List Entry → Option Out
  | [.one ⟨false, [.ref 0]⟩, .one ⟨false, [.val (.int .i64 x0)]⟩], [.row false 172 (.pair (.int .i64) (.pair (.int .i64) (.int .i64))) x1] => some ⟨(.one ⟨false, [(.val (.int IntKind.i64 (kj0 x0 x1)))]⟩), [(.row false 172 (CTy.pair (CTy.int IntKind.i64) (CTy.pair (CTy.int IntKind.i64) (CTy.int IntKind.i64))) x1)], [], [(ko4 x0 x1)]⟩
  | _, _ => none

def kyr : PF Tryz.prog := PF.ofG Tryz.prog [] [k1q.F] hmix 105 Tryz.f105 Tryz.func105 (LOk.fnT (l := [loopAt Tryz.f105 0]) (by kernel_rfl) (.cons kuk (.nil _))) kt3 (by
  intro vs es r h; unfold kt3 at h; split at h
  · cases h; kernel_rfl
  · cases h)

end Go.SX

namespace Go.SX
open Go.Proofs
set_option maxRecDepth 100000

/-- A block's state. -/
abbrev BS := Int × Int × Int

def nextB (k n : Int) (l : List Int) (s : BS) : BS := (k7e k n s.1 s.2.1 s.2.2 l, k7l k s.2.1 s.2.2 l, k7d k n s.1 s.2.2 l)
def valB (k n : Int) (l : List Int) (s : BS) : Int := k50 k n s.1 s.2.1 s.2.2 l

theorem k186 {k n a b c : Int} {s : ByteArray} {l : List Int} (hB : blockB k s n = true) (hP : possB k n a b c = true) (hA : bitsB (takesK k) l = true) :
    (kn7 k n a b c l, kn3 k b c l, kn5 k n a b c l) = nextB k n l (a, b, c) ∧ possB k n (nextB k n l (a, b, c)).1 (nextB k n l (a, b, c)).2.1 (nextB k n l (a, b, c)).2.2 = true := by
  obtain ⟨_, e1, e2, e3, _, _, e6⟩ := k17b hB hP hA
  exact ⟨by rw [e1, e2, e3]; rfl, e6⟩

end Go.SX

namespace Go.SX
open Go.Proofs
set_option maxRecDepth 100000

/-- A loop of few rounds, by what stays true. -/
theorem Lp.inv {X : Type} (p : Lp X) (I : Nat → X → Prop) (Q : Nat → X → Prop)
    (hs : ∀ k x, I (k + 1) x → (∃ j, (p.lt x).out = some (.inl j) ∧ Q j x) ∨ ∃ y, (p.lt x).out = some (.inr y) ∧ I k y)
    (he : ∀ x, I 0 x → ∃ j, (p.lt x).out = some (.inl j) ∧ Q j x) (N : Nat) (x : X) (hN : N ≤ 999) (h : I N x) :
    p.fin x = true ∧ ∃ j y, p.res x = (j, y) ∧ Q j y := by
  have key : ∀ (k : Nat) (x : X), I k x → ∃ j y, runL p.lt (k + 1) x = some (j, y) ∧ Q j y := by
    intro k
    induction k with
    | zero =>
      intro x h
      obtain ⟨j, h1, h2⟩ := he x h
      exact ⟨j, x, runL_end _ h1, h2⟩
    | succ k ih =>
      intro x h
      rcases hs k x h with ⟨j, h1, h2⟩ | ⟨y, h1, h2⟩
      · exact ⟨j, x, runL_end _ h1, h2⟩
      · obtain ⟨j, z, h3, h4⟩ := ih y h2
        exact ⟨j, z, by rw [runL_next _ h1]; exact h3, h4⟩
  obtain ⟨j, y, h1, h2⟩ := key N x h
  obtain ⟨r1, r2⟩ := p.run h1 (le_big (by omega))
  exact ⟨r1, j, y, r2, h2⟩

abbrev TM := Int × ByteArray × Int

theorem k18a {a b : ByteArray} : a.toList = b.toList ↔ a = b := by
  constructor
  · intro h
    rw [Go.Lib.toList_data, Go.Lib.toList_data] at h
    exact ByteArray.ext (Array.toList_inj.1 h)
  · intro h; rw [h]

theorem k170 (N : Nat) (hN : N ≤ 20) (k : Int) (h0 : 0 ≤ k) (hm : k ≤ 9223372036854775807) (hk : k < 10 ^ N) (s : ByteArray) (hs : s.size = 0) :
    k7f.fin (k, s) = true ∧ ∃ j r, k7f.res (k, s) = (j, r) ∧ r.2.size ≤ 20 := by
  refine k7f.inv (fun m x => (0 ≤ x.1 ∧ x.1 < 10 ^ m) ∧ (m ≤ N ∧ x.1 ≤ 9223372036854775807) ∧ x.2.size ≤ N - m) (fun _ r => r.2.size ≤ 20) (fun m x hx => ?_) (fun x hx => ?_) N _ (by omega) ⟨⟨h0, hk⟩, ⟨Nat.le_refl _, hm⟩, by simp only; omega⟩
  · obtain ⟨y0, y1⟩ := x
    obtain ⟨⟨h1, h2⟩, ⟨hm, hm2⟩, hl⟩ := hx
    simp only at h1 h2 hl hm2
    by_cases hz : 0 < y0
    · refine .inr ⟨(Int.tdiv y0 10, kch y0 ++ y1), ?_, ⟨?_, ?_⟩, ⟨by omega, ?_⟩, ?_⟩
      · have t1 : ltI 0 y0 = true := ltI_t hz
        have hsz : (kch y0).size = 1 := by simp [kch, strOfNums_size]
        have t2 : leN ((kch y0).size + y1.size) 9223372036854775807 = true := leN_t (by omega)
        have hw : IntKind.i64.wrap (Int.tdiv y0 10) = Int.tdiv y0 10 := by
          rw [Int.tdiv_eq_ediv_of_nonneg h1]; exact wrap_i64 (by omega) (by omega)
        simp only [k7f, knk, LT.out, koi, ks1, kws, kwk, kwv, t1, t2, hw, allT, cond_true]
        rfl
      · simp only; rw [Int.tdiv_eq_ediv_of_nonneg h1]; omega
      · simp only; rw [Int.tdiv_eq_ediv_of_nonneg h1]
        rw [Int.pow_succ] at h2; omega
      · simp only; rw [Int.tdiv_eq_ediv_of_nonneg h1]; omega
      · have hsz : (kch y0).size = 1 := by simp [kch, strOfNums_size]
        simp only [ByteArray.size_append, hsz]; omega
    · refine .inl ⟨0, ?_, by simp only; omega⟩
      simp [k7f, knk, LT.out, koi, show ltI 0 y0 = false from ltI_f (by omega)]
  · obtain ⟨y0, y1⟩ := x
    obtain ⟨⟨h1, h2⟩, ⟨hm, hm2⟩, hl⟩ := hx
    simp only at h1 h2 hl hm2
    have : y0 = 0 := by simp at h2; omega
    subst this
    exact ⟨0, by simp [k7f, knk, LT.out, koi], by simp only; omega⟩

theorem k183 (k : Int) (h : (leI 0 k && leI k 9223372036854775807) = true) : kpd k = true := by
  simp only [Bool.and_eq_true, leI_iff] at h
  obtain ⟨w1, j, r, w2, w3⟩ := k170 20 (by omega) k h.1 h.2 (by omega) ⟨#[]⟩ rfl
  simp only [kpd, kum, w1, w2, allT, Bool.or_true, cond_true, Bool.or_eq_true]
  have : leN (ByteArray.size ⟨#[109]⟩ + r.2.size) 9223372036854775807 = true := leN_t (by have : (ByteArray.size ⟨#[109]⟩) = 1 := rfl; omega)
  simp [this]

def totT : List TM → Nat
  | [] => 0
  | t :: r => t.2.1.size + totT r

def eqTs (xs ys : List (Int × ByteArray × Int)) : Bool := decide (xs = ys)
theorem k148 (xs : List (Int × ByteArray × Int)) : eqTs xs xs = true := by simp [eqTs]

def kgv (y1 : List (Int × (ByteArray × Int))) (b : Nat) : (List (Int × (ByteArray × Int))) → Nat ⊕ (List (Int × (ByteArray × Int)))
  | y2 => (.inr ((List.set y2 (b) (Prod.fst ((Option.getD y1[b]? ((0 : Int), ByteArray.empty, (0 : Int)))), Prod.fst (Prod.snd ((Option.getD y1[b]? ((0 : Int), ByteArray.empty, (0 : Int))))), Prod.snd (Prod.snd ((Option.getD y1[b]? ((0 : Int), ByteArray.empty, (0 : Int)))))))))

def kdo (y1 : List (Int × (ByteArray × Int))) (i : Nat) : (List (Int × (ByteArray × Int))) → kbs
  | y2 => ((i : Int), y1, y2)

def ksc : kbs → List (Int × (ByteArray × Int))
  | (_, _, y2) => y2

theorem k13w (y1 : List (Int × (ByteArray × Int))) (y2 : List (Int × (ByteArray × Int))) (hn : y1.length ≤ 9223372036854775807) (hl : y2.length = y1.length) :
    k6e.fin ((0 : Int), y1, y2) = true ∧ k6e.res ((0 : Int), y1, y2) = ((walkL (kgv y1) 0 (List.range y1.length) 0 y2).1, (kdo y1) (walkL (kgv y1) 0 (List.range y1.length) 0 y2).2.1 (walkL (kgv y1) 0 (List.range y1.length) 0 y2).2.2) := by
  have key := k6e.along (kdo y1) ksc (kgv y1) 0 (fun _ a => a.length = y1.length) (List.range y1.length) y2 hl (by simp only [k6e, kdo, List.length_range]; omega) (fun i b a hb hI => ?_) (fun a hI => ?_)
  · exact key
  · obtain y2 := a
    obtain ⟨rfl, hlt⟩ := range_get hb
    have hw : IntKind.i64.wrap ((b : Int) + 1) = ((b + 1 : Nat) : Int) := by rw [wrap_i64 (by omega) (by omega)]; omega
    have hdec : ltI (b : Int) (y1.length : Int) = true := ltI_t (by omega)
    have hnn : leI (0 : Int) (b : Int) = true := leI_t (by omega)
    have hltd : ltN b y1.length = true := ltN_t (by omega)
    refine ⟨?_, ?_, ?_, ?_⟩
    · simp [kfh, kiz, kix, kmg, kmt, kmp, km5, km6, kk4, k6e, LT.nds, allT, kdo, hdec, hnn, hltd, hI]
    · simp [kfh, kiz, kix, kmg, kmt, kmp, km5, km6, kk4, k6e, LT.each, kdo, ksc, hw, hI]
    · simp only [kfh, kiz, kix, kmg, kmt, kmp, km5, km6, kk4, k6e, LT.fn, kdo, ksc, kgv, Int.toNat_natCast, hdec, cond_true]
    · intro a' hf; simp only [kgv, Sum.inr.injEq] at hf; subst hf; simpa using hI
  · obtain y2 := a
    simp [kfh, kiz, kix, kmg, kmt, kmp, km5, km6, kk4, k6e, LT.out, kdo, List.length_range]

def kit (y1 : List (Int × (ByteArray × Int))) (y2 : List (Int × (ByteArray × Int))) (b : Nat) : (Unit) → Nat ⊕ (Unit)
  | _ => (bif ((!kt1 (Prod.fst ((Option.getD y1[b]? ((0 : Int), ByteArray.empty, (0 : Int))))) (Prod.fst (Prod.snd ((Option.getD y1[b]? ((0 : Int), ByteArray.empty, (0 : Int)))))) (Prod.snd (Prod.snd ((Option.getD y1[b]? ((0 : Int), ByteArray.empty, (0 : Int)))))) (Prod.fst ((Option.getD y2[b]? ((0 : Int), ByteArray.empty, (0 : Int))))) (Prod.fst (Prod.snd ((Option.getD y2[b]? ((0 : Int), ByteArray.empty, (0 : Int)))))) (Prod.snd (Prod.snd ((Option.getD y2[b]? ((0 : Int), ByteArray.empty, (0 : Int)))))))) then (.inl 0) else (.inr ()))

def kfv (y1 : List (Int × (ByteArray × Int))) (y2 : List (Int × (ByteArray × Int))) (i : Nat) : (Unit) → kbu
  | _ => ((i : Int), y1, y2)

def ks3 : kbu → Unit
  | (_, _, _) => ()

theorem k13y (y1 : List (Int × (ByteArray × Int))) (y2 : List (Int × (ByteArray × Int)))  (hn : y1.length ≤ 9223372036854775807) (he : y2.length = y1.length) :
    k54.fin ((0 : Int), y1, y2) = true ∧ k54.res ((0 : Int), y1, y2) = ((walkL (kit y1 y2) 1 (List.range y1.length) 0 ()).1, (kfv y1 y2) (walkL (kit y1 y2) 1 (List.range y1.length) 0 ()).2.1 (walkL (kit y1 y2) 1 (List.range y1.length) 0 ()).2.2) := by
  have key := k54.along (kfv y1 y2) ks3 (kit y1 y2) 1 (fun _ _ => True) (List.range y1.length) () (by trivial) (by simp only [k54, kfv, List.length_range]; omega) (fun i b a hb hI => ?_) (fun a hI => ?_)
  · exact key
  · obtain ⟨⟩ := a
    obtain ⟨rfl, hlt⟩ := range_get hb
    have hw : IntKind.i64.wrap ((b : Int) + 1) = ((b + 1 : Nat) : Int) := by rw [wrap_i64 (by omega) (by omega)]; omega
    have hdec : ltI (b : Int) (y1.length : Int) = true := ltI_t (by omega)
    have hnn : leI (0 : Int) (b : Int) = true := leI_t (by omega)
    have hltd : ltN b y1.length = true := ltN_t (by omega)
    refine ⟨?_, ?_, ?_, ?_⟩
    · simp [kfs, kfx, kiw, kir, km1, km0, kmq, kmd, kn1, kkb, k54, LT.nds, allT, kfv, hdec, hnn, hltd, he]
    · simp [kfs, kfx, kiw, kir, km1, km0, kmq, kmd, kn1, kkb, k54, LT.each, kfv, ks3, hw, he]
    · simp only [kfs, kfx, kiw, kir, km1, km0, kmq, kmd, kn1, kkb, k54, LT.fn, kfv, ks3, kit, Int.toNat_natCast, hdec, cond_true]
    · exact fun _ _ => trivial
  · obtain ⟨⟩ := a
    simp [kfs, kfx, kiw, kir, km1, km0, kmq, kmd, kn1, kkb, k54, LT.out, kfv, List.length_range]

theorem k177 (xs : List (Int × ByteArray × Int)) (hn : leN xs.length 1048576 = true) : kty xs = xs ∧ ktr xs = true := by
  have hn := leN_iff.1 hn
  have hr : (List.replicate (Int.toNat (xs.length : Int)) ((0 : Int), (⟨#[]⟩ : ByteArray), (0 : Int))).length = xs.length := by simp
  obtain ⟨w1, w2⟩ := k13w xs (List.replicate (Int.toNat (xs.length : Int)) ((0 : Int), (⟨#[]⟩ : ByteArray), (0 : Int))) (by omega) hr
  have hc := walk_copy (xs := xs) (d := ((0 : Int), (⟨#[]⟩ : ByteArray), (0 : Int))) (g := fun x => x) (f := kgv xs) (e := 0) (fun b a => rfl) hr
  rw [hc] at w2
  refine ⟨?_, ?_⟩
  · simp only [ksl, kty, ktr, w2, kdo]; simp
  · simp only [ksl, kty, ktr, w1, allT]; simp; omega

def k128 : List SV → List Entry → Option Out
  | [.one ⟨false, [.ref 0]⟩], [.row false 175 (.pair (.int .i64) (.pair (.str) (.int .i64))) x0] => some ⟨(.one ⟨false, [(.ref 1)]⟩), [(.row false 175 (CTy.pair (CTy.int IntKind.i64) (CTy.pair CTy.str (CTy.int IntKind.i64))) x0)], [(.row true 178 (CTy.pair (CTy.int IntKind.i64) (CTy.pair CTy.str (CTy.int IntKind.i64))) (x0))], [leN x0.length 1048576]⟩
  | _, _ => none

def kx4 : PF Tryz.prog := PF.alt k15k k128 (by
  intro args es o h hnd; unfold k128 at h; split at h
  · rename_i x0
    cases h
    have hnd := nd_fst hnd
    have hh := k177 x0 hnd
    obtain ⟨e0, en⟩ := hh
    exact altok rfl (nd_one en) rfl rfl (by simp only [e0] <;> rfl)
  · cases h)

theorem k16x (xs ys : List (Int × ByteArray × Int)) (hn : leN xs.length 9223372036854775807 = true) : ku0 xs ys = eqTs xs ys ∧ ktw xs ys = true := by
  have hn := leN_iff.1 hn
  unfold eqTs
  have h3 : ∀ a b : Int × ByteArray × Int, (!kt1 a.1 a.2.1 a.2.2 b.1 b.2.1 b.2.2) = !decide (a = b) := fun a b => by
    obtain ⟨a1, a2, a3⟩ := a; obtain ⟨b1, b2, b3⟩ := b
    simp only [kt1, Prod.mk.injEq]
    by_cases h1 : a1 = b1 <;> by_cases h2 : a2 = b2 <;> by_cases h3 : a3 = b3 <;> simp [h1, h2, h3, k18a]
  by_cases hl : ys.length = xs.length
  · obtain ⟨w1, w2⟩ := k13y xs ys hn hl
    have ha := any_ne (d := ((0 : Int), ByteArray.empty, (0 : Int))) hl (P := fun b => !decide (Option.getD xs[b]? ((0 : Int), ByteArray.empty, (0 : Int)) = Option.getD ys[b]? ((0 : Int), ByteArray.empty, (0 : Int)))) (fun b => rfl)
    rw [walk_stop (P := fun b => !decide (Option.getD xs[b]? ((0 : Int), ByteArray.empty, (0 : Int)) = Option.getD ys[b]? ((0 : Int), ByteArray.empty, (0 : Int)))) (j := 0) (fun b => by simp only [kit, h3]), ha] at w2
    simp only [kso, ksp, ku0, ktw, w1, w2, allT]
    by_cases he : xs = ys
    · subst he; simp; decide
    · simp [he, hl]
  · have hne : xs ≠ ys := fun h => hl (by rw [h])
    simp [kso, ksp, ku0, ktw, allT, hne]
    omega

def k115 : List SV → List Entry → Option Out
  | [.one ⟨false, [.ref 0]⟩, .one ⟨false, [.ref 1]⟩], [.row false 178 (.pair (.int .i64) (.pair (.str) (.int .i64))) x0, .row false 178 (.pair (.int .i64) (.pair (.str) (.int .i64))) x1] => some ⟨(.one ⟨false, [(.val (.bool (eqTs x0 x1)))]⟩), [(.row false 178 (CTy.pair (CTy.int IntKind.i64) (CTy.pair CTy.str (CTy.int IntKind.i64))) x0), (.row false 178 (CTy.pair (CTy.int IntKind.i64) (CTy.pair CTy.str (CTy.int IntKind.i64))) x1)], [], [leN x0.length 9223372036854775807]⟩
  | _, _ => none

def kxc : PF Tryz.prog := PF.alt k15f k115 (by
  intro args es o h hnd; unfold k115 at h; split at h
  · rename_i x0 x1
    cases h
    have hnd := nd_fst hnd
    have hh := k16x x0 x1 hnd
    obtain ⟨e0, en⟩ := hh
    exact altok rfl (nd_one en) (by simp only [e0] <;> rfl) rfl rfl
  · cases h)

def eqIs (xs ys : List (Int × Int)) : Bool := decide (xs = ys)
theorem k16m (xs : List (Int × Int)) : eqIs xs xs = true := by simp [eqIs]

def k9y (y1 : List (Int × Int)) (b : Nat) : (List (Int × Int)) → Nat ⊕ (List (Int × Int))
  | y2 => (.inr ((List.set y2 (b) (Prod.fst ((Option.getD y1[b]? ((0 : Int), (0 : Int)))), Prod.snd ((Option.getD y1[b]? ((0 : Int), (0 : Int))))))))

def k6z (y1 : List (Int × Int)) (i : Nat) : (List (Int × Int)) → k4k
  | y2 => ((i : Int), y1, y2)

def kkw : k4k → List (Int × Int)
  | (_, _, y2) => y2

theorem kxa (y1 : List (Int × Int)) (y2 : List (Int × Int)) (hn : y1.length ≤ 9223372036854775807) (hl : y2.length = y1.length) :
    k2m.fin ((0 : Int), y1, y2) = true ∧ k2m.res ((0 : Int), y1, y2) = ((walkL (k9y y1) 0 (List.range y1.length) 0 y2).1, (k6z y1) (walkL (k9y y1) 0 (List.range y1.length) 0 y2).2.1 (walkL (k9y y1) 0 (List.range y1.length) 0 y2).2.2) := by
  have key := k2m.along (k6z y1) kkw (k9y y1) 0 (fun _ a => a.length = y1.length) (List.range y1.length) y2 hl (by simp only [k2m, k6z, List.length_range]; omega) (fun i b a hb hI => ?_) (fun a hI => ?_)
  · exact key
  · obtain y2 := a
    obtain ⟨rfl, hlt⟩ := range_get hb
    have hw : IntKind.i64.wrap ((b : Int) + 1) = ((b + 1 : Nat) : Int) := by rw [wrap_i64 (by omega) (by omega)]; omega
    have hdec : ltI (b : Int) (y1.length : Int) = true := ltI_t (by omega)
    have hnn : leI (0 : Int) (b : Int) = true := leI_t (by omega)
    have hltd : ltN b y1.length = true := ltN_t (by omega)
    refine ⟨?_, ?_, ?_, ?_⟩
    · simp [kb8, kbz, kc2, kej, ked, ken, keu, ke8, kdj, k2m, LT.nds, allT, k6z, hdec, hnn, hltd, hI]
    · simp [kb8, kbz, kc2, kej, ked, ken, keu, ke8, kdj, k2m, LT.each, k6z, kkw, hw, hI]
    · simp only [kb8, kbz, kc2, kej, ked, ken, keu, ke8, kdj, k2m, LT.fn, k6z, kkw, k9y, Int.toNat_natCast, hdec, cond_true]
    · intro a' hf; simp only [k9y, Sum.inr.injEq] at hf; subst hf; simpa using hI
  · obtain y2 := a
    simp [kb8, kbz, kc2, kej, ked, ken, keu, ke8, kdj, k2m, LT.out, k6z, List.length_range]

def kc5 (y1 : List (Int × Int)) (y2 : List (Int × Int)) (b : Nat) : (Unit) → Nat ⊕ (Unit)
  | _ => (bif ((!kht (Prod.fst ((Option.getD y1[b]? ((0 : Int), (0 : Int))))) (Prod.snd ((Option.getD y1[b]? ((0 : Int), (0 : Int))))) (Prod.fst ((Option.getD y2[b]? ((0 : Int), (0 : Int))))) (Prod.snd ((Option.getD y2[b]? ((0 : Int), (0 : Int))))))) then (.inl 0) else (.inr ()))

def k8o (y1 : List (Int × Int)) (y2 : List (Int × Int)) (i : Nat) : (Unit) → k4h
  | _ => ((i : Int), y1, y2)

def kkd : k4h → Unit
  | (_, _, _) => ()

theorem kx0 (y1 : List (Int × Int)) (y2 : List (Int × Int))  (hn : y1.length ≤ 9223372036854775807) (he : y2.length = y1.length) :
    k2b.fin ((0 : Int), y1, y2) = true ∧ k2b.res ((0 : Int), y1, y2) = ((walkL (kc5 y1 y2) 1 (List.range y1.length) 0 ()).1, (k8o y1 y2) (walkL (kc5 y1 y2) 1 (List.range y1.length) 0 ()).2.1 (walkL (kc5 y1 y2) 1 (List.range y1.length) 0 ()).2.2) := by
  have key := k2b.along (k8o y1 y2) kkd (kc5 y1 y2) 1 (fun _ _ => True) (List.range y1.length) () (by trivial) (by simp only [k2b, k8o, List.length_range]; omega) (fun i b a hb hI => ?_) (fun a hI => ?_)
  · exact key
  · obtain ⟨⟩ := a
    obtain ⟨rfl, hlt⟩ := range_get hb
    have hw : IntKind.i64.wrap ((b : Int) + 1) = ((b + 1 : Nat) : Int) := by rw [wrap_i64 (by omega) (by omega)]; omega
    have hdec : ltI (b : Int) (y1.length : Int) = true := ltI_t (by omega)
    have hnn : leI (0 : Int) (b : Int) = true := leI_t (by omega)
    have hltd : ltN b y1.length = true := ltN_t (by omega)
    refine ⟨?_, ?_, ?_, ?_⟩
    · simp [kb6, kb7, kbw, kbv, ket, ke7, kea, kef, kec, kdx, k2b, LT.nds, allT, k8o, hdec, hnn, hltd, he]
    · simp [kb6, kb7, kbw, kbv, ket, ke7, kea, kef, kec, kdx, k2b, LT.each, k8o, kkd, hw, he]
    · simp only [kb6, kb7, kbw, kbv, ket, ke7, kea, kef, kec, kdx, k2b, LT.fn, k8o, kkd, kc5, Int.toNat_natCast, hdec, cond_true]
    · exact fun _ _ => trivial
  · obtain ⟨⟩ := a
    simp [kb6, kb7, kbw, kbv, ket, ke7, kea, kef, kec, kdx, k2b, LT.out, k8o, List.length_range]

theorem k145 (xs : List (Int × Int)) (hn : leN xs.length 1048576 = true) : kjw xs = xs ∧ kk1 xs = true := by
  have hn := leN_iff.1 hn
  have hr : (List.replicate (Int.toNat (xs.length : Int)) ((0 : Int), (0 : Int))).length = xs.length := by simp
  obtain ⟨w1, w2⟩ := kxa xs (List.replicate (Int.toNat (xs.length : Int)) ((0 : Int), (0 : Int))) (by omega) hr
  have hc := walk_copy (xs := xs) (d := ((0 : Int), (0 : Int))) (g := fun x => x) (f := k9y xs) (e := 0) (fun b a => rfl) hr
  rw [hc] at w2
  refine ⟨?_, ?_⟩
  · simp only [kj5, kjw, kk1, w2, k6z]; simp
  · simp only [kj5, kjw, kk1, w1, allT]; simp; omega

def ktn : List SV → List Entry → Option Out
  | [.one ⟨false, [.ref 0]⟩], [.row false 183 (.pair (.int .i64) (.int .i64)) x0] => some ⟨(.one ⟨false, [(.ref 1)]⟩), [(.row false 183 (CTy.pair (CTy.int IntKind.i64) (CTy.int IntKind.i64)) x0)], [(.row true 150 (CTy.pair (CTy.int IntKind.i64) (CTy.int IntKind.i64)) (x0))], [leN x0.length 1048576]⟩
  | _, _ => none

def kpc : PF Tryz.prog := PF.alt kzt ktn (by
  intro args es o h hnd; unfold ktn at h; split at h
  · rename_i x0
    cases h
    have hnd := nd_fst hnd
    have hh := k145 x0 hnd
    obtain ⟨e0, en⟩ := hh
    exact altok rfl (nd_one en) rfl rfl (by simp only [e0] <;> rfl)
  · cases h)

theorem k147 (xs ys : List (Int × Int)) (hn : leN xs.length 9223372036854775807 = true) : kjx xs ys = eqIs xs ys ∧ kk2 xs ys = true := by
  have hn := leN_iff.1 hn
  unfold eqIs
  have h3 : ∀ a b : Int × Int, (!kht a.1 a.2 b.1 b.2) = !decide (a = b) := fun a b => by
    obtain ⟨a1, a2⟩ := a; obtain ⟨b1, b2⟩ := b
    simp only [kht, Prod.mk.injEq]
    by_cases h1 : a1 = b1 <;> by_cases h2 : a2 = b2 <;> simp [h1, h2]
  by_cases hl : ys.length = xs.length
  · obtain ⟨w1, w2⟩ := kx0 xs ys hn hl
    have ha := any_ne (d := ((0 : Int), (0 : Int))) hl (P := fun b => !decide (Option.getD xs[b]? ((0 : Int), (0 : Int)) = Option.getD ys[b]? ((0 : Int), (0 : Int)))) (fun b => rfl)
    rw [walk_stop (P := fun b => !decide (Option.getD xs[b]? ((0 : Int), (0 : Int)) = Option.getD ys[b]? ((0 : Int), (0 : Int)))) (j := 0) (fun b => by simp only [kc5, h3]), ha] at w2
    simp only [kj4, kjn, kjx, kk2, w1, w2, allT]
    by_cases he : xs = ys
    · subst he; simp; decide
    · simp [he, hl]
  · have hne : xs ≠ ys := fun h => hl (by rw [h])
    simp [kj4, kjn, kjx, kk2, allT, hne]
    omega

def ktl : List SV → List Entry → Option Out
  | [.one ⟨false, [.ref 0]⟩, .one ⟨false, [.ref 1]⟩], [.row false 150 (.pair (.int .i64) (.int .i64)) x0, .row false 150 (.pair (.int .i64) (.int .i64)) x1] => some ⟨(.one ⟨false, [(.val (.bool (eqIs x0 x1)))]⟩), [(.row false 150 (CTy.pair (CTy.int IntKind.i64) (CTy.int IntKind.i64)) x0), (.row false 150 (CTy.pair (CTy.int IntKind.i64) (CTy.int IntKind.i64)) x1)], [], [leN x0.length 9223372036854775807]⟩
  | _, _ => none

def kp9 : PF Tryz.prog := PF.alt kzm ktl (by
  intro args es o h hnd; unfold ktl at h; split at h
  · rename_i x0 x1
    cases h
    have hnd := nd_fst hnd
    have hh := k147 x0 x1 hnd
    obtain ⟨e0, en⟩ := hh
    exact altok rfl (nd_one en) (by simp only [e0] <;> rfl) rfl rfl
  · cases h)

def eqBs (xs ys : List (Int × Int × Int)) : Bool := decide (xs = ys)
theorem k17p (xs : List (Int × Int × Int)) : eqBs xs xs = true := by simp [eqBs]

def kaw (y1 : List (Int × (Int × Int))) (b : Nat) : (List (Int × (Int × Int))) → Nat ⊕ (List (Int × (Int × Int)))
  | y2 => (.inr ((List.set y2 (b) (Prod.fst ((Option.getD y1[b]? ((0 : Int), (0 : Int), (0 : Int)))), Prod.fst (Prod.snd ((Option.getD y1[b]? ((0 : Int), (0 : Int), (0 : Int))))), Prod.snd (Prod.snd ((Option.getD y1[b]? ((0 : Int), (0 : Int), (0 : Int)))))))))

def k7k (y1 : List (Int × (Int × Int))) (i : Nat) : (List (Int × (Int × Int))) → k56
  | y2 => ((i : Int), y1, y2)

def kln : k56 → List (Int × (Int × Int))
  | (_, _, y2) => y2

theorem ky6 (y1 : List (Int × (Int × Int))) (y2 : List (Int × (Int × Int))) (hn : y1.length ≤ 9223372036854775807) (hl : y2.length = y1.length) :
    k2v.fin ((0 : Int), y1, y2) = true ∧ k2v.res ((0 : Int), y1, y2) = ((walkL (kaw y1) 0 (List.range y1.length) 0 y2).1, (k7k y1) (walkL (kaw y1) 0 (List.range y1.length) 0 y2).2.1 (walkL (kaw y1) 0 (List.range y1.length) 0 y2).2.2) := by
  have key := k2v.along (k7k y1) kln (kaw y1) 0 (fun _ a => a.length = y1.length) (List.range y1.length) y2 hl (by simp only [k2v, k7k, List.length_range]; omega) (fun i b a hb hI => ?_) (fun a hI => ?_)
  · exact key
  · obtain y2 := a
    obtain ⟨rfl, hlt⟩ := range_get hb
    have hw : IntKind.i64.wrap ((b : Int) + 1) = ((b + 1 : Nat) : Int) := by rw [wrap_i64 (by omega) (by omega)]; omega
    have hdec : ltI (b : Int) (y1.length : Int) = true := ltI_t (by omega)
    have hnn : leI (0 : Int) (b : Int) = true := leI_t (by omega)
    have hltd : ltN b y1.length = true := ltN_t (by omega)
    refine ⟨?_, ?_, ?_, ?_⟩
    · simp [k9w, kcn, kck, kfc, kfe, kf6, kfd, kfa, kes, k2v, LT.nds, allT, k7k, hdec, hnn, hltd, hI]
    · simp [k9w, kcn, kck, kfc, kfe, kf6, kfd, kfa, kes, k2v, LT.each, k7k, kln, hw, hI]
    · simp only [k9w, kcn, kck, kfc, kfe, kf6, kfd, kfa, kes, k2v, LT.fn, k7k, kln, kaw, Int.toNat_natCast, hdec, cond_true]
    · intro a' hf; simp only [kaw, Sum.inr.injEq] at hf; subst hf; simpa using hI
  · obtain y2 := a
    simp [k9w, kcn, kck, kfc, kfe, kf6, kfd, kfa, kes, k2v, LT.out, k7k, List.length_range]

def kcj (y1 : List (Int × (Int × Int))) (y2 : List (Int × (Int × Int))) (b : Nat) : (Unit) → Nat ⊕ (Unit)
  | _ => (bif ((!kjc (Prod.fst ((Option.getD y1[b]? ((0 : Int), (0 : Int), (0 : Int))))) (Prod.fst (Prod.snd ((Option.getD y1[b]? ((0 : Int), (0 : Int), (0 : Int)))))) (Prod.snd (Prod.snd ((Option.getD y1[b]? ((0 : Int), (0 : Int), (0 : Int)))))) (Prod.fst ((Option.getD y2[b]? ((0 : Int), (0 : Int), (0 : Int))))) (Prod.fst (Prod.snd ((Option.getD y2[b]? ((0 : Int), (0 : Int), (0 : Int)))))) (Prod.snd (Prod.snd ((Option.getD y2[b]? ((0 : Int), (0 : Int), (0 : Int)))))))) then (.inl 0) else (.inr ()))

def k9r (y1 : List (Int × (Int × Int))) (y2 : List (Int × (Int × Int))) (i : Nat) : (Unit) → k57
  | _ => ((i : Int), y1, y2)

def kls : k57 → Unit
  | (_, _, _) => ()

theorem kyb (y1 : List (Int × (Int × Int))) (y2 : List (Int × (Int × Int)))  (hn : y1.length ≤ 9223372036854775807) (he : y2.length = y1.length) :
    k2j.fin ((0 : Int), y1, y2) = true ∧ k2j.res ((0 : Int), y1, y2) = ((walkL (kcj y1 y2) 1 (List.range y1.length) 0 ()).1, (k9r y1 y2) (walkL (kcj y1 y2) 1 (List.range y1.length) 0 ()).2.1 (walkL (kcj y1 y2) 1 (List.range y1.length) 0 ()).2.2) := by
  have key := k2j.along (k9r y1 y2) kls (kcj y1 y2) 1 (fun _ _ => True) (List.range y1.length) () (by trivial) (by simp only [k2j, k9r, List.length_range]; omega) (fun i b a hb hI => ?_) (fun a hI => ?_)
  · exact key
  · obtain ⟨⟩ := a
    obtain ⟨rfl, hlt⟩ := range_get hb
    have hw : IntKind.i64.wrap ((b : Int) + 1) = ((b + 1 : Nat) : Int) := by rw [wrap_i64 (by omega) (by omega)]; omega
    have hdec : ltI (b : Int) (y1.length : Int) = true := ltI_t (by omega)
    have hnn : leI (0 : Int) (b : Int) = true := leI_t (by omega)
    have hltd : ltN b y1.length = true := ltN_t (by omega)
    refine ⟨?_, ?_, ?_, ?_⟩
    · simp [k9u, k9x, kcm, kcl, kf4, kf7, kf9, kf5, kfb, kek, k2j, LT.nds, allT, k9r, hdec, hnn, hltd, he]
    · simp [k9u, k9x, kcm, kcl, kf4, kf7, kf9, kf5, kfb, kek, k2j, LT.each, k9r, kls, hw, he]
    · simp only [k9u, k9x, kcm, kcl, kf4, kf7, kf9, kf5, kfb, kek, k2j, LT.fn, k9r, kls, kcj, Int.toNat_natCast, hdec, cond_true]
    · exact fun _ _ => trivial
  · obtain ⟨⟩ := a
    simp [k9u, k9x, kcm, kcl, kf4, kf7, kf9, kf5, kfb, kek, k2j, LT.out, k9r, List.length_range]

theorem k14q (xs : List (Int × Int × Int)) (hn : leN xs.length 1048576 = true) : klu xs = xs ∧ klr xs = true := by
  have hn := leN_iff.1 hn
  have hr : (List.replicate (Int.toNat (xs.length : Int)) ((0 : Int), (0 : Int), (0 : Int))).length = xs.length := by simp
  obtain ⟨w1, w2⟩ := ky6 xs (List.replicate (Int.toNat (xs.length : Int)) ((0 : Int), (0 : Int), (0 : Int))) (by omega) hr
  have hc := walk_copy (xs := xs) (d := ((0 : Int), (0 : Int), (0 : Int))) (g := fun x => x) (f := kaw xs) (e := 0) (fun b a => rfl) hr
  rw [hc] at w2
  refine ⟨?_, ?_⟩
  · simp only [kk3, klu, klr, w2, k7k]; simp
  · simp only [kk3, klu, klr, w1, allT]; simp; omega

def kuj : List SV → List Entry → Option Out
  | [.one ⟨false, [.ref 0]⟩], [.row false 194 (.pair (.int .i64) (.pair (.int .i64) (.int .i64))) x0] => some ⟨(.one ⟨false, [(.ref 1)]⟩), [(.row false 194 (CTy.pair (CTy.int IntKind.i64) (CTy.pair (CTy.int IntKind.i64) (CTy.int IntKind.i64))) x0)], [(.row true 172 (CTy.pair (CTy.int IntKind.i64) (CTy.pair (CTy.int IntKind.i64) (CTy.int IntKind.i64))) (x0))], [leN x0.length 1048576]⟩
  | _, _ => none

def kpw : PF Tryz.prog := PF.alt k10u kuj (by
  intro args es o h hnd; unfold kuj at h; split at h
  · rename_i x0
    cases h
    have hnd := nd_fst hnd
    have hh := k14q x0 hnd
    obtain ⟨e0, en⟩ := hh
    exact altok rfl (nd_one en) rfl rfl (by simp only [e0] <;> rfl)
  · cases h)

theorem k14b (xs ys : List (Int × Int × Int)) (hn : leN xs.length 9223372036854775807 = true) : kly xs ys = eqBs xs ys ∧ klm xs ys = true := by
  have hn := leN_iff.1 hn
  unfold eqBs
  have h3 : ∀ a b : Int × Int × Int, (!kjc a.1 a.2.1 a.2.2 b.1 b.2.1 b.2.2) = !decide (a = b) := fun a b => by
    obtain ⟨a1, a2, a3⟩ := a; obtain ⟨b1, b2, b3⟩ := b
    simp only [kjc, Prod.mk.injEq]
    by_cases h1 : a1 = b1 <;> by_cases h2 : a2 = b2 <;> by_cases h3 : a3 = b3 <;> simp [h1, h2, h3]
  by_cases hl : ys.length = xs.length
  · obtain ⟨w1, w2⟩ := kyb xs ys hn hl
    have ha := any_ne (d := ((0 : Int), (0 : Int), (0 : Int))) hl (P := fun b => !decide (Option.getD xs[b]? ((0 : Int), (0 : Int), (0 : Int)) = Option.getD ys[b]? ((0 : Int), (0 : Int), (0 : Int)))) (fun b => rfl)
    rw [walk_stop (P := fun b => !decide (Option.getD xs[b]? ((0 : Int), (0 : Int), (0 : Int)) = Option.getD ys[b]? ((0 : Int), (0 : Int), (0 : Int)))) (j := 0) (fun b => by simp only [kcj, h3]), ha] at w2
    simp only [kjy, kjz, kly, klm, w1, w2, allT]
    by_cases he : xs = ys
    · subst he; simp; decide
    · simp [he, hl]
  · have hne : xs ≠ ys := fun h => hl (by rw [h])
    simp [kjy, kjz, kly, klm, allT, hne]
    omega

def kus : List SV → List Entry → Option Out
  | [.one ⟨false, [.ref 0]⟩, .one ⟨false, [.ref 1]⟩], [.row false 172 (.pair (.int .i64) (.pair (.int .i64) (.int .i64))) x0, .row false 172 (.pair (.int .i64) (.pair (.int .i64) (.int .i64))) x1] => some ⟨(.one ⟨false, [(.val (.bool (eqBs x0 x1)))]⟩), [(.row false 172 (CTy.pair (CTy.int IntKind.i64) (CTy.pair (CTy.int IntKind.i64) (CTy.int IntKind.i64))) x0), (.row false 172 (CTy.pair (CTy.int IntKind.i64) (CTy.pair (CTy.int IntKind.i64) (CTy.int IntKind.i64))) x1)], [], [leN x0.length 9223372036854775807]⟩
  | _, _ => none

def kpv : PF Tryz.prog := PF.alt k10o kus (by
  intro args es o h hnd; unfold kus at h; split at h
  · rename_i x0 x1
    cases h
    have hnd := nd_fst hnd
    have hh := k14b x0 x1 hnd
    obtain ⟨e0, en⟩ := hh
    exact altok rfl (nd_one en) (by simp only [e0] <;> rfl) rfl rfl
  · cases h)

def upG {α : Type} (d : Nat) (mk : Int → α) (k : Int) (n : Nat) : List α := (List.range n).map fun (i : Nat) => mk (k + d * (i : Int))

theorem k164 {α : Type} (d : Nat) (mk : Int → α) (k : Int) (n : Nat) : (upG d mk k n).length = n := by simp [upG]

theorem k176 {α : Type} (d : Nat) (mk : Int → α) (k : Int) (n : Nat) : upG d mk k (n + 1) = mk k :: upG d mk (k + d) n := by
  unfold upG
  rw [List.range_succ_eq_map, List.map_cons, List.map_map]
  congr 1
  · simp
  · refine List.map_congr_left fun i _ => ?_
    simp only [Function.comp]
    congr 1
    simp [Int.mul_add]; omega

theorem k11b {α : Type} {d : Nat} {mk : Int → α} {f : Nat → Int × List α → Nat ⊕ (Int × List α)} {e : Nat}
    (hf : ∀ (b : Nat) (k : Int) (xs : List α), b < xs.length → 0 ≤ k → k + d ≤ 9223372036854775807 → f b (k, xs) = .inr (k + d, xs.set b (mk k))) :
    ∀ (ys pre : List α) (k : Int), 0 ≤ k → k + d * (ys.length : Int) ≤ 9223372036854775807 →
      walkL f e (List.range' pre.length ys.length) pre.length (k, pre ++ ys) = (e, pre.length + ys.length, (k + d * (ys.length : Int), pre ++ upG d mk k ys.length))
  | [], pre, k, _, _ => by simp [walkL, upG]
  | y :: ys, pre, k, h0, h1 => by
    have hd : (d : Int) * (((y :: ys).length : Nat) : Int) = d + d * (ys.length : Int) := by simp [Int.mul_add]; omega
    rw [hd] at h1
    have hp : 0 ≤ (d : Int) * (ys.length : Int) := Int.mul_nonneg (by omega) (by omega)
    have hs : (pre ++ y :: ys).set pre.length (mk k) = (pre ++ [mk k]) ++ ys := by rw [List.set_append_right _ _ (Nat.le_refl _)]; simp
    have ih := k11b (e := e) hf ys (pre ++ [mk k]) (k + d) (by omega) (by omega)
    rw [List.length_cons, List.range'_succ]
    simp only [walkL, hf pre.length k (pre ++ y :: ys) (by simp) h0 (by omega), hs]
    rw [List.length_append, List.length_singleton] at ih
    rw [ih, k176]
    simp [Int.mul_add]
    omega

theorem k166 {α : Type} {d : Nat} {mk : Int → α} {f : α → Int → Nat ⊕ Int} {e : Nat} (hf : ∀ (k : Int), 0 ≤ k → k + d ≤ 9223372036854775807 → f (mk k) k = .inr (k + d)) :
    ∀ (n : Nat) (k : Int) (i : Nat), 0 ≤ k → k + d * (n : Int) ≤ 9223372036854775807 → walkL f e (upG d mk k n) i k = (e, i + n, k + d * (n : Int))
  | 0, k, i, _, _ => by simp [walkL, upG]
  | n + 1, k, i, h0, h1 => by
    have hd : (d : Int) * ((n + 1 : Nat) : Int) = d + d * (n : Int) := by simp [Int.mul_add]; omega
    rw [hd] at h1
    have hp : 0 ≤ (d : Int) * (n : Int) := Int.mul_nonneg (by omega) (by omega)
    rw [k176]
    simp only [walkL, hf k h0 (by omega)]
    rw [k166 hf n (k + d) (i + 1) (by omega) (by omega), hd]
    simp only [Prod.mk.injEq, true_and]
    omega

def mkOk3 (d : Nat) (k : Int) (n : Nat) : Bool := leI 0 k && leI (k + d * (n : Int)) 9223372036854775807
theorem kxj {d : Nat} {k : Int} {n : Nat} : mkOk3 d k n = true ↔ 0 ≤ k ∧ k + d * (n : Int) ≤ 9223372036854775807 := by simp [mkOk3]

def k6x  (b : Nat) : (Int × List (Int × (Int × Int))) → Nat ⊕ (Int × List (Int × (Int × Int)))
  | (y1, y2) => (.inr (((IntKind.wrap IntKind.i64 ((IntKind.wrap IntKind.i64 ((IntKind.wrap IntKind.i64 (y1 + (1 : Int))) + (1 : Int))) + (1 : Int)))), ((List.set ((List.set ((List.set y2 (b) (y1, Prod.fst ((Prod.snd (Option.getD y2[b]? ((0 : Int), (0 : Int), (0 : Int))))), Prod.snd ((Prod.snd (Option.getD y2[b]? ((0 : Int), (0 : Int), (0 : Int)))))))) (b) (Prod.fst ((Option.getD ((List.set y2 (b) (y1, Prod.fst ((Prod.snd (Option.getD y2[b]? ((0 : Int), (0 : Int), (0 : Int))))), Prod.snd ((Prod.snd (Option.getD y2[b]? ((0 : Int), (0 : Int), (0 : Int))))))))[b]? ((0 : Int), (0 : Int), (0 : Int)))), (IntKind.wrap IntKind.i64 (y1 + (1 : Int))), Prod.snd (Prod.snd ((Option.getD ((List.set y2 (b) (y1, Prod.fst ((Prod.snd (Option.getD y2[b]? ((0 : Int), (0 : Int), (0 : Int))))), Prod.snd ((Prod.snd (Option.getD y2[b]? ((0 : Int), (0 : Int), (0 : Int))))))))[b]? ((0 : Int), (0 : Int), (0 : Int)))))))) (b) (Prod.fst ((Option.getD ((List.set ((List.set y2 (b) (y1, Prod.fst ((Prod.snd (Option.getD y2[b]? ((0 : Int), (0 : Int), (0 : Int))))), Prod.snd ((Prod.snd (Option.getD y2[b]? ((0 : Int), (0 : Int), (0 : Int)))))))) (b) (Prod.fst ((Option.getD ((List.set y2 (b) (y1, Prod.fst ((Prod.snd (Option.getD y2[b]? ((0 : Int), (0 : Int), (0 : Int))))), Prod.snd ((Prod.snd (Option.getD y2[b]? ((0 : Int), (0 : Int), (0 : Int))))))))[b]? ((0 : Int), (0 : Int), (0 : Int)))), (IntKind.wrap IntKind.i64 (y1 + (1 : Int))), Prod.snd (Prod.snd ((Option.getD ((List.set y2 (b) (y1, Prod.fst ((Prod.snd (Option.getD y2[b]? ((0 : Int), (0 : Int), (0 : Int))))), Prod.snd ((Prod.snd (Option.getD y2[b]? ((0 : Int), (0 : Int), (0 : Int))))))))[b]? ((0 : Int), (0 : Int), (0 : Int))))))))[b]? ((0 : Int), (0 : Int), (0 : Int)))), Prod.fst (Prod.snd ((Option.getD ((List.set ((List.set y2 (b) (y1, Prod.fst ((Prod.snd (Option.getD y2[b]? ((0 : Int), (0 : Int), (0 : Int))))), Prod.snd ((Prod.snd (Option.getD y2[b]? ((0 : Int), (0 : Int), (0 : Int)))))))) (b) (Prod.fst ((Option.getD ((List.set y2 (b) (y1, Prod.fst ((Prod.snd (Option.getD y2[b]? ((0 : Int), (0 : Int), (0 : Int))))), Prod.snd ((Prod.snd (Option.getD y2[b]? ((0 : Int), (0 : Int), (0 : Int))))))))[b]? ((0 : Int), (0 : Int), (0 : Int)))), (IntKind.wrap IntKind.i64 (y1 + (1 : Int))), Prod.snd (Prod.snd ((Option.getD ((List.set y2 (b) (y1, Prod.fst ((Prod.snd (Option.getD y2[b]? ((0 : Int), (0 : Int), (0 : Int))))), Prod.snd ((Prod.snd (Option.getD y2[b]? ((0 : Int), (0 : Int), (0 : Int))))))))[b]? ((0 : Int), (0 : Int), (0 : Int))))))))[b]? ((0 : Int), (0 : Int), (0 : Int))))), (IntKind.wrap IntKind.i64 ((IntKind.wrap IntKind.i64 (y1 + (1 : Int))) + (1 : Int))))))))

def k4i  (i : Nat) : (Int × List (Int × (Int × Int))) → k3u
  | (y1, y2) => ((i : Int), y1, y2)

def kjr : k3u → Int × List (Int × (Int × Int))
  | (_, y1, y2) => (y1, y2)

theorem kwf  (y1 : Int) (y2 : List (Int × (Int × Int))) (n : Nat) (hl : y2.length = n) (hn : n ≤ 9223372036854775807)  :
    k2e.fin ((0 : Int), y1, y2) = true ∧ k2e.res ((0 : Int), y1, y2) = ((walkL (k6x) 0 (List.range n) 0 (y1, y2)).1, (k4i) (walkL (k6x) 0 (List.range n) 0 (y1, y2)).2.1 (walkL (k6x) 0 (List.range n) 0 (y1, y2)).2.2) := by
  have key := k2e.along (k4i) kjr (k6x) 0 (fun _ a => a.2.length = n) (List.range n) (y1, y2) hl (by simp only [k2e, k4i, List.length_range]; omega) (fun i b a hb hI => ?_) (fun a hI => ?_)
  · exact key
  · obtain ⟨y1, y2⟩ := a
    obtain ⟨rfl, hlt⟩ := range_get hb
    have hI0 : y2.length = n := hI
    have hw : IntKind.i64.wrap ((b : Int) + 1) = ((b + 1 : Nat) : Int) := by rw [wrap_i64 (by omega) (by omega)]; omega
    have hdec : ltI (b : Int) (y2.length : Int) = true := ltI_t (by omega)
    have hnn : leI (0 : Int) (b : Int) = true := leI_t (by omega)
    have hltd : ltN b y2.length = true := ltN_t (by omega)
    refine ⟨?_, ?_, ?_, ?_⟩
    · simp [kag, k62, kah, kak, k64, kai, kaq, kb5, k8f, ke0, kdr, kdk, kdq, kdz, kdm, kdu, kdn, kct, k2e, LT.nds, allT, k4i, hdec, hnn, hltd]
    · simp [kag, k62, kah, kak, k64, kai, kaq, kb5, k8f, ke0, kdr, kdk, kdq, kdz, kdm, kdu, kdn, kct, k2e, LT.each, k4i, kjr, hw]
    · simp only [kag, k62, kah, kak, k64, kai, kaq, kb5, k8f, ke0, kdr, kdk, kdq, kdz, kdm, kdu, kdn, kct, k2e, LT.fn, k4i, kjr, k6x, Int.toNat_natCast, hdec, hnn, hltd, cond_true, Bool.cond_self]
    · intro a' hf; simp only [k6x, Sum.inr.injEq] at hf; subst hf; simp [hI0]
  · obtain ⟨y1, y2⟩ := a
    have hI0 : y2.length = n := hI
    simp [kag, k62, kah, kak, k64, kai, kaq, kb5, k8f, ke0, kdr, kdk, kdq, kdz, kdm, kdu, kdn, kct, k2e, LT.out, k4i, hI0, List.length_range]

def k8n  (b : Int × (Int × Int)) : (Int) → Nat ⊕ (Int)
  | y1 => (bif ((Prod.fst ((b)) != y1)) then (.inl 0) else (bif ((Prod.fst (Prod.snd ((b))) != (IntKind.wrap IntKind.i64 (y1 + (1 : Int))))) then (.inl 1) else (bif ((Prod.snd (Prod.snd ((b))) != (IntKind.wrap IntKind.i64 ((IntKind.wrap IntKind.i64 (y1 + (1 : Int))) + (1 : Int))))) then (.inl 2) else (.inr ((IntKind.wrap IntKind.i64 ((IntKind.wrap IntKind.i64 ((IntKind.wrap IntKind.i64 (y1 + (1 : Int))) + (1 : Int))) + (1 : Int))))))))

def k67 (y2 : List (Int × (Int × Int))) (i : Nat) : (Int) → k3v
  | y1 => ((i : Int), y1, y2)

def kjp : k3v → Int
  | (_, y1, _) => y1

theorem kqh (y2 : List (Int × (Int × Int))) (y1 : Int) (hn : y2.length ≤ 9223372036854775807)  :
    k1q.fin ((0 : Int), y1, y2) = true ∧ k1q.res ((0 : Int), y1, y2) = ((walkL (k8n) 3 y2 0 y1).1, (k67 y2) (walkL (k8n) 3 y2 0 y1).2.1 (walkL (k8n) 3 y2 0 y1).2.2) := by
  have key := k1q.along (k67 y2) kjp (k8n) 3 (fun _ _ => True) y2 y1 (by trivial) (by simp only [k1q, k67]; omega) (fun i b a hb hI => ?_) (fun a hI => ?_)
  · exact key
  · obtain y1 := a
    have hlt := (List.getElem?_eq_some_iff.1 hb).1
    have hget : ∀ d, Option.getD y2[i]? d = b := fun d => by rw [hb]; rfl
    have hw := wrap64 hlt hn
    have hdec : ltI (i : Int) (y2.length : Int) = true := ltI_t (by omega)
    have hnn : leI (0 : Int) (i : Int) = true := leI_t (by omega)
    have hltd : ltN i y2.length = true := ltN_t hlt
    refine ⟨?_, ?_, ?_, ?_⟩
    · simp [k7x, kaf, kal, k6y, k8m, k8g, kdw, k3t, kdp, kdy, kdv, kds, kd1, k1q, LT.nds, allT, k67, hdec, hnn, hltd, hget]
    · simp [k7x, kaf, kal, k6y, k8m, k8g, kdw, k3t, kdp, kdy, kdv, kds, kd1, k1q, LT.each, k67, kjp, hw]
    · simp only [k7x, kaf, kal, k6y, k8m, k8g, kdw, k3t, kdp, kdy, kdv, kds, kd1, k1q, LT.fn, k67, kjp, k8n, Int.toNat_natCast, hdec, hnn, hltd, hget, cond_true, Bool.cond_self]
    · exact fun _ _ => trivial
  · obtain y1 := a
    simp [k7x, kaf, kal, k6y, k8m, k8g, kdw, k3t, kdp, kdy, kdv, kds, kd1, k1q, LT.out, k67]

def k6c  (b : Nat) : (Int × List (Int × Int)) → Nat ⊕ (Int × List (Int × Int))
  | (y1, y2) => (.inr (((IntKind.wrap IntKind.i64 ((IntKind.wrap IntKind.i64 (y1 + (1 : Int))) + (1 : Int)))), ((List.set ((List.set y2 (b) (y1, Prod.snd (Option.getD y2[b]? ((0 : Int), (0 : Int)))))) (b) (Prod.fst (Option.getD ((List.set y2 (b) (y1, Prod.snd (Option.getD y2[b]? ((0 : Int), (0 : Int))))))[b]? ((0 : Int), (0 : Int))), (IntKind.wrap IntKind.i64 (y1 + (1 : Int))))))))

def k5c  (i : Nat) : (Int × List (Int × Int)) → k3f
  | (y1, y2) => ((i : Int), y1, y2)

def kiq : k3f → Int × List (Int × Int)
  | (_, y1, y2) => (y1, y2)

theorem kvy  (y1 : Int) (y2 : List (Int × Int)) (n : Nat) (hl : y2.length = n) (hn : n ≤ 9223372036854775807)  :
    k29.fin ((0 : Int), y1, y2) = true ∧ k29.res ((0 : Int), y1, y2) = ((walkL (k6c) 0 (List.range n) 0 (y1, y2)).1, (k5c) (walkL (k6c) 0 (List.range n) 0 (y1, y2)).2.1 (walkL (k6c) 0 (List.range n) 0 (y1, y2)).2.2) := by
  have key := k29.along (k5c) kiq (k6c) 0 (fun _ a => a.2.length = n) (List.range n) (y1, y2) hl (by simp only [k29, k5c, List.length_range]; omega) (fun i b a hb hI => ?_) (fun a hI => ?_)
  · exact key
  · obtain ⟨y1, y2⟩ := a
    obtain ⟨rfl, hlt⟩ := range_get hb
    have hI0 : y2.length = n := hI
    have hw : IntKind.i64.wrap ((b : Int) + 1) = ((b + 1 : Nat) : Int) := by rw [wrap_i64 (by omega) (by omega)]; omega
    have hdec : ltI (b : Int) (y2.length : Int) = true := ltI_t (by omega)
    have hnn : leI (0 : Int) (b : Int) = true := leI_t (by omega)
    have hltd : ltN b y2.length = true := ltN_t (by omega)
    refine ⟨?_, ?_, ?_, ?_⟩
    · simp [k5b, k9p, kan, kaj, kcp, kd3, kcv, kd7, kd8, kcy, kc6, k29, LT.nds, allT, k5c, hdec, hnn, hltd]
    · simp [k5b, k9p, kan, kaj, kcp, kd3, kcv, kd7, kd8, kcy, kc6, k29, LT.each, k5c, kiq, hw]
    · simp only [k5b, k9p, kan, kaj, kcp, kd3, kcv, kd7, kd8, kcy, kc6, k29, LT.fn, k5c, kiq, k6c, Int.toNat_natCast, hdec, hnn, hltd, cond_true, Bool.cond_self]
    · intro a' hf; simp only [k6c, Sum.inr.injEq] at hf; subst hf; simp [hI0]
  · obtain ⟨y1, y2⟩ := a
    have hI0 : y2.length = n := hI
    simp [k5b, k9p, kan, kaj, kcp, kd3, kcv, kd7, kd8, kcy, kc6, k29, LT.out, k5c, hI0, List.length_range]

def kcb  (b : Nat) : (Int × List (Int × (ByteArray × Int))) → Nat ⊕ (Int × List (Int × (ByteArray × Int)))
  | (y1, y2) => (.inr (((IntKind.wrap IntKind.i64 ((IntKind.wrap IntKind.i64 ((IntKind.wrap IntKind.i64 (y1 + (1 : Int))) + (1 : Int))) + (1 : Int)))), ((List.set ((List.set ((List.set y2 (b) (y1, Prod.fst ((Prod.snd (Option.getD y2[b]? ((0 : Int), ByteArray.empty, (0 : Int))))), Prod.snd ((Prod.snd (Option.getD y2[b]? ((0 : Int), ByteArray.empty, (0 : Int)))))))) (b) (Prod.fst ((Option.getD ((List.set y2 (b) (y1, Prod.fst ((Prod.snd (Option.getD y2[b]? ((0 : Int), ByteArray.empty, (0 : Int))))), Prod.snd ((Prod.snd (Option.getD y2[b]? ((0 : Int), ByteArray.empty, (0 : Int))))))))[b]? ((0 : Int), ByteArray.empty, (0 : Int)))), kn6 ((IntKind.wrap IntKind.i64 (y1 + (1 : Int)))), Prod.snd (Prod.snd ((Option.getD ((List.set y2 (b) (y1, Prod.fst ((Prod.snd (Option.getD y2[b]? ((0 : Int), ByteArray.empty, (0 : Int))))), Prod.snd ((Prod.snd (Option.getD y2[b]? ((0 : Int), ByteArray.empty, (0 : Int))))))))[b]? ((0 : Int), ByteArray.empty, (0 : Int)))))))) (b) (Prod.fst ((Option.getD ((List.set ((List.set y2 (b) (y1, Prod.fst ((Prod.snd (Option.getD y2[b]? ((0 : Int), ByteArray.empty, (0 : Int))))), Prod.snd ((Prod.snd (Option.getD y2[b]? ((0 : Int), ByteArray.empty, (0 : Int)))))))) (b) (Prod.fst ((Option.getD ((List.set y2 (b) (y1, Prod.fst ((Prod.snd (Option.getD y2[b]? ((0 : Int), ByteArray.empty, (0 : Int))))), Prod.snd ((Prod.snd (Option.getD y2[b]? ((0 : Int), ByteArray.empty, (0 : Int))))))))[b]? ((0 : Int), ByteArray.empty, (0 : Int)))), kn6 ((IntKind.wrap IntKind.i64 (y1 + (1 : Int)))), Prod.snd (Prod.snd ((Option.getD ((List.set y2 (b) (y1, Prod.fst ((Prod.snd (Option.getD y2[b]? ((0 : Int), ByteArray.empty, (0 : Int))))), Prod.snd ((Prod.snd (Option.getD y2[b]? ((0 : Int), ByteArray.empty, (0 : Int))))))))[b]? ((0 : Int), ByteArray.empty, (0 : Int))))))))[b]? ((0 : Int), ByteArray.empty, (0 : Int)))), Prod.fst (Prod.snd ((Option.getD ((List.set ((List.set y2 (b) (y1, Prod.fst ((Prod.snd (Option.getD y2[b]? ((0 : Int), ByteArray.empty, (0 : Int))))), Prod.snd ((Prod.snd (Option.getD y2[b]? ((0 : Int), ByteArray.empty, (0 : Int)))))))) (b) (Prod.fst ((Option.getD ((List.set y2 (b) (y1, Prod.fst ((Prod.snd (Option.getD y2[b]? ((0 : Int), ByteArray.empty, (0 : Int))))), Prod.snd ((Prod.snd (Option.getD y2[b]? ((0 : Int), ByteArray.empty, (0 : Int))))))))[b]? ((0 : Int), ByteArray.empty, (0 : Int)))), kn6 ((IntKind.wrap IntKind.i64 (y1 + (1 : Int)))), Prod.snd (Prod.snd ((Option.getD ((List.set y2 (b) (y1, Prod.fst ((Prod.snd (Option.getD y2[b]? ((0 : Int), ByteArray.empty, (0 : Int))))), Prod.snd ((Prod.snd (Option.getD y2[b]? ((0 : Int), ByteArray.empty, (0 : Int))))))))[b]? ((0 : Int), ByteArray.empty, (0 : Int))))))))[b]? ((0 : Int), ByteArray.empty, (0 : Int))))), (IntKind.wrap IntKind.i64 ((IntKind.wrap IntKind.i64 (y1 + (1 : Int))) + (1 : Int))))))))

def kbp  (i : Nat) : (Int × List (Int × (ByteArray × Int))) → k94
  | (y1, y2) => ((i : Int), y1, y2)

def kpx : k94 → Int × List (Int × (ByteArray × Int))
  | (_, y1, y2) => (y1, y2)

theorem k119  (y1 : Int) (y2 : List (Int × (ByteArray × Int))) (n : Nat) (hl : y2.length = n) (hn : n ≤ 9223372036854775807) (h1 : 0 ≤ y1) (h2 : y1 + 3 * (n : Int) ≤ 9223372036854775807) :
    k4f.fin ((0 : Int), y1, y2) = true ∧ k4f.res ((0 : Int), y1, y2) = ((walkL (kcb) 0 (List.range n) 0 (y1, y2)).1, (kbp) (walkL (kcb) 0 (List.range n) 0 (y1, y2)).2.1 (walkL (kcb) 0 (List.range n) 0 (y1, y2)).2.2) := by
  have key := k4f.along (kbp) kpx (kcb) 0 (fun i a => a.2.length = n ∧ 0 ≤ a.1 ∧ a.1 + 3 * ((n - i : Nat) : Int) ≤ 9223372036854775807) (List.range n) (y1, y2) ⟨hl, h1, by simpa using h2⟩ (by simp only [k4f, kbp, List.length_range]; omega) (fun i b a hb hI => ?_) (fun a hI => ?_)
  · exact key
  · obtain ⟨y1, y2⟩ := a
    obtain ⟨rfl, hlt⟩ := range_get hb
    have hI0 : y2.length = n := hI.1
    have hw : IntKind.i64.wrap ((b : Int) + 1) = ((b + 1 : Nat) : Int) := by rw [wrap_i64 (by omega) (by omega)]; omega
    have hdec : ltI (b : Int) (y2.length : Int) = true := ltI_t (by omega)
    have hnn : leI (0 : Int) (b : Int) = true := leI_t (by omega)
    have hltd : ltN b y2.length = true := ltN_t (by omega)
    refine ⟨?_, ?_, ?_, ?_⟩
    · have hk := hI.2
      simp only at hk
      have hw1 : IntKind.i64.wrap (y1 + 1) = y1 + 1 := wrap_i64 (by omega) (by omega)
      have h6 : kpd (y1 + 1) = true := k183 (y1 + 1) ((Bool.and_eq_true _ _).mpr ⟨leI_t (by omega), leI_t (by omega)⟩)
      simp [kdg, kfz, kbl, kfi, kbk, kfj, kff, kgu, kei, kjl, kjd, kj7, kjj, kjm, kjh, kj2, kj6, ki0, kim, k4f, LT.nds, allT, kbp, hdec, hnn, hltd, hw1, h6]
    · simp [kdg, kfz, kbl, kfi, kbk, kfj, kff, kgu, kei, kjl, kjd, kj7, kjj, kjm, kjh, kj2, kj6, ki0, kim, k4f, LT.each, kbp, kpx, hw]
    · simp only [kdg, kfz, kbl, kfi, kbk, kfj, kff, kgu, kei, kjl, kjd, kj7, kjj, kjm, kjh, kj2, kj6, ki0, kim, k4f, LT.fn, kbp, kpx, kcb, Int.toNat_natCast, hdec, hnn, hltd, cond_true, Bool.cond_self]
    · have hk := hI.2
      simp only at hk
      intro a' hf; simp only [kcb, Sum.inr.injEq] at hf
      subst hf
      refine ⟨by simp [hI0], ?_⟩
      simp only
      rw [wrap_i64 (x := y1 + 1) (by omega) (by omega), wrap_i64 (x := y1 + 1 + 1) (by omega) (by omega), wrap_i64 (x := y1 + 1 + 1 + 1) (by omega) (by omega)]
      omega
  · obtain ⟨y1, y2⟩ := a
    have hI0 : y2.length = n := hI.1
    simp [kdg, kfz, kbl, kfi, kbk, kfj, kff, kgu, kei, kjl, kjd, kj7, kjj, kjm, kjh, kj2, kj6, ki0, kim, k4f, LT.out, kbp, hI0, List.length_range]

def mkB (k : Int) : Int × Int × Int := (k, k + 1, k + 2)
def mkI (k : Int) : Int × Int := (k, k + 1)

theorem k18h (b : Nat) (k : Int) (xs : List (Int × Int × Int)) (hb : b < xs.length) (h0 : 0 ≤ k) (h1 : k + (3 : Nat) ≤ 9223372036854775807) : k6x b (k, xs) = .inr (k + (3 : Nat), xs.set b (mkB k)) := by
  have w1 : IntKind.i64.wrap (k + 1) = k + 1 := wrap_i64 (by omega) (by omega)
  have w2 : IntKind.i64.wrap (k + 1 + 1) = k + 2 := by rw [wrap_i64 (by omega) (by omega)]; omega
  have w3 : IntKind.i64.wrap (k + 2 + 1) = k + 3 := by rw [wrap_i64 (by omega) (by omega)]; omega
  simp [k6x, mkB, w1, w2, w3, List.set_set, List.getElem?_set, hb]

theorem k18c (b : Nat) (k : Int) (xs : List (Int × Int)) (hb : b < xs.length) (h0 : 0 ≤ k) (h1 : k + (2 : Nat) ≤ 9223372036854775807) : k6c b (k, xs) = .inr (k + (2 : Nat), xs.set b (mkI k)) := by
  have w1 : IntKind.i64.wrap (k + 1) = k + 1 := wrap_i64 (by omega) (by omega)
  have w2 : IntKind.i64.wrap (k + 1 + 1) = k + 2 := by rw [wrap_i64 (by omega) (by omega)]; omega
  simp [k6c, mkI, w1, w2, List.set_set, List.getElem?_set, hb]

def mkT (k : Int) : TM := (k, kn6 (k + 1), k + 2)

theorem k18j (b : Nat) (k : Int) (xs : List TM) (hb : b < xs.length) (h0 : 0 ≤ k) (h1 : k + (3 : Nat) ≤ 9223372036854775807) : kcb b (k, xs) = .inr (k + (3 : Nat), xs.set b (mkT k)) := by
  have w1 : IntKind.i64.wrap (k + 1) = k + 1 := wrap_i64 (by omega) (by omega)
  have w2 : IntKind.i64.wrap (k + 1 + 1) = k + 2 := by rw [wrap_i64 (by omega) (by omega)]; omega
  have w3 : IntKind.i64.wrap (k + 2 + 1) = k + 3 := by rw [wrap_i64 (by omega) (by omega)]; omega
  simp [kcb, mkT, w1, w2, w3, List.set_set, List.getElem?_set, hb]

theorem k189 (k : Int) (xs : List (Int × Int × Int)) (h : (mkOk3 3 k xs.length && leN xs.length 9223372036854775807) = true) : ko5 k xs = k + 3 * (xs.length : Int) ∧ kod k xs = upG 3 mkB k xs.length ∧ ko6 k xs = true := by
  simp only [Bool.and_eq_true, leN_iff] at h
  obtain ⟨h0, h2⟩ := kxj.1 h.1
  obtain ⟨w1, w2⟩ := kwf k xs xs.length rfl h.2
  have hw := k11b (e := 0) k18h xs [] k h0 h2
  rw [List.length_nil, List.nil_append, ← List.range_eq_range'] at hw
  rw [hw] at w2
  refine ⟨?_, ?_, ?_⟩
  · simp only [ko5, kf8, kin, w2, k4i]; rfl
  · simp only [kod, kf8, kin, w2, k4i]; rfl
  · simp only [ko6, kf8, w1, allT, cond_true]

theorem k181 (k : Int) (xs : List (Int × Int)) (h : (mkOk3 2 k xs.length && leN xs.length 9223372036854775807) = true) : kne k xs = k + 2 * (xs.length : Int) ∧ knh k xs = true := by
  simp only [Bool.and_eq_true, leN_iff] at h
  obtain ⟨h0, h2⟩ := kxj.1 h.1
  obtain ⟨w1, w2⟩ := kvy k xs xs.length rfl h.2
  have hw := k11b (e := 0) k18c xs [] k h0 h2
  rw [List.length_nil, List.nil_append, ← List.range_eq_range'] at hw
  rw [hw] at w2
  refine ⟨?_, ?_⟩
  · simp only [kne, kh6, klv, w2, k5c]; rfl
  · simp only [knh, kh6, w1, allT, cond_true]

theorem k17r (k : Int) (xs : List TM) (h : (mkOk3 3 k xs.length && leN xs.length 9223372036854775807) = true) : kur k xs = k + 3 * (xs.length : Int) ∧ kuh k xs = true := by
  simp only [Bool.and_eq_true, leN_iff] at h
  obtain ⟨h0, h2⟩ := kxj.1 h.1
  obtain ⟨w1, w2⟩ := k119 k xs xs.length rfl h.2 h0 h2
  have hw := k11b (e := 0) k18j xs [] k h0 h2
  rw [List.length_nil, List.nil_append, ← List.range_eq_range'] at hw
  rw [hw] at w2
  refine ⟨?_, ?_⟩
  · simp only [kur, kpj, ktf, w2, kbp]; rfl
  · simp only [kuh, kpj, w1, allT, cond_true]

def ksz : List SV → List Entry → Option Out
  | [.one ⟨false, [.ref 0]⟩, .one ⟨false, [.val (.int .i64 x0)]⟩], [.row true 172 (.pair (.int .i64) (.pair (.int .i64) (.int .i64))) x1] => some ⟨(.one ⟨false, [(.val (.int IntKind.i64 (x0 + 3 * (x1.length : Int))))]⟩), [(.row true 172 (CTy.pair (CTy.int IntKind.i64) (CTy.pair (CTy.int IntKind.i64) (CTy.int IntKind.i64))) (upG 3 mkB x0 x1.length))], [], [mkOk3 3 x0 x1.length && leN x1.length 9223372036854775807]⟩
  | _, _ => none

def koc : PF Tryz.prog := PF.alt kyk ksz (by
  intro args es o h hnd; unfold ksz at h; split at h
  · rename_i x0 x1
    cases h
    have hnd := nd_fst hnd
    have hh := k189 x0 x1 hnd
    obtain ⟨e0, e1, en⟩ := hh
    exact altok rfl (nd_one en) (by simp only [e0] <;> rfl) (by simp only [e1] <;> rfl) rfl
  · cases h)

def krd : List SV → List Entry → Option Out
  | [.one ⟨false, [.ref 0]⟩, .one ⟨false, [.val (.int .i64 x0)]⟩], [.row true 150 (.pair (.int .i64) (.int .i64)) x1] => some ⟨(.one ⟨false, [(.val (.int IntKind.i64 (x0 + 2 * (x1.length : Int))))]⟩), [(.row true 150 (CTy.pair (CTy.int IntKind.i64) (CTy.int IntKind.i64)) (knf x0 x1))], [], [mkOk3 2 x0 x1.length && leN x1.length 9223372036854775807]⟩
  | _, _ => none

def kng : PF Tryz.prog := PF.alt ky8 krd (by
  intro args es o h hnd; unfold krd at h; split at h
  · rename_i x0 x1
    cases h
    have hnd := nd_fst hnd
    have hh := k181 x0 x1 hnd
    obtain ⟨e0, en⟩ := hh
    exact altok rfl (nd_one en) (by simp only [e0] <;> rfl) rfl rfl
  · cases h)

def kyo : List SV → List Entry → Option Out
  | [.one ⟨false, [.ref 0]⟩, .one ⟨false, [.val (.int .i64 x0)]⟩], [.row true 178 (.pair (.int .i64) (.pair (.str) (.int .i64))) x1] => some ⟨(.one ⟨false, [(.val (.int IntKind.i64 (x0 + 3 * (x1.length : Int))))]⟩), [(.row true 178 (CTy.pair (CTy.int IntKind.i64) (CTy.pair CTy.str (CTy.int IntKind.i64))) (kuu x0 x1))], [], [mkOk3 3 x0 x1.length && leN x1.length 9223372036854775807]⟩
  | _, _ => none

def kug : PF Tryz.prog := PF.alt k14h kyo (by
  intro args es o h hnd; unfold kyo at h; split at h
  · rename_i x0 x1
    cases h
    have hnd := nd_fst hnd
    have hh := k17r x0 x1 hnd
    obtain ⟨e0, en⟩ := hh
    exact altok rfl (nd_one en) (by simp only [e0] <;> rfl) rfl rfl
  · cases h)

def heldB (k : Int) (xs : List (Int × Int × Int)) : Int := kj0 k xs

theorem k18i (k : Int) (h0 : 0 ≤ k) (h1 : k + (3 : Nat) ≤ 9223372036854775807) : k8n (mkB k) k = .inr (k + (3 : Nat)) := by
  have w1 : IntKind.i64.wrap (k + 1) = k + 1 := wrap_i64 (by omega) (by omega)
  have w2 : IntKind.i64.wrap (k + 1 + 1) = k + 2 := by rw [wrap_i64 (by omega) (by omega)]; omega
  have w3 : IntKind.i64.wrap (k + 2 + 1) = k + 3 := by rw [wrap_i64 (by omega) (by omega)]; omega
  simp [k8n, mkB, w1, w2, w3]

theorem k187 (k : Int) (n : Nat) (h : (mkOk3 3 k n && leN n 9223372036854775807) = true) : heldB k (upG 3 mkB k n) = k + 3 * (n : Int) := by
  simp only [Bool.and_eq_true, leN_iff] at h
  obtain ⟨h0, h2⟩ := kxj.1 h.1
  obtain ⟨w1, w2⟩ := kqh (upG 3 mkB k n) k (by rw [k164]; exact h.2)
  rw [k166 (e := 3) k18i n k 0 h0 h2] at w2
  simp only [heldB, kj0, kax, w2, k67]
  rfl

theorem k17n (k : Int) (xs : List (Int × Int × Int)) (h : leN xs.length 9223372036854775807 = true) : kj0 k xs = heldB k xs ∧ ko4 k xs = true := by
  obtain ⟨w1, w2⟩ := kqh xs k (leN_iff.1 h)
  exact ⟨rfl, by simp only [ko4, kax, w1, allT, cond_true]⟩

def ksv : List SV → List Entry → Option Out
  | [.one ⟨false, [.ref 0]⟩, .one ⟨false, [.val (.int .i64 x0)]⟩], [.row false 172 (.pair (.int .i64) (.pair (.int .i64) (.int .i64))) x1] => some ⟨(.one ⟨false, [(.val (.int IntKind.i64 (heldB x0 x1)))]⟩), [(.row false 172 (CTy.pair (CTy.int IntKind.i64) (CTy.pair (CTy.int IntKind.i64) (CTy.int IntKind.i64))) x1)], [], [leN x1.length 9223372036854775807]⟩
  | _, _ => none

def ko3 : PF Tryz.prog := PF.alt kyr ksv (by
  intro args es o h hnd; unfold ksv at h; split at h
  · rename_i x0 x1
    cases h
    have hnd := nd_fst hnd
    have hh := k17n x0 x1 hnd
    obtain ⟨e0, en⟩ := hh
    exact altok rfl (nd_one en) (by simp only [e0] <;> rfl) rfl rfl
  · cases h)

def szL (k : Int) (n : Nat) : Int := bif ltI (k - n) 0 then -1 else k - n

theorem szI_ok (k : Int) (xs : List (Int × Int)) (h : (leN xs.length 9223372036854775807 && (leI (-1) k && leI k 1048576)) = true) : kp4 k xs = szL k xs.length := by
  simp only [Bool.and_eq_true, leN_iff, leI_iff] at h
  simp only [kp4, ko8, szL]
  rw [wrap_i64 (by omega) (by omega)]

theorem szB_ok (k : Int) (xs : List (Int × Int × Int)) (h : (leN xs.length 9223372036854775807 && (leI (-1) k && leI k 1048576)) = true) : kqa k xs = szL k xs.length := by
  simp only [Bool.and_eq_true, leN_iff, leI_iff] at h
  simp only [kqa, kp5, szL]
  rw [wrap_i64 (by omega) (by omega)]

def ktq : List SV → List Entry → Option Out
  | [.one ⟨false, [.ref 0]⟩, .one ⟨false, [.val (.int .i64 x0)]⟩], [.row false 183 (.pair (.int .i64) (.int .i64)) x1] => some ⟨(.one ⟨false, [(.val (.int IntKind.i64 (szL x0 x1.length)))]⟩), [(.row false 183 (CTy.pair (CTy.int IntKind.i64) (CTy.int IntKind.i64)) x1)], [], [leN x1.length 9223372036854775807 && (leI (-1) x0 && leI x0 1048576)]⟩
  | _, _ => none

def kp3 : PF Tryz.prog := PF.alt kzh ktq (by
  intro args es o h hnd; unfold ktq at h; split at h
  · rename_i x0 x1
    cases h
    have hnd := nd_fst hnd
    have hh := szI_ok x0 x1 hnd
    have e0 := hh
    exact altok rfl (fun _ h => by cases h) (by simp only [e0] <;> rfl) rfl rfl
  · cases h)

def ku1 : List SV → List Entry → Option Out
  | [.one ⟨false, [.ref 0]⟩, .one ⟨false, [.val (.int .i64 x0)]⟩], [.row false 194 (.pair (.int .i64) (.pair (.int .i64) (.int .i64))) x1] => some ⟨(.one ⟨false, [(.val (.int IntKind.i64 (szL x0 x1.length)))]⟩), [(.row false 194 (CTy.pair (CTy.int IntKind.i64) (CTy.pair (CTy.int IntKind.i64) (CTy.int IntKind.i64))) x1)], [], [leN x1.length 9223372036854775807 && (leI (-1) x0 && leI x0 1048576)]⟩
  | _, _ => none

def kq2 : PF Tryz.prog := PF.alt k10r ku1 (by
  intro args es o h hnd; unfold ku1 at h; split at h
  · rename_i x0 x1
    cases h
    have hnd := nd_fst hnd
    have hh := szB_ok x0 x1 hnd
    have e0 := hh
    exact altok rfl (fun _ h => by cases h) (by simp only [e0] <;> rfl) rfl rfl
  · cases h)

def szTGo : Int → List TM → Int
  | k, [] => k
  | k, t :: r => bif ltI (kg9 t.2.1 k) 0 then -1 else szTGo (kg9 t.2.1 k) r
def szTs (k : Int) (ts : List TM) : Int := bif ltI (k - ts.length) 0 then -1 else szTGo (k - ts.length) ts

theorem k17l {s : ByteArray} {k : Int} (hs : s.size ≤ 9223372036854775807) (hk : 0 ≤ k ∧ k ≤ 1048576) : kg9 s k = bif ltI (k - (s.size : Int)) 0 then -1 else k - (s.size : Int) := by
  have hw : IntKind.i64.wrap (k - (s.size : Int)) = k - (s.size : Int) := wrap_i64 (by omega) (by omega)
  simp only [kg9, kx5, hw]

def kf1  (b : Int × (ByteArray × Int)) : (Int) → Nat ⊕ (Int)
  | y1 => (bif ((ltI ((kg9 (Prod.fst (Prod.snd (b))) y1)) (0 : Int))) then (.inl 0) else (.inr (((kg9 (Prod.fst (Prod.snd (b))) y1)))))

def kdl (y2 : List (Int × (ByteArray × Int))) (i : Nat) : (Int) → kbq
  | y1 => ((i : Int), y1, y2)

def krp : kbq → Int
  | (_, y1, _) => y1

theorem k13v (y2 : List (Int × (ByteArray × Int))) (y1 : Int) (hn : y2.length ≤ 9223372036854775807)  :
    k4d.fin ((0 : Int), y1, y2) = true ∧ k4d.res ((0 : Int), y1, y2) = ((walkL (kf1) 1 y2 0 y1).1, (kdl y2) (walkL (kf1) 1 y2 0 y1).2.1 (walkL (kf1) 1 y2 0 y1).2.2) := by
  have key := k4d.along (kdl y2) krp (kf1) 1 (fun _ _ => True) y2 y1 (by trivial) (by simp only [k4d, kdl]; omega) (fun i b a hb hI => ?_) (fun a hI => ?_)
  · exact key
  · obtain y1 := a
    have hlt := (List.getElem?_eq_some_iff.1 hb).1
    have hget : ∀ d, Option.getD y2[i]? d = b := fun d => by rw [hb]; rfl
    have hw := wrap64 hlt hn
    have hdec : ltI (i : Int) (y2.length : Int) = true := ltI_t (by omega)
    have hnn : leI (0 : Int) (i : Int) = true := leI_t (by omega)
    have hltd : ltN i y2.length = true := ltN_t hlt
    refine ⟨?_, ?_, ?_, ?_⟩
    · simp [kho, kiy, km7, kmu, kml, kgy, kmz, km4, kkk, k4d, LT.nds, allT, kdl, hdec, hnn, hltd, hget]
    · simp [kho, kiy, km7, kmu, kml, kgy, kmz, km4, kkk, k4d, LT.each, kdl, krp, hw]
    · simp only [kho, kiy, km7, kmu, kml, kgy, kmz, km4, kkk, k4d, LT.fn, kdl, krp, kf1, Int.toNat_natCast, hdec, hnn, hltd, hget, cond_true, Bool.cond_self]
    · exact fun _ _ => trivial
  · obtain y1 := a
    simp [kho, kiy, km7, kmu, kml, kgy, kmz, km4, kkk, k4d, LT.out, kdl]

theorem k17e : ∀ (r : List TM) (i : Nat) (k : Int), (bif Nat.beq (walkL kf1 1 r i k).1 0 then -1 else (walkL kf1 1 r i k).2.2) = szTGo k r
  | [], i, k => rfl
  | t :: r, i, k => by
    have hf : kf1 t k = bif ltI (kg9 t.2.1 k) 0 then .inl 0 else .inr (kg9 t.2.1 k) := rfl
    simp only [walkL, hf, szTGo]
    cases h : ltI (kg9 t.2.1 k) 0 with
    | true => rfl
    | false => simp only [cond_false]; exact k17e r (i + 1) _

theorem szT_ok (k : Int) (xs : List TM) (h : (leN xs.length 9223372036854775807 && (leI (-1) k && leI k 1048576)) = true) : kxn k xs = szTs k xs ∧ kx2 k xs = true := by
  simp only [Bool.and_eq_true, leN_iff, leI_iff] at h
  have hw : IntKind.i64.wrap (k - (xs.length : Int)) = k - (xs.length : Int) := wrap_i64 (by omega) (by omega)
  obtain ⟨w1, w2⟩ := k13v xs (k - (xs.length : Int)) h.1
  have hs := k17e xs 0 (k - (xs.length : Int))
  have e : kgy = -1 := rfl
  simp only [kxn, kx2, ksq, ksu, hw, w1, w2, kdl, allT, Bool.or_true, cond_true, szTs, e, hs, and_self]

theorem k15c : ∀ (r : List TM) (k : Int), (∀ t ∈ r, t.2.1.size ≤ 9223372036854775807) → 0 ≤ k → k ≤ 1048576 → ltI (szTGo k r) 0 = false → szTGo k r = k - totT r ∧ (totT r : Int) ≤ k
  | [], k, _, h0, h1, _ => by simp [szTGo, totT]; omega
  | t :: r, k, hs, h0, h1, h => by
    have ht := k17l (k := k) (hs t (by simp)) ⟨h0, h1⟩
    simp only [szTGo] at h ⊢
    cases h2 : ltI (k - (t.2.1.size : Int)) 0 with
    | true => rw [ht, h2] at h; rw [cond_true] at h; exact absurd (show ltI (-1) 0 = false from h) (by decide)
    | false =>
      have h3 := ltI_not.1 h2
      rw [h2, cond_false] at ht
      rw [ht, h2, cond_false] at h
      obtain ⟨q1, q2⟩ := k15c r _ (fun t ht => hs t (by simp [ht])) h3 (by omega) h
      rw [ht, h2, cond_false, q1]
      simp only [totT]
      omega

theorem k17j {k : Int} {xs : List TM} (hs : ∀ t ∈ xs, t.2.1.size ≤ 9223372036854775807) (hk : k ≤ 1048576) (h : ltI (szTs k xs) 0 = false) : szTs k xs = k - xs.length - totT xs ∧ (xs.length : Int) + totT xs ≤ k := by
  simp only [szTs] at h ⊢
  cases h2 : ltI (k - (xs.length : Int)) 0 with
  | true => rw [h2] at h; simp at h
  | false =>
    have h3 := ltI_not.1 h2
    rw [h2, cond_false] at h
    obtain ⟨q1, q2⟩ := k15c xs _ hs h3 (by omega) h
    rw [cond_false, q1]
    omega

theorem k11z {k : Int} {n : Nat} (h : ltI (szL k n) 0 = false) : szL k n = k - n ∧ (n : Int) ≤ k := by
  simp only [szL] at h ⊢
  cases h2 : ltI (k - (n : Int)) 0 with
  | true => rw [h2] at h; simp at h
  | false => have := ltI_not.1 h2; rw [cond_false]; omega

def k11r : List SV → List Entry → Option Out
  | [.one ⟨false, [.ref 0]⟩, .one ⟨false, [.val (.int .i64 x0)]⟩], [.row false 175 (.pair (.int .i64) (.pair (.str) (.int .i64))) x1] => some ⟨(.one ⟨false, [(.val (.int IntKind.i64 (szTs x0 x1)))]⟩), [(.row false 175 (CTy.pair (CTy.int IntKind.i64) (CTy.pair CTy.str (CTy.int IntKind.i64))) x1)], [], [leN x1.length 9223372036854775807 && (leI (-1) x0 && leI x0 1048576)]⟩
  | _, _ => none

def kxp : PF Tryz.prog := PF.alt k15q k11r (by
  intro args es o h hnd; unfold k11r at h; split at h
  · rename_i x0 x1
    cases h
    have hnd := nd_fst hnd
    have hh := szT_ok x0 x1 hnd
    obtain ⟨e0, en⟩ := hh
    exact altok rfl (nd_one en) (by simp only [e0] <;> rfl) rfl rfl
  · cases h)

theorem k17o (xs : List (Int × Int × Int)) (h : (leN 1 xs.length && leN xs.length 1048576) = true) : kd9 xs = true := by
  simp only [Bool.and_eq_true, leN_iff] at h
  simp [kd9, allT]
  omega

/-- slices.Clone at nil, at a slice of no elements; at any slice. -/
def k14t : List SV → List Entry → Option Out
  | [.one ⟨false, [.val (.slice none 0 0)]⟩], [] => some ⟨.one ⟨false, [.ref 0]⟩, [], [.row true 172 (.pair (.int .i64) (.pair (.int .i64) (.int .i64))) []], [true]⟩
  | _, _ => none
def k16b : PF Tryz.prog := PF.ofG Tryz.prog [PF.raw Tryz.prog] [] hmix 195 Tryz.f195 Tryz.func195 (fun c _ => LOk.nil c) k14t (by
  intro vs es r h; unfold k14t at h; split at h
  · cases h; kernel_rfl
  · cases h)
def k14e : List SV → List Entry → Option Out
  | [.one ⟨false, [.val (.slice (some _) 0 _)]⟩], [] => some ⟨.one ⟨false, [.ref 0]⟩, [], [.row true 172 (.pair (.int .i64) (.pair (.int .i64) (.int .i64))) []], [true]⟩
  | _, _ => none
def k16d : PF Tryz.prog := PF.ofG Tryz.prog [] [] hmix 195 Tryz.f195 Tryz.func195 (fun c _ => LOk.nil c) k14e (by
  intro vs es r h; unfold k14e at h; split at h
  · cases h; kernel_rfl
  · cases h)
def kmb : List SV → List Entry → Option Out
  | [.one ⟨false, [.ref 0]⟩], [.row false 172 (.pair (.int .i64) (.pair (.int .i64) (.int .i64))) x0] => some ⟨.one ⟨false, [.ref 1]⟩, [.row false 172 (.pair (.int .i64) (.pair (.int .i64) (.int .i64))) x0], [.row true 172 (.pair (.int .i64) (.pair (.int .i64) (.int .i64))) x0], [leN x0.length 1048576]⟩
  | _, _ => none
def kgz : PF Tryz.prog where
  k := 195
  F := kmb
  ok := by
    intro args es o h hnd mem ρ w hp
    unfold kmb at h
    split at h
    · rename_i x0
      cases h
      have hl := hnd _ (List.mem_singleton.2 rfl)
      cases x0 with
      | nil =>
        exact (clone0 k16b k16d rfl rfl rfl (fun _ _ => rfl) (by simp) (by simp) hp).mono fun en w' ⟨ρ', h1, h2, h3⟩ => ⟨ρ', h1, h2, rfl, (by intro v hv; rw [List.mem_singleton.1 hv]; rfl), h3⟩
      | cons x xs => exact ktg.ok _ _ ⟨_, _, _, [kd9 (x :: xs)]⟩ rfl (fun b hb => by rw [List.mem_singleton.1 hb]; exact k17o (x :: xs) ((Bool.and_eq_true _ _).mpr ⟨leN_t (Nat.succ_pos _), hl⟩)) mem ρ w hp
    · cases h

end Go.SX

namespace Go.SX
open Go.Proofs
set_option maxRecDepth 100000

abbrev IN := Int × Int
abbrev BS3 := Int × Int × Int

/-- What an instruction takes, gives, whether it fits. -/
def tkI (bs : List TM) (x : IN) : Int := k4j x.1 x.2 bs
def gvI (x : IN) : Int := k7u x.1
def fitI (i v o : Int) (bs : List TM) (x : IN) : Bool := kh7 i v o x.1 x.2 bs

theorem k182 (k : Int) : 0 ≤ kn4 k ∧ kn4 k ≤ 2 := by
  unfold kn4
  generalize (bif k == 1 then k == 1 else bif k == 2 then k == 2 else k == 3) = b1
  generalize (bif k == 4 then k == 4 else bif k == 7 then k == 7 else bif k == 8 then k == 8 else k == 9) = b2
  cases b1 <;> cases b2 <;> decide

theorem tkI_in (bs : List TM) (x : IN) : 0 ≤ tkI bs x ∧ tkI bs x ≤ 2 := by
  have h := k182 (Prod.fst (Option.getD bs[Int.toNat x.2]? ((0 : Int), ByteArray.empty, (0 : Int))))
  unfold tkI k4j
  generalize ka7 x.1 = b1
  generalize kaa x.1 = b2
  generalize keo x.1 = b3
  generalize (x.1 == 4) = b4
  generalize (x.1 == 7) = b5
  cases b1 <;> cases b4 <;> cases b2 <;> cases b5 <;> cases b3 <;> simp only [cond_true, cond_false] <;> first | exact h | decide

theorem gvI_in (x : IN) : 0 ≤ gvI x ∧ gvI x ≤ 1 := by
  unfold gvI k7u
  generalize ka7 x.1 = b1
  generalize kaa x.1 = b2
  generalize keo x.1 = b3
  generalize (x.1 == 4) = b4
  generalize (x.1 == 7) = b5
  cases b1 <;> cases b4 <;> cases b2 <;> cases b5 <;> cases b3 <;> decide

theorem fit_nd {i v o : Int} {bs : List TM} {x : IN} (hl : bs.length ≤ 2000) (h : fitI i v o bs x = true) : khd x.1 x.2 bs = true := by
  by_cases h7 : x.1 = 7
  · simp [fitI, kh7, h7, k1u, Bool.cond_eq_ite] at h
    have hw : IntKind.i64.wrap ((bs.length : Int) - 1) = bs.length - 1 := wrap_i64 (by omega) (by omega)
    rw [hw] at h
    have h1 : leI 0 x.2 = true := leI_t (by omega)
    have h2 : ltI x.2 (bs.length : Int) = true := ltI_t (by omega)
    have h3 : ltN x.2.toNat bs.length = true := ltN_t (by omega)
    simp [khd, allT, h1, h2, h3]
  · simp [khd, allT, h7]

theorem k17d {i v o : Int} {bs : List TM} {x : IN} (hi : 0 ≤ i ∧ i ≤ 20) (hv : 0 ≤ v ∧ v ≤ 20) (ho : 0 ≤ o ∧ o ≤ 20) (hl : bs.length ≤ 2000) :
    (bif ltI x.2 0 then true else leI (k4b i v o x.1 bs) x.2) = !fitI i v o bs x := by
  have w1 : IntKind.i64.wrap (i - 1) = i - 1 := wrap_i64 (by omega) (by omega)
  have w2 : IntKind.i64.wrap (v - 1) = v - 1 := wrap_i64 (by omega) (by omega)
  have w3 : IntKind.i64.wrap (o - 1) = o - 1 := wrap_i64 (by omega) (by omega)
  have w4 : IntKind.i64.wrap ((bs.length : Int) - 1) = bs.length - 1 := wrap_i64 (by omega) (by omega)
  have key : ∀ m : Int, (bif ltI x.2 0 then true else leI m x.2) = !(bif leI 0 x.2 then leI x.2 (m - 1) else false) := fun m => by
    by_cases h0 : x.2 < 0
    · have a1 : ltI x.2 0 = true := ltI_t h0
      have a2 : leI 0 x.2 = false := leI_f (by omega)
      simp [a1, a2]
    · have a1 : ltI x.2 0 = false := ltI_f (by omega)
      have a2 : leI 0 x.2 = true := leI_t (by omega)
      simp only [a1, a2, cond_false, cond_true]
      by_cases hm : m ≤ x.2
      · rw [leI_t hm, leI_f (by omega)]; rfl
      · rw [leI_f (by omega), leI_t (by omega)]; rfl
  rw [key]
  simp only [fitI, kh7, k4b, knb, k1u, w1, w2, w3, w4]
  generalize (bif x.1 == 2 then x.1 == 2 else x.1 == 10) = b2
  generalize (bif x.1 == 3 then x.1 == 3 else bif x.1 == 8 then x.1 == 8 else x.1 == 11) = b3
  generalize (bif x.1 == 4 then x.1 == 4 else bif x.1 == 5 then x.1 == 5 else x.1 == 6) = b4
  generalize (x.1 == 1) = b1
  generalize (x.1 == 7) = b5
  generalize (x.1 == 9) = b6
  have e0 : (bif leI 0 x.2 then leI x.2 (1 - 1) else false) = (x.2 == 0) := by
    by_cases h : x.2 = 0
    · rw [h]; rfl
    · have : (x.2 == 0) = false := by simpa using h
      rw [this]
      by_cases h0 : 0 ≤ x.2
      · rw [leI_t h0, leI_f (by omega)]; rfl
      · rw [leI_f (by omega)]; rfl
  have e1 : (bif leI 0 x.2 then leI x.2 (0 - 1) else false) = false := by
    by_cases h0 : 0 ≤ x.2
    · rw [leI_t h0, leI_f (by omega)]; rfl
    · rw [leI_f (by omega)]; rfl
  cases b1 <;> cases b2 <;> cases b3 <;> cases b4 <;> cases b5 <;> cases b6 <;> simp only [cond_true, cond_false, e0, e1] <;> rfl

/-- The heights behind instructions. -/
def hgt (i v o : Int) (bs : List TM) : List IN → Int → List Int → Option (Int × List Int)
  | [], n, acc => some (n, acc)
  | x :: r, n, acc => bif fitI i v o bs x && (leI (tkI bs x) n && leI (n - tkI bs x + gvI x) 40) then hgt i v o bs r (n - tkI bs x + gvI x) (acc ++ [n - tkI bs x + gvI x]) else none

theorem k173 {i v o : Int} {bs : List TM} : ∀ (st : List IN) (n : Int) (acc : List Int) (m : Int) (out : List Int), hgt i v o bs st n acc = some (m, out) → out.length = acc.length + st.length
  | [], n, acc, m, out, h => by simp only [hgt, Option.some.injEq, Prod.mk.injEq] at h; rw [← h.2]; simp
  | x :: r, n, acc, m, out, h => by
    simp only [hgt] at h
    cases hc : (fitI i v o bs x && (leI (tkI bs x) n && leI (n - tkI bs x + gvI x) 40)) with
    | false => rw [hc] at h; cases h
    | true =>
      rw [hc] at h
      have := k173 r _ _ _ _ h
      rw [this]; simp; omega

/-- A step of the heights, as the reference does it. -/
def k16e (i v o : Int) (bs : List TM) (b : IN) : Int × List Int → Nat ⊕ (Int × List Int)
  | (n, acc) => bif !kh7 i v o b.1 b.2 bs then .inl 0 else
      bif (bif ltI n (k4j b.1 b.2 bs) then true else ltI 40 (IntKind.i64.wrap (IntKind.i64.wrap (n - k4j b.1 b.2 bs) + k7u b.1))) then .inl 1 else
      .inr (IntKind.i64.wrap (IntKind.i64.wrap (n - k4j b.1 b.2 bs) + k7u b.1), acc ++ [IntKind.i64.wrap (IntKind.i64.wrap (n - k4j b.1 b.2 bs) + k7u b.1)])

theorem k17z {i v o : Int} {bs : List TM} {b : IN} {n : Int} {acc : List Int} (hn : 0 ≤ n ∧ n ≤ 40) :
    k16e i v o bs b (n, acc) = bif !fitI i v o bs b then .inl 0 else bif !(leI (tkI bs b) n && leI (n - tkI bs b + gvI b) 40) then .inl 1 else .inr (n - tkI bs b + gvI b, acc ++ [n - tkI bs b + gvI b]) := by
  have ht := tkI_in bs b
  have hg := gvI_in b
  have e1 : k4j b.1 b.2 bs = tkI bs b := rfl
  have e2 : k7u b.1 = gvI b := rfl
  have e3 : kh7 i v o b.1 b.2 bs = fitI i v o bs b := rfl
  have w1 : IntKind.i64.wrap (n - tkI bs b) = n - tkI bs b := wrap_i64 (by omega) (by omega)
  have w2 : IntKind.i64.wrap (n - tkI bs b + gvI b) = n - tkI bs b + gvI b := wrap_i64 (by omega) (by omega)
  simp only [k16e, e1, e2, e3, w1, w2]
  cases fitI i v o bs b with
  | false => rfl
  | true =>
    have e4 : (bif ltI n (tkI bs b) then true else ltI 40 (n - tkI bs b + gvI b)) = !(leI (tkI bs b) n && leI (n - tkI bs b + gvI b) 40) := by
      by_cases h1 : n < tkI bs b
      · rw [ltI_t h1, leI_f (by omega)]; rfl
      · rw [ltI_f (by omega), leI_t (by omega)]
        by_cases h2 : 40 < n - tkI bs b + gvI b
        · rw [ltI_t h2, leI_f (by omega)]; rfl
        · rw [ltI_f (by omega), leI_t (by omega)]; rfl
    rw [e4]

/-- The heights by a walk. -/
theorem k16i {i v o : Int} {bs : List TM} {f : IN → Int × List Int → Nat ⊕ (Int × List Int)} {e : Nat}
    (hf : ∀ b n acc, 0 ≤ n ∧ n ≤ 40 → ((fitI i v o bs b && (leI (tkI bs b) n && leI (n - tkI bs b + gvI b) 40)) = true → f b (n, acc) = .inr (n - tkI bs b + gvI b, acc ++ [n - tkI bs b + gvI b])) ∧
      ((fitI i v o bs b && (leI (tkI bs b) n && leI (n - tkI bs b + gvI b) 40)) = false → ∃ j, j < e ∧ f b (n, acc) = .inl j)) :
    ∀ (r : List IN) (k : Nat) (n : Int) (acc : List Int), 0 ≤ n ∧ n ≤ 40 →
      (∀ m out, hgt i v o bs r n acc = some (m, out) → walkL f e r k (n, acc) = (e, k + r.length, (m, out)) ∧ 0 ≤ m ∧ m ≤ 40) ∧ (hgt i v o bs r n acc = none → (walkL f e r k (n, acc)).1 < e)
  | [], k, n, acc, hn => ⟨fun m out h => by simp only [hgt, Option.some.injEq, Prod.mk.injEq] at h; obtain ⟨rfl, rfl⟩ := h; exact ⟨rfl, hn⟩, fun h => by simp [hgt] at h⟩
  | b :: r, k, n, acc, hn => by
    have ht := tkI_in bs b
    have hg := gvI_in b
    cases hc : (fitI i v o bs b && (leI (tkI bs b) n && leI (n - tkI bs b + gvI b) 40)) with
    | true =>
      have h1 := (hf b n acc hn).1 hc
      have hb : 0 ≤ n - tkI bs b + gvI b ∧ n - tkI bs b + gvI b ≤ 40 := by simp only [Bool.and_eq_true, leI_iff] at hc; omega
      obtain ⟨g1, g2⟩ := k16i hf r (k + 1) _ (acc ++ [n - tkI bs b + gvI b]) hb
      simp only [hgt, hc, cond_true, walkL, h1]
      refine ⟨fun m out h => ?_, g2⟩
      obtain ⟨q1, q2⟩ := g1 m out h
      refine ⟨?_, q2⟩
      rw [q1]; simp; omega
    | false =>
      obtain ⟨j, hj, h1⟩ := (hf b n acc hn).2 hc
      simp only [hgt, hc, cond_false, walkL, h1]
      exact ⟨fun m out h => (by cases h), fun _ => hj⟩

def kbg (y2 : Int) (y3 : Int) (y4 : Int) (y6 : List (Int × (ByteArray × Int))) (b : Int × Int) : (Int × List Int) → Nat ⊕ (Int × List Int)
  | (y1, y5) => (bif ((!kh7 y2 y3 y4 (Prod.fst ((b))) (Prod.snd ((b))) y6)) then (.inl 0) else (bif ((bif ltI y1 ((k4j (Prod.fst ((b))) (Prod.snd ((b))) y6)) then true else ltI (40 : Int) ((IntKind.wrap IntKind.i64 (IntKind.wrap IntKind.i64 (y1 - (k4j (Prod.fst ((b))) (Prod.snd ((b))) y6)) + k7u (Prod.fst ((b)))))))) then (.inl 1) else (.inr ((((IntKind.wrap IntKind.i64 (IntKind.wrap IntKind.i64 (y1 - (k4j (Prod.fst ((b))) (Prod.snd ((b))) y6)) + k7u (Prod.fst ((b))))))), ((y5 ++ [(IntKind.wrap IntKind.i64 (IntKind.wrap IntKind.i64 (y1 - (k4j (Prod.fst ((b))) (Prod.snd ((b))) y6)) + k7u (Prod.fst ((b)))))]))))))

def kau (y2 : Int) (y3 : Int) (y4 : Int) (y6 : List (Int × (ByteArray × Int))) (y7 : List (Int × Int)) (i : Nat) : (Int × List Int) → k7w
  | (y1, y5) => ((i : Int), y1, y2, y3, y4, y5, y6, y7)

def koz : k7w → Int × List Int
  | (_, y1, _, _, _, y5, _, _) => (y1, y5)

theorem k10j (y2 : Int) (y3 : Int) (y4 : Int) (y6 : List (Int × (ByteArray × Int))) (y7 : List (Int × Int)) (y1 : Int) (y5 : List Int) (hn : y7.length ≤ 9223372036854775807) (hst : y7.length ≤ 2000) (hbs : y6.length ≤ 2000) (hin : (0 ≤ y1 ∧ y1 ≤ 40) ∧ y5.length = 0) :
    k2o.fin ((0 : Int), y1, y2, y3, y4, y5, y6, y7) = true ∧ k2o.res ((0 : Int), y1, y2, y3, y4, y5, y6, y7) = ((walkL (kbg y2 y3 y4 y6) 2 y7 0 (y1, y5)).1, (kau y2 y3 y4 y6 y7) (walkL (kbg y2 y3 y4 y6) 2 y7 0 (y1, y5)).2.1 (walkL (kbg y2 y3 y4 y6) 2 y7 0 (y1, y5)).2.2) := by
  have key := k2o.along (kau y2 y3 y4 y6 y7) koz (kbg y2 y3 y4 y6) 2 (fun i a => (0 ≤ a.1 ∧ a.1 ≤ 40) ∧ a.2.length = i) y7 (y1, y5) hin (by simp only [k2o, kau]; omega) (fun i b a hb hI => ?_) (fun a hI => ?_)
  · exact key
  · obtain ⟨y1, y5⟩ := a
    have hlt := (List.getElem?_eq_some_iff.1 hb).1
    have hget : ∀ d, Option.getD y7[i]? d = b := fun d => by rw [hb]; rfl
    have hw := wrap64 hlt hn
    have hdec : ltI (i : Int) (y7.length : Int) = true := ltI_t (by omega)
    have hnn : leI (0 : Int) (i : Int) = true := leI_t (by omega)
    have hltd : ltN i y7.length = true := ltN_t hlt
    refine ⟨?_, ?_, ?_, ?_⟩
    · have hg2 : k3h (i : Int) y7 = b := by simp only [k3h, Int.toNat_natCast]; exact hget _
      have hl := hI.2
      have h6 : leN (y5.length + 1) 9223372036854775807 = true := leN_t (by simp only at hl; omega)
      have h7 : leN ((y5.length + 1) * 8) 140737488355328 = true := leN_t (by simp only at hl; omega)
      have h8 : fitI y2 y3 y4 y6 b = true → khd b.1 b.2 y6 = true := fit_nd hbs
      simp only [kde, ki9, ki3, ki5, klg, klo, klt, kh1, k2o, LT.nds, allT, kau, hdec, hnn, hltd, hg2, List.length_singleton, h6, h7, Int.toNat_natCast, cond_true, cond_false]
      change (bif !fitI y2 y3 y4 y6 b then _ else _) = true
      cases hf : fitI y2 y3 y4 y6 b with
      | false => rfl
      | true => simp [h8 hf]
    · simp [k3h, kh0, kat, kde, ki9, ki3, ki5, klg, klq, klo, klt, kli, kle, kk0, kh1, k2o, LT.each, kau, koz, hw]
    · have hg2 : k3h (i : Int) y7 = b := by simp only [k3h, Int.toNat_natCast]; exact hget _
      simp only [kde, ki5, klq, kli, kle, kk0, kh0, kat, kh1, k2o, LT.fn, kau, koz, kbg, Int.toNat_natCast, hdec, hg2, cond_true]
    · have hk := hI.1
      simp only at hk
      have hs := k17z (i := y2) (v := y3) (o := y4) (bs := y6) (b := b) (acc := y5) hk
      intro a' hf
      have hf : k16e y2 y3 y4 y6 b (y1, y5) = .inr a' := hf
      rw [hs] at hf
      have ht := tkI_in y6 b
      have hg := gvI_in b
      cases hq : fitI y2 y3 y4 y6 b with
      | false => rw [hq] at hf; cases hf
      | true =>
        cases hq2 : (leI (tkI y6 b) y1 && leI (y1 - tkI y6 b + gvI b) 40) with
        | false => rw [hq, hq2] at hf; cases hf
        | true =>
          rw [hq, hq2] at hf; cases hf
          simp only [Bool.and_eq_true, leI_iff] at hq2
          exact ⟨by simp only; omega, by have hl := hI.2; simp only at hl; simp [hl]⟩
  · obtain ⟨y1, y5⟩ := a
    simp [k3h, kh0, kat, kde, ki9, ki3, ki5, klg, klq, klo, klt, kli, kle, kk0, kh1, k2o, LT.out, kau]

end Go.SX

namespace Go.SX
open Go.Proofs
set_option maxRecDepth 100000

/-- The heights' end. -/
def hgtOk (i v o : Int) (bs : List TM) (st : List IN) : Bool := match hgt i v o bs st 0 [] with | some (m, _) => m == 0 | none => false
def hgtL (i v o : Int) (bs : List TM) (st : List IN) : List Int := match hgt i v o bs st 0 [] with | some (_, out) => out | none => []
def blksB (bs : List TM) : Bool := bs.all fun t => blockB t.1 t.2.1 t.2.2
def rngC (i v o : Int) (bs : List TM) (st : List IN) : Bool := inR i 0 20 && (inR v 0 20 && (inR o 0 20 && (leN bs.length 2000 && leN st.length 2000)))
def codeB (i v o : Int) (bs : List TM) (st : List IN) : Bool := rngC i v o bs st && (blksB bs && hgtOk i v o bs st)
def tsOk (bs : List TM) : Bool := leN bs.length 9223372036854775807 && bs.all fun t => leN t.2.1.size 9223372036854775807

theorem k16h {bs : List TM} : tsOk bs = true ↔ bs.length ≤ 9223372036854775807 ∧ ∀ t ∈ bs, t.2.1.size ≤ 9223372036854775807 := by
  simp only [tsOk, Bool.and_eq_true, leN_iff, List.all_eq_true]

theorem kyv {i v o : Int} {bs : List TM} {st : List IN} : rngC i v o bs st = true ↔ (0 ≤ i ∧ i ≤ 20) ∧ (0 ≤ v ∧ v ≤ 20) ∧ (0 ≤ o ∧ o ≤ 20) ∧ bs.length ≤ 2000 ∧ st.length ≤ 2000 := by
  simp only [rngC, Bool.and_eq_true, kul, leN_iff]

theorem specHts (i v o : Int) (bs : List TM) (st : List IN) (hst : st.length ≤ 2000) (hbs : bs.length ≤ 2000) :
    kpm i v o bs st = hgtOk i v o bs st ∧ kt8 i v o bs st = hgtL i v o bs st ∧ kpk i v o bs st = true := by
  obtain ⟨w1, w2⟩ := k10j i v o bs st 0 [] (by omega) hst hbs ⟨⟨by omega, by omega⟩, rfl⟩
  have hw := k16i (i := i) (v := v) (o := o) (bs := bs) (f := kbg i v o bs) (e := 2) (fun b n acc hn => by
    have h := k17z (i := i) (v := v) (o := o) (bs := bs) (b := b) (n := n) (acc := acc) hn
    have h : kbg i v o bs b (n, acc) = _ := h
    rw [h]
    refine ⟨fun hc => ?_, fun hc => ?_⟩
    · simp only [Bool.and_eq_true] at hc
      simp [hc.1, hc.2.1, hc.2.2]
    · cases hq : fitI i v o bs b with
      | false => exact ⟨0, by omega, rfl⟩
      | true =>
        rw [hq, Bool.true_and] at hc
        exact ⟨1, by omega, by rw [hc]; rfl⟩) st 0 0 [] ⟨by omega, by omega⟩
  simp only [kpm, kt8, kpk, kkc, ks2, kse, krq, w1, allT, cond_true]
  rw [w2]
  simp only [hgtOk, hgtL]
  cases hh : hgt i v o bs st 0 [] with
  | none =>
    have := hw.2 hh
    generalize walkL (kbg i v o bs) 2 st 0 (0, []) = r at this ⊢
    obtain ⟨j, k, a⟩ := r
    have : j = 0 ∨ j = 1 := by simp only at this; omega
    rcases this with rfl | rfl <;> simp [Nat.beq]
  | some r =>
    obtain ⟨m, out⟩ := r
    have := (hw.1 m out hh).1
    rw [this]
    simp [Nat.beq, kau]

def k169 (i v o : Int) (bs : List TM) (b : IN) : Int × List Int → Nat ⊕ (Int × List Int)
  | (n, acc) => bif (bif ltI b.2 0 then true else leI (k4b i v o b.1 bs) b.2) then .inl 0 else
      bif ltI n (k1c b.1 b.2 bs) then .inl 1 else
      bif ltI 40 (IntKind.i64.wrap (n + IntKind.i64.wrap (k1t b.1 - k1c b.1 b.2 bs))) then .inl 2 else
      .inr (IntKind.i64.wrap (n + IntKind.i64.wrap (k1t b.1 - k1c b.1 b.2 bs)), acc ++ [IntKind.i64.wrap (n + IntKind.i64.wrap (k1t b.1 - k1c b.1 b.2 bs))])

theorem k17s {i v o : Int} {bs : List TM} {b : IN} {n : Int} {acc : List Int} (hr : (0 ≤ i ∧ i ≤ 20) ∧ (0 ≤ v ∧ v ≤ 20) ∧ 0 ≤ o ∧ o ≤ 20) (hl : bs.length ≤ 2000) (hn : 0 ≤ n ∧ n ≤ 40) :
    k169 i v o bs b (n, acc) = bif !fitI i v o bs b then .inl 0 else bif !leI (tkI bs b) n then .inl 1 else bif !leI (n - tkI bs b + gvI b) 40 then .inl 2 else .inr (n - tkI bs b + gvI b, acc ++ [n - tkI bs b + gvI b]) := by
  have ht := tkI_in bs b
  have hg := gvI_in b
  have e1 : k1c b.1 b.2 bs = tkI bs b := rfl
  have e2 : k1t b.1 = gvI b := rfl
  have w1 : IntKind.i64.wrap (gvI b - tkI bs b) = gvI b - tkI bs b := wrap_i64 (by omega) (by omega)
  have w2 : IntKind.i64.wrap (n + (gvI b - tkI bs b)) = n - tkI bs b + gvI b := by rw [wrap_i64 (by omega) (by omega)]; omega
  simp only [k169, k17d hr.1 hr.2.1 hr.2.2 hl, e1, e2, w1, w2]
  have n1 : ltI n (tkI bs b) = !leI (tkI bs b) n := by
    by_cases h1 : n < tkI bs b
    · rw [ltI_t h1, leI_f (by omega)]; rfl
    · rw [ltI_f (by omega), leI_t (by omega)]; rfl
  have n2 : ltI 40 (n - tkI bs b + gvI b) = !leI (n - tkI bs b + gvI b) 40 := by
    by_cases h1 : 40 < n - tkI bs b + gvI b
    · rw [ltI_t h1, leI_f (by omega)]; rfl
    · rw [ltI_f (by omega), leI_t (by omega)]; rfl
  rw [n1, n2]

def k24 (y4 : Int) (y5 : Int) (y6 : Int) (y8 : List (Int × (ByteArray × Int))) (b : Int × Int) : (Int × List Int) → Nat ⊕ (Int × List Int)
  | (y2, y7) => (bif ((bif ltI (Prod.snd ((b))) (0 : Int) then true else leI (k4b y4 y5 y6 (Prod.fst ((b))) y8) (Prod.snd ((b))))) then (.inl 0) else (bif ((ltI y2 ((k1c (Prod.fst ((b))) (Prod.snd ((b))) y8)))) then (.inl 1) else (bif ((ltI (40 : Int) ((IntKind.wrap IntKind.i64 (y2 + IntKind.wrap IntKind.i64 (k1t (Prod.fst ((b))) - (k1c (Prod.fst ((b))) (Prod.snd ((b))) y8))))))) then (.inl 2) else (.inr ((((IntKind.wrap IntKind.i64 (y2 + IntKind.wrap IntKind.i64 (k1t (Prod.fst ((b))) - (k1c (Prod.fst ((b))) (Prod.snd ((b))) y8)))))), ((y7 ++ [(IntKind.wrap IntKind.i64 (y2 + IntKind.wrap IntKind.i64 (k1t (Prod.fst ((b))) - (k1c (Prod.fst ((b))) (Prod.snd ((b))) y8))))])))))))

def k1z (y3 : List (Int × Int)) (y4 : Int) (y5 : Int) (y6 : Int) (y8 : List (Int × (ByteArray × Int))) (i : Nat) : (Int × List Int) → k1l
  | (y2, y7) => ((i : Int), (↑(List.length y3) : Int), y2, y3, y4, y5, y6, y7, y8)

def ka1 : k1l → Int × List Int
  | (_, _, y2, _, _, _, _, y7, _) => (y2, y7)

theorem knd (y3 : List (Int × Int)) (y4 : Int) (y5 : Int) (y6 : Int) (y8 : List (Int × (ByteArray × Int))) (y2 : Int) (y7 : List Int) (hn : y3.length ≤ 9223372036854775807) (hst : y3.length ≤ 2000) (hbs : y8.length ≤ 2000) (hr : (0 ≤ y4 ∧ y4 ≤ 20) ∧ (0 ≤ y5 ∧ y5 ≤ 20) ∧ 0 ≤ y6 ∧ y6 ≤ 20) (hin : (0 ≤ y2 ∧ y2 ≤ 40) ∧ y7.length = 0) :
    kk.fin ((0 : Int), (↑(List.length y3) : Int), y2, y3, y4, y5, y6, y7, y8) = true ∧ kk.res ((0 : Int), (↑(List.length y3) : Int), y2, y3, y4, y5, y6, y7, y8) = ((walkL (k24 y4 y5 y6 y8) 3 y3 0 (y2, y7)).1, (k1z y3 y4 y5 y6 y8) (walkL (k24 y4 y5 y6 y8) 3 y3 0 (y2, y7)).2.1 (walkL (k24 y4 y5 y6 y8) 3 y3 0 (y2, y7)).2.2) := by
  have key := kk.along (k1z y3 y4 y5 y6 y8) ka1 (k24 y4 y5 y6 y8) 3 (fun i a => (0 ≤ a.1 ∧ a.1 ≤ 40) ∧ a.2.length = i) y3 (y2, y7) hin (by simp only [kk, k1z]; omega) (fun i b a hb hI => ?_) (fun a hI => ?_)
  · exact key
  · obtain ⟨y2, y7⟩ := a
    have hlt := (List.getElem?_eq_some_iff.1 hb).1
    have hget : ∀ d, Option.getD y3[i]? d = b := fun d => by rw [hb]; rfl
    have hw := wrap64 hlt hn
    have hdec : ltI (i : Int) (y3.length : Int) = true := ltI_t (by omega)
    have hnn : leI (0 : Int) (i : Int) = true := leI_t (by omega)
    have hltd : ltN i y3.length = true := ltN_t hlt
    refine ⟨?_, ?_, ?_, ?_⟩
    · have hg2 : kz (i : Int) y3 = b := by simp only [kz, Int.toNat_natCast]; exact hget _
      have hl := hI.2
      have h6 : leN (y7.length + 1) 9223372036854775807 = true := leN_t (by simp only at hl; omega)
      have h7 : leN ((y7.length + 1) * 8) 140737488355328 = true := leN_t (by simp only at hl; omega)
      have h8 : fitI y4 y5 y6 y8 b = true → k5g b.1 b.2 y8 = true := fit_nd hbs
      simp only [k43, k6p, k6r, k6v, k3x, k6t, k6u, k6w, k3k, kk, LT.nds, allT, k1z, hdec, hnn, hltd, hg2, List.length_singleton, h6, h7, Int.toNat_natCast, k17d hr.1 hr.2.1 hr.2.2 hbs, cond_true, cond_false]
      cases hf : fitI y4 y5 y6 y8 b with
      | false => rfl
      | true => simp [h8 hf]
    · simp [kz, k3j, k20, k43, k6p, k6r, k6v, k3x, k6t, k6q, k6s, k6u, k6w, k6i, k6j, k6f, k3k, kk, LT.each, k1z, ka1, hw]
    · have hg2 : kz (i : Int) y3 = b := by simp only [kz, Int.toNat_natCast]; exact hget _
      simp only [k43, k3x, k6q, k6s, k6i, k6j, k6f, k3j, k20, k3k, kk, LT.fn, k1z, ka1, k24, Int.toNat_natCast, hdec, hg2, cond_true]
    · have hk := hI.1
      simp only at hk
      have hs := k17s (i := y4) (v := y5) (o := y6) (bs := y8) (b := b) (acc := y7) hr hbs hk
      intro a' hf
      have hf : k169 y4 y5 y6 y8 b (y2, y7) = .inr a' := hf
      rw [hs] at hf
      have ht := tkI_in y8 b
      have hg := gvI_in b
      cases hq : fitI y4 y5 y6 y8 b with
      | false => rw [hq] at hf; cases hf
      | true =>
        cases hq2 : leI (tkI y8 b) y2 with
        | false => rw [hq, hq2] at hf; cases hf
        | true =>
          cases hq3 : leI (y2 - tkI y8 b + gvI b) 40 with
          | false => rw [hq, hq2, hq3] at hf; cases hf
          | true =>
            rw [hq, hq2, hq3] at hf; cases hf
            have hq2 := leI_iff.1 hq2
            have hq3 := leI_iff.1 hq3
            exact ⟨by simp only; omega, by have hl := hI.2; simp only at hl; simp [hl]⟩
  · obtain ⟨y2, y7⟩ := a
    simp [kz, k3j, k20, k43, k6p, k6r, k6v, k3x, k6t, k6q, k6s, k6u, k6w, k6i, k6j, k6f, k3k, kk, LT.out, k1z]

theorem implHts (i v o : Int) (bs : List TM) (st : List IN) (hr : (0 ≤ i ∧ i ≤ 20) ∧ (0 ≤ v ∧ v ≤ 20) ∧ 0 ≤ o ∧ o ≤ 20) (hst : st.length ≤ 2000) (hbs : bs.length ≤ 2000) :
    k84 i v o bs st = hgtOk i v o bs st ∧ kc1 i v o bs st = hgtL i v o bs st ∧ k89 i v o bs st = true := by
  obtain ⟨w1, w2⟩ := knd st i v o bs 0 [] (by omega) hst hbs hr ⟨⟨by omega, by omega⟩, rfl⟩
  have hw := k16i (i := i) (v := v) (o := o) (bs := bs) (f := k24 i v o bs) (e := 3) (fun b n acc hn => by
    have h := k17s (i := i) (v := v) (o := o) (bs := bs) (b := b) (n := n) (acc := acc) hr hbs hn
    have h : k24 i v o bs b (n, acc) = _ := h
    rw [h]
    refine ⟨fun hc => ?_, fun hc => ?_⟩
    · simp only [Bool.and_eq_true] at hc
      simp [hc.1, hc.2.1, hc.2.2]
    · cases hq : fitI i v o bs b with
      | false => exact ⟨0, by omega, rfl⟩
      | true =>
        rw [hq, Bool.true_and] at hc
        cases hq2 : leI (tkI bs b) n with
        | false => exact ⟨1, by omega, rfl⟩
        | true => rw [hq2, Bool.true_and] at hc; exact ⟨2, by omega, by rw [hc]; rfl⟩) st 0 0 [] ⟨by omega, by omega⟩
  simp only [k84, kc1, k89, k3a, kbc, kbd, kbi, kbe, w1, allT, cond_true]
  rw [w2]
  simp only [hgtOk, hgtL]
  cases hh : hgt i v o bs st 0 [] with
  | none =>
    have := hw.2 hh
    generalize walkL (k24 i v o bs) 3 st 0 (0, []) = r at this ⊢
    obtain ⟨j, k, a⟩ := r
    have : j = 0 ∨ j = 1 ∨ j = 2 := by simp only at this; omega
    rcases this with rfl | rfl | rfl <;> simp [Nat.beq]
  | some r =>
    obtain ⟨m, out⟩ := r
    have := (hw.1 m out hh).1
    rw [this]
    simp [Nat.beq, k1z]

def koa  (b : Int × (ByteArray × Int)) : (Unit) → Nat ⊕ (Unit)
  | _ => (bif ((!blockB (Prod.fst ((b))) (Prod.fst (Prod.snd ((b)))) (Prod.snd (Prod.snd ((b)))))) then (.inl 0) else (.inr ()))

def kgx (y1 : Int) (y2 : Int) (y3 : Int) (y4 : List (Int × (ByteArray × Int))) (y5 : List (Int × Int)) (i : Nat) : (Unit) → kcr
  | _ => ((i : Int), y1, y2, y3, y4, y5)

def ktc : kcr → Unit
  | (_, _, _, _, _, _) => ()

theorem k14n (y1 : Int) (y2 : Int) (y3 : Int) (y4 : List (Int × (ByteArray × Int))) (y5 : List (Int × Int))  (hn : y4.length ≤ 9223372036854775807) (hA : ∀ t ∈ y4, t.2.1.size ≤ 9223372036854775807) :
    k6g.fin ((0 : Int), y1, y2, y3, y4, y5) = true ∧ k6g.res ((0 : Int), y1, y2, y3, y4, y5) = ((walkL (koa) 1 y4 0 ()).1, (kgx y1 y2 y3 y4 y5) (walkL (koa) 1 y4 0 ()).2.1 (walkL (koa) 1 y4 0 ()).2.2) := by
  have key := k6g.along (kgx y1 y2 y3 y4 y5) ktc (koa) 1 (fun _ _ => True) y4 () (by trivial) (by simp only [k6g, kgx]; omega) (fun i b a hb hI => ?_) (fun a hI => ?_)
  · exact key
  · obtain ⟨⟩ := a
    have hlt := (List.getElem?_eq_some_iff.1 hb).1
    have hget : ∀ d, Option.getD y4[i]? d = b := fun d => by rw [hb]; rfl
    have hw := wrap64 hlt hn
    have hdec : ltI (i : Int) (y4.length : Int) = true := ltI_t (by omega)
    have hnn : leI (0 : Int) (i : Int) = true := leI_t (by omega)
    have hltd : ltN i y4.length = true := ltN_t hlt
    refine ⟨?_, ?_, ?_, ?_⟩
    · have hg2 : kbr (i : Int) y4 = b := by simp only [kbr, Int.toNat_natCast]; exact hget _
      have h6 : leN b.2.1.size 9223372036854775807 = true := leN_t (hA b (List.mem_of_getElem? hb))
      simp [kkn, kqm, kr8, kqq, knu, kr6, kmk, k6g, LT.nds, allT, kgx, hdec, hnn, hltd, hg2, h6]
    · simp [kbr, kkn, kqm, kr8, kqq, knu, kr6, kmk, k6g, LT.each, kgx, ktc, hw]
    · have hg2 : kbr (i : Int) y4 = b := by simp only [kbr, Int.toNat_natCast]; exact hget _
      simp only [kkn, knu, kmk, k6g, LT.fn, kgx, ktc, koa, Int.toNat_natCast, hdec, hg2, cond_true]
    · exact fun _ _ => trivial
  · obtain ⟨⟩ := a
    simp [kbr, kkn, kqm, kr8, kqq, knu, kr6, kmk, k6g, LT.out, kgx]

def k6a  (b : Int × (ByteArray × Int)) : (Unit) → Nat ⊕ (Unit)
  | _ => (bif ((kp6 (Prod.fst ((b))) (Prod.fst (Prod.snd ((b)))) (Prod.snd (Prod.snd ((b)))))) then (.inl 0) else (.inr ()))

def k2f (y2 : List (Int × (ByteArray × Int))) (i : Nat) : (Unit) → k1v
  | _ => ((i : Int), (↑(List.length y2) : Int), y2)

def kca : k1v → Unit
  | (_, _, _) => ()

theorem kpe (y2 : List (Int × (ByteArray × Int)))  (hn : y2.length ≤ 9223372036854775807)  :
    k16.fin ((0 : Int), (↑(List.length y2) : Int), y2) = true ∧ k16.res ((0 : Int), (↑(List.length y2) : Int), y2) = ((walkL (k6a) 1 y2 0 ()).1, (k2f y2) (walkL (k6a) 1 y2 0 ()).2.1 (walkL (k6a) 1 y2 0 ()).2.2) := by
  have key := k16.along (k2f y2) kca (k6a) 1 (fun _ _ => True) y2 () (by trivial) (by simp only [k16, k2f]; omega) (fun i b a hb hI => ?_) (fun a hI => ?_)
  · exact key
  · obtain ⟨⟩ := a
    have hlt := (List.getElem?_eq_some_iff.1 hb).1
    have hget : ∀ d, Option.getD y2[i]? d = b := fun d => by rw [hb]; rfl
    have hw := wrap64 hlt hn
    have hdec : ltI (i : Int) (y2.length : Int) = true := ltI_t (by omega)
    have hnn : leI (0 : Int) (i : Int) = true := leI_t (by omega)
    have hltd : ltN i y2.length = true := ltN_t hlt
    refine ⟨?_, ?_, ?_, ?_⟩
    · simp [k32, k68, k69, k66, k63, k6b, k61, k5n, k16, LT.nds, allT, k2f, hdec, hnn, hltd, hget]
    · simp [k32, k68, k69, k66, k63, k6b, k61, k5n, k16, LT.each, k2f, kca, hw]
    · simp only [k32, k68, k69, k66, k63, k6b, k61, k5n, k16, LT.fn, k2f, kca, k6a, Int.toNat_natCast, hdec, hnn, hltd, hget, cond_true, Bool.cond_self]
    · exact fun _ _ => trivial
  · obtain ⟨⟩ := a
    simp [k32, k68, k69, k66, k63, k6b, k61, k5n, k16, LT.out, k2f]

theorem k175 (bs : List TM) : (bs.any fun t => !blockB t.1 t.2.1 t.2.2) = !blksB bs := by simp [blksB, List.all_eq_not_any_not]

theorem k178 (i v o : Int) (bs : List TM) (st : List IN) : klx i v o bs st = !rngC i v o bs st := by
  have e1 : ∀ x : Int, k1u x 0 20 = inR x 0 20 := fun x => by simp only [k1u, inR_eq]
  have e2 : ∀ n : Nat, ltI 2000 (n : Int) = !leN n 2000 := fun n => by
    by_cases h : n ≤ 2000
    · rw [leN_t h, ltI_f (by omega)]; rfl
    · rw [leN_f (by omega), ltI_t (by omega)]; rfl
  simp only [klx, rngC, e1, e2]
  cases inR i 0 20 <;> cases inR v 0 20 <;> cases inR o 0 20 <;> cases leN bs.length 2000 <;> cases leN st.length 2000 <;> rfl

theorem specCodeB (i v o : Int) (bs : List TM) (st : List IN) (h : tsOk bs = true) : kz1 i v o bs st = codeB i v o bs st ∧ kyt i v o bs st = true := by
  obtain ⟨hn, hA⟩ := k16h.1 h
  simp only [kz1, kyt, k178, codeB]
  cases hr : rngC i v o bs st with
  | false => simp [allT]
  | true =>
    obtain ⟨h1, h2, h3, h4, h5⟩ := kyv.1 hr
    obtain ⟨q1, q2, q3⟩ := specHts i v o bs st h5 h4
    obtain ⟨w1, w2⟩ := k14n i v o bs st hn hA
    rw [walk_stop (P := fun t => !blockB t.1 t.2.1 t.2.2) (j := 0) (fun t => rfl), k175] at w2
    simp only [kx1, kxq, w1, w2, q1, q3, allT]
    cases blksB bs <;> simp [Nat.beq]

theorem implCodeB (i v o : Int) (bs : List TM) (st : List IN) : kz0 i v o bs st = codeB i v o bs st ∧ kys i v o bs st = true := by
  have e0 : kr9 i v o bs st = klx i v o bs st := by simp only [kr9, klx, k3s, k1u]
  simp only [kz0, kys, e0, k178, codeB]
  cases hr : rngC i v o bs st with
  | false => simp [allT]
  | true =>
    obtain ⟨h1, h2, h3, h4, h5⟩ := kyv.1 hr
    obtain ⟨q1, q2, q3⟩ := implHts i v o bs st ⟨h1, h2, h3⟩ h5 h4
    obtain ⟨w1, w2⟩ := kpe bs (by omega)
    rw [walk_stop (P := fun t => !blockB t.1 t.2.1 t.2.2) (j := 0) (fun t => rfl), k175] at w2
    simp only [k8u, kd5, ke9, kee, kac, w1, w2, q1, q3, allT]
    cases blksB bs with
    | true => simp [Nat.beq, show leI 0 (-1) = false from rfl]
    | false => simp [Nat.beq, k2f]; intro h; omega

def ky3 : List SV → List Entry → Option Out
  | [.one ⟨true, [.val (.int .i64 x0), .val (.int .i64 x1), .val (.int .i64 x2), .ref 0, .ref 1]⟩], [.row false 178 (.pair (.int .i64) (.pair (.str) (.int .i64))) x3, .row false 150 (.pair (.int .i64) (.int .i64)) x4] => some ⟨(.tup [⟨false, [(.ref 2)]⟩, ⟨false, [(.val (.bool (hgtOk x0 x1 x2 x3 x4)))]⟩]), [(.row false 178 (CTy.pair (CTy.int IntKind.i64) (CTy.pair CTy.str (CTy.int IntKind.i64))) x3), (.row false 150 (CTy.pair (CTy.int IntKind.i64) (CTy.int IntKind.i64)) x4)], [(.row true 2 (CTy.int IntKind.i64) (hgtL x0 x1 x2 x3 x4))], [leN x4.length 2000 && leN x3.length 2000]⟩
  | _, _ => none

def kth : PF Tryz.prog := PF.alt kgw ky3 (by
  intro args es o h hnd; unfold ky3 at h; split at h
  · rename_i x0 x1 x2 x3 x4
    cases h
    have hnd := nd_fst hnd
    have hh := specHts x0 x1 x2 x3 x4 (leN_iff.1 ((Bool.and_eq_true _ _).mp hnd).1) (leN_iff.1 ((Bool.and_eq_true _ _).mp hnd).2)
    obtain ⟨e0, e1, en⟩ := hh
    exact altok rfl (nd_one en) (by simp only [e0] <;> rfl) rfl (by simp only [e1] <;> rfl)
  · cases h)

def kgs : List SV → List Entry → Option Out
  | [.one ⟨true, [.val (.int .i64 x0), .val (.int .i64 x1), .val (.int .i64 x2), .ref 0, .ref 1]⟩], [.row false 178 (.pair (.int .i64) (.pair (.str) (.int .i64))) x3, .row false 150 (.pair (.int .i64) (.int .i64)) x4] => some ⟨(.tup [⟨false, [(.ref 2)]⟩, ⟨false, [(.val (.bool (hgtOk x0 x1 x2 x3 x4)))]⟩]), [(.row false 178 (CTy.pair (CTy.int IntKind.i64) (CTy.pair CTy.str (CTy.int IntKind.i64))) x3), (.row false 150 (CTy.pair (CTy.int IntKind.i64) (CTy.int IntKind.i64)) x4)], [(.row true 2 (CTy.int IntKind.i64) (hgtL x0 x1 x2 x3 x4))], [rngC x0 x1 x2 x3 x4]⟩
  | _, _ => none

def kbx : PF Tryz.prog := PF.alt k87 kgs (by
  intro args es o h hnd; unfold kgs at h; split at h
  · rename_i x0 x1 x2 x3 x4
    cases h
    have hnd := nd_fst hnd
    have hh := (fun h => have h := kyv.1 h; implHts x0 x1 x2 x3 x4 ⟨h.1, h.2.1, h.2.2.1⟩ h.2.2.2.2 h.2.2.2.1) hnd
    obtain ⟨e0, e1, en⟩ := hh
    exact altok rfl (nd_one en) (by simp only [e0] <;> rfl) rfl (by simp only [e1] <;> rfl)
  · cases h)

def k138 : List SV → List Entry → Option Out
  | [.one ⟨true, [.val (.int .i64 x0), .val (.int .i64 x1), .val (.int .i64 x2), .ref 0, .ref 1]⟩], [.row false 178 (.pair (.int .i64) (.pair (.str) (.int .i64))) x3, .row false 150 (.pair (.int .i64) (.int .i64)) x4] => some ⟨(.one ⟨false, [(.val (.bool (codeB x0 x1 x2 x3 x4)))]⟩), [(.row false 178 (CTy.pair (CTy.int IntKind.i64) (CTy.pair CTy.str (CTy.int IntKind.i64))) x3), (.row false 150 (CTy.pair (CTy.int IntKind.i64) (CTy.int IntKind.i64)) x4)], [], [tsOk x3]⟩
  | _, _ => none

def kyh : PF Tryz.prog := PF.alt k165 k138 (by
  intro args es o h hnd; unfold k138 at h; split at h
  · rename_i x0 x1 x2 x3 x4
    cases h
    have hnd := nd_fst hnd
    have hh := specCodeB x0 x1 x2 x3 x4 hnd
    obtain ⟨e0, en⟩ := hh
    exact altok rfl (nd_one en) (by simp only [e0] <;> rfl) rfl rfl
  · cases h)

def k13g : List SV → List Entry → Option Out
  | [.one ⟨true, [.val (.int .i64 x0), .val (.int .i64 x1), .val (.int .i64 x2), .ref 0, .ref 1]⟩], [.row false 178 (.pair (.int .i64) (.pair (.str) (.int .i64))) x3, .row false 150 (.pair (.int .i64) (.int .i64)) x4] => some ⟨(.one ⟨false, [(.val (.bool (codeB x0 x1 x2 x3 x4)))]⟩), [(.row false 178 (CTy.pair (CTy.int IntKind.i64) (CTy.pair CTy.str (CTy.int IntKind.i64))) x3), (.row false 150 (CTy.pair (CTy.int IntKind.i64) (CTy.int IntKind.i64)) x4)], [], []⟩
  | _, _ => none

def kym : PF Tryz.prog := PF.alt k15y k13g (by
  intro args es o h hnd; unfold k13g at h; split at h
  · rename_i x0 x1 x2 x3 x4
    cases h
    have hh := implCodeB x0 x1 x2 x3 x4
    obtain ⟨e0, en⟩ := hh
    exact altok rfl (nd_one en) (by simp only [e0] <;> rfl) rfl rfl
  · cases h)

end Go.SX

namespace Go.SX
open Go.Proofs
set_option maxRecDepth 100000

def termAt (bs : List TM) (k : Nat) : TM := Option.getD bs[k]? ((0 : Int), ByteArray.empty, (0 : Int))
def stAt (ss : List BS3) (k : Nat) : BS3 := Option.getD ss[k]? ((0 : Int), (0 : Int), (0 : Int))
def possAt (bs : List TM) (ss : List BS3) (k : Nat) : Bool := possB (termAt bs k).1 (termAt bs k).2.2 (stAt ss k).1 (stAt ss k).2.1 (stAt ss k).2.2
/-- A memory suits a code. -/
def suitB (v : Int) (bs : List TM) (xs : List Int) (ss : List BS3) : Bool := ((ss.length : Int) == (bs.length : Int)) && (bitsB v xs && (List.range bs.length).all fun k => possAt bs ss k)

def kkx (y4 : List (Int × (ByteArray × Int))) (y7 : List (Int × (Int × Int))) (b : Nat) : (Unit) → Nat ⊕ (Unit)
  | _ => (bif ((!k2u (Prod.fst ((Option.getD y4[b]? ((0 : Int), ByteArray.empty, (0 : Int))))) (Prod.snd (Prod.snd ((Option.getD y4[b]? ((0 : Int), ByteArray.empty, (0 : Int)))))) (Prod.fst ((Option.getD y7[b]? ((0 : Int), (0 : Int), (0 : Int))))) (Prod.fst (Prod.snd ((Option.getD y7[b]? ((0 : Int), (0 : Int), (0 : Int)))))) (Prod.snd (Prod.snd ((Option.getD y7[b]? ((0 : Int), (0 : Int), (0 : Int)))))))) then (.inl 0) else (.inr ()))

def keq (y1 : Int) (y2 : Int) (y3 : Int) (y4 : List (Int × (ByteArray × Int))) (y5 : List (Int × Int)) (y6 : List Int) (y7 : List (Int × (Int × Int))) (i : Nat) : (Unit) → kap
  | _ => ((i : Int), y1, y2, y3, y4, y5, y6, y7)

def kqs : kap → Unit
  | (_, _, _, _, _, _, _, _) => ()

theorem k12u (y1 : Int) (y2 : Int) (y3 : Int) (y4 : List (Int × (ByteArray × Int))) (y5 : List (Int × Int)) (y6 : List Int) (y7 : List (Int × (Int × Int)))  (hn : y4.length ≤ 9223372036854775807) (he : y7.length = y4.length) :
    k48.fin ((0 : Int), y1, y2, y3, y4, y5, y6, y7) = true ∧ k48.res ((0 : Int), y1, y2, y3, y4, y5, y6, y7) = ((walkL (kkx y4 y7) 1 (List.range y4.length) 0 ()).1, (keq y1 y2 y3 y4 y5 y6 y7) (walkL (kkx y4 y7) 1 (List.range y4.length) 0 ()).2.1 (walkL (kkx y4 y7) 1 (List.range y4.length) 0 ()).2.2) := by
  have key := k48.along (keq y1 y2 y3 y4 y5 y6 y7) kqs (kkx y4 y7) 1 (fun _ _ => True) (List.range y4.length) () (by trivial) (by simp only [k48, keq, List.length_range]; omega) (fun i b a hb hI => ?_) (fun a hI => ?_)
  · exact key
  · obtain ⟨⟩ := a
    obtain ⟨rfl, hlt⟩ := range_get hb
    have hw : IntKind.i64.wrap ((b : Int) + 1) = ((b + 1 : Nat) : Int) := by rw [wrap_i64 (by omega) (by omega)]; omega
    have hdec : ltI (b : Int) (y4.length : Int) = true := ltI_t (by omega)
    have hnn : leI (0 : Int) (b : Int) = true := leI_t (by omega)
    have hltd : ltN b y4.length = true := ltN_t (by omega)
    refine ⟨?_, ?_, ?_, ?_⟩
    · simp [kgm, kep, khk, khg, kl6, kl0, kko, kl4, kk8, kj9, k48, LT.nds, allT, keq, hdec, hnn, hltd, he]
    · simp [kgm, kep, khk, khg, kl6, kl0, kko, kl4, kk8, kj9, k48, LT.each, keq, kqs, hw, he]
    · simp only [kgm, kep, khk, khg, kl6, kl0, kko, kl4, kk8, kj9, k48, LT.fn, keq, kqs, kkx, Int.toNat_natCast, hdec, cond_true]
    · exact fun _ _ => trivial
  · obtain ⟨⟩ := a
    simp [kgm, kep, khk, khg, kl6, kl0, kko, kl4, kk8, kj9, k48, LT.out, keq, List.length_range]

def k41 (y2 : List (Int × (ByteArray × Int))) (y4 : List (Int × (Int × Int))) (b : Nat) : (Unit) → Nat ⊕ (Unit)
  | _ => (bif ((!kiv (Prod.fst ((Option.getD y2[b]? ((0 : Int), ByteArray.empty, (0 : Int))))) (Prod.snd (Prod.snd ((Option.getD y2[b]? ((0 : Int), ByteArray.empty, (0 : Int)))))) (Prod.fst ((Option.getD y4[b]? ((0 : Int), (0 : Int), (0 : Int))))) (Prod.fst (Prod.snd ((Option.getD y4[b]? ((0 : Int), (0 : Int), (0 : Int)))))) (Prod.snd (Prod.snd ((Option.getD y4[b]? ((0 : Int), (0 : Int), (0 : Int)))))))) then (.inl 0) else (.inr ()))

def k2c (y2 : List (Int × (ByteArray × Int))) (y3 : List Int) (y4 : List (Int × (Int × Int))) (i : Nat) : (Unit) → k1k
  | _ => ((i : Int), (↑(List.length y2) : Int), y2, y3, y4)

def ka9 : k1k → Unit
  | (_, _, _, _, _) => ()

theorem kn9 (y2 : List (Int × (ByteArray × Int))) (y3 : List Int) (y4 : List (Int × (Int × Int)))  (hn : y2.length ≤ 9223372036854775807) (he : y4.length = y2.length) :
    k14.fin ((0 : Int), (↑(List.length y2) : Int), y2, y3, y4) = true ∧ k14.res ((0 : Int), (↑(List.length y2) : Int), y2, y3, y4) = ((walkL (k41 y2 y4) 1 (List.range y2.length) 0 ()).1, (k2c y2 y3 y4) (walkL (k41 y2 y4) 1 (List.range y2.length) 0 ()).2.1 (walkL (k41 y2 y4) 1 (List.range y2.length) 0 ()).2.2) := by
  have key := k14.along (k2c y2 y3 y4) ka9 (k41 y2 y4) 1 (fun _ _ => True) (List.range y2.length) () (by trivial) (by simp only [k14, k2c, List.length_range]; omega) (fun i b a hb hI => ?_) (fun a hI => ?_)
  · exact key
  · obtain ⟨⟩ := a
    obtain ⟨rfl, hlt⟩ := range_get hb
    have hw : IntKind.i64.wrap ((b : Int) + 1) = ((b + 1 : Nat) : Int) := by rw [wrap_i64 (by omega) (by omega)]; omega
    have hdec : ltI (b : Int) (y2.length : Int) = true := ltI_t (by omega)
    have hnn : leI (0 : Int) (b : Int) = true := leI_t (by omega)
    have hltd : ltN b y2.length = true := ltN_t (by omega)
    refine ⟨?_, ?_, ?_, ?_⟩
    · simp [k2z, k2d, k44, k33, k45, k42, k46, k3z, k3y, k40, k3q, k14, LT.nds, allT, k2c, hdec, hnn, hltd, he]
    · simp [k2z, k2d, k44, k33, k45, k42, k46, k3z, k3y, k40, k3q, k14, LT.each, k2c, ka9, hw, he]
    · simp only [k2z, k2d, k44, k33, k45, k42, k46, k3z, k3y, k40, k3q, k14, LT.fn, k2c, ka9, k41, Int.toNat_natCast, hdec, cond_true]
    · exact fun _ _ => trivial
  · obtain ⟨⟩ := a
    simp [k2z, k2d, k44, k33, k45, k42, k46, k3z, k3y, k40, k3q, k14, LT.out, k2c, List.length_range]

theorem k16z {α : Type} {g h : α → Bool} : ∀ (l : List α), (∀ k ∈ l, g k = h k) → (l.any fun b => !g b) = !l.all h
  | [], _ => rfl
  | a :: l, hg => by
    rw [List.any_cons, List.all_cons, hg a (by simp), k16z l (fun k hk => hg k (by simp [hk]))]
    cases h a <;> simp

theorem specSuits (i v o : Int) (bs : List TM) (st : List IN) (xs : List Int) (ss : List BS3) (h : (leN xs.length 9223372036854775807 && leN bs.length 9223372036854775807) = true) :
    ksm i v o bs st xs ss = suitB v bs xs ss ∧ kst i v o bs st xs ss = true := by
  simp only [Bool.and_eq_true] at h
  have hn := leN_iff.1 h.2
  by_cases hl : ss.length = bs.length
  · obtain ⟨w1, w2⟩ := k12u i v o bs st xs ss hn hl
    rw [walk_stop (P := fun k => !possAt bs ss k) (j := 0) (fun k => rfl), k16z (g := possAt bs ss) (h := possAt bs ss) _ (fun k _ => rfl)] at w2
    have a0 : kil bs ss = false := by simp [kil, hl]
    simp only [ksm, kst, kub, a0, w1, w2, h.1, allT, suitB, hl]
    cases bitsB v xs <;> cases (List.range bs.length).all (possAt bs ss) <;> simp [Nat.beq]
  · have hl2 : ¬ ((ss.length : Int) = (bs.length : Int)) := by omega
    have a0 : kil bs ss = true := by simp [kil, hl2]
    have e : ((ss.length : Int) == (bs.length : Int)) = false := by simpa using hl2
    simp [ksm, kst, a0, allT, suitB, e]

theorem implSuits (v : Int) (bs : List TM) (xs : List Int) (ss : List BS3) (h : (leN xs.length 9223372036854775807 && (leN bs.length 9223372036854775807 && blksB bs)) = true) :
    k85 v xs ss bs = suitB v bs xs ss ∧ k80 v xs ss bs = true := by
  simp only [Bool.and_eq_true] at h
  have hn := leN_iff.1 h.2.1
  have hB : ∀ t ∈ bs, blockB t.1 t.2.1 t.2.2 = true := List.all_eq_true.1 h.2.2
  by_cases hl : ss.length = bs.length
  · obtain ⟨w1, w2⟩ := kn9 bs xs ss hn hl
    rw [walk_stop (P := fun k => !kiv (termAt bs k).1 (termAt bs k).2.2 (stAt ss k).1 (stAt ss k).2.1 (stAt ss k).2.2) (j := 0) (fun k => rfl),
      k16z (g := fun k => kiv (termAt bs k).1 (termAt bs k).2.2 (stAt ss k).1 (stAt ss k).2.1 (stAt ss k).2.2) (h := possAt bs ss) _ (fun k hk => by
        have hk : k < bs.length := List.mem_range.1 hk
        have hg : termAt bs k = bs[k] := by simp only [termAt, List.getElem?_eq_getElem hk]; rfl
        have := hB _ (List.getElem_mem hk)
        rw [← hg] at this
        exact k18d (k14i this).1)] at w2
    have a0 : k3d v xs ss bs = !bitsB v xs := by simp only [k3d, hl]; cases bitsB v xs <;> simp
    simp only [k85, k80, kbn, a0, w1, w2, h.1, allT, suitB, hl]
    cases bitsB v xs <;> cases (List.range bs.length).all (possAt bs ss) <;> simp [Nat.beq]
  · have hl2 : ¬ ((ss.length : Int) = (bs.length : Int)) := by omega
    have a0 : k3d v xs ss bs = true := by simp only [k3d]; cases bitsB v xs <;> simp [hl2]
    have e : ((ss.length : Int) == (bs.length : Int)) = false := by simpa using hl2
    simp [k85, k80, a0, allT, suitB, e, h.1]

def k10a : List SV → List Entry → Option Out
  | [.one ⟨true, [.val (.int .i64 x0), .val (.int .i64 x1), .val (.int .i64 x2), .ref 0, .ref 1]⟩, .one ⟨true, [.ref 2, .ref 3]⟩], [.row false 178 (.pair (.int .i64) (.pair (.str) (.int .i64))) x3, .row false 150 (.pair (.int .i64) (.int .i64)) x4, .row false 2 (.int .i64) x5, .row false 172 (.pair (.int .i64) (.pair (.int .i64) (.int .i64))) x6] => some ⟨(.one ⟨false, [(.val (.bool (suitB x1 x3 x5 x6)))]⟩), [(.row false 178 (CTy.pair (CTy.int IntKind.i64) (CTy.pair CTy.str (CTy.int IntKind.i64))) x3), (.row false 150 (CTy.pair (CTy.int IntKind.i64) (CTy.int IntKind.i64)) x4), (.row false 2 (CTy.int IntKind.i64) x5), (.row false 172 (CTy.pair (CTy.int IntKind.i64) (CTy.pair (CTy.int IntKind.i64) (CTy.int IntKind.i64))) x6)], [], [leN x5.length 9223372036854775807 && leN x3.length 9223372036854775807]⟩
  | _, _ => none

def kvr : PF Tryz.prog := PF.alt k150 k10a (by
  intro args es o h hnd; unfold k10a at h; split at h
  · rename_i x0 x1 x2 x3 x4 x5 x6
    cases h
    have hnd := nd_fst hnd
    have hh := specSuits x0 x1 x2 x3 x4 x5 x6 hnd
    obtain ⟨e0, en⟩ := hh
    exact altok rfl (nd_one en) (by simp only [e0] <;> rfl) rfl rfl
  · cases h)

def kgt : List SV → List Entry → Option Out
  | [.one ⟨true, [.ref 0, .ref 1]⟩, .one ⟨false, [.val (.int .i64 x0)]⟩, .one ⟨false, [.ref 2]⟩], [.row false 2 (.int .i64) x1, .row false 172 (.pair (.int .i64) (.pair (.int .i64) (.int .i64))) x2, .row false 178 (.pair (.int .i64) (.pair (.str) (.int .i64))) x3] => some ⟨(.one ⟨false, [(.val (.bool (suitB x0 x3 x1 x2)))]⟩), [(.row false 2 (CTy.int IntKind.i64) x1), (.row false 172 (CTy.pair (CTy.int IntKind.i64) (CTy.pair (CTy.int IntKind.i64) (CTy.int IntKind.i64))) x2), (.row false 178 (CTy.pair (CTy.int IntKind.i64) (CTy.pair CTy.str (CTy.int IntKind.i64))) x3)], [], [leN x1.length 9223372036854775807 && (leN x3.length 9223372036854775807 && blksB x3)]⟩
  | _, _ => none

def kc0 : PF Tryz.prog := PF.alt kok kgt (by
  intro args es o h hnd; unfold kgt at h; split at h
  · rename_i x0 x1 x2 x3
    cases h
    have hnd := nd_fst hnd
    have hh := implSuits x0 x3 x1 x2 hnd
    obtain ⟨e0, en⟩ := hh
    exact altok rfl (nd_one en) (by simp only [e0] <;> rfl) rfl rfl
  · cases h)

end Go.SX

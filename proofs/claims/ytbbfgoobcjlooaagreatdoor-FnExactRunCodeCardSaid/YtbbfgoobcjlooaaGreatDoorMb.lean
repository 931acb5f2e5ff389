/- What functions of the program come to, and what that says in plain words: part 2. -/
import Derived.Test.YtbbfgoobcjlooaaGreatDoorMa
import Derived.Test.YtbbfgoobcjlooaaGreatDoorTXh
import Derived.Test.YtbbfgoobcjlooaaGreatDoorProg
set_option linter.unusedSimpArgs false
set_option linter.unusedVariables false
namespace Go.SX
open Go.Proofs
set_option maxRecDepth 100000

abbrev k9q := Int × Int × List (Int × (ByteArray × Int))

def kfj (y0 : Int) (y1 : Int) (y2 : List (Int × (ByteArray × Int))) : Int :=
  ked (Prod.fst (Prod.snd (Option.getD y2[Int.toNat y0]? ((0 : Int), ByteArray.empty, (0 : Int))))) y1

def kha (y0 : Int) (y2 : List (Int × (ByteArray × Int))) : Bool :=
  ltI y0 (↑(List.length y2) : Int)

def kkg (y0 : Int) : Bool :=
  leI (0 : Int) y0

def kki (y0 : Int) (y2 : List (Int × (ByteArray × Int))) : Bool :=
  ltN (Int.toNat y0) (List.length y2)

def kk7 (y0 : Int) (y1 : Int) (y2 : List (Int × (ByteArray × Int))) : Bool :=
  ltI (kfj y0 y1 y2) (0 : Int)

def kez  : Int :=
  (-1 : Int)

def kkn (y0 : Int) : Int :=
  IntKind.wrap IntKind.i64 (y0 + (1 : Int))

def kk0 (y0 : Int) (y1 : Int) (y2 : List (Int × (ByteArray × Int))) : Int :=
  kfj y0 y1 y2

def k10o : k9q → List (Nat × SV)
  | (y0, y1, _) => [(5, (.one ⟨false, [(.val (.int IntKind.i64 y0))]⟩)), (0, (.one ⟨false, [(.ref 0)]⟩)), (1, (.one ⟨false, [(.val (.int IntKind.i64 y1))]⟩))]

def k10n : k9q → List (Nat × Entry)
  | (_, _, y2) => [(0, (.row false 175 (CTy.pair (CTy.int IntKind.i64) (CTy.pair CTy.str (CTy.int IntKind.i64))) y2))]

def k10f : Nat → k9q → List (Nat × SV)
  | 0, (_, _, _) => [(4, (.one ⟨false, [(.val (.int IntKind.i64 (kez)))]⟩))]
  | _, (_, y1, _) => [(1, (.one ⟨false, [(.val (.int IntKind.i64 y1))]⟩))]

def k109 : Nat → k9q → List (Nat × Entry)
  | 0, (_, _, y2) => [(0, (.row false 175 (CTy.pair (CTy.int IntKind.i64) (CTy.pair CTy.str (CTy.int IntKind.i64))) y2))]
  | _, (_, _, y2) => [(0, (.row false 175 (CTy.pair (CTy.int IntKind.i64) (CTy.pair CTy.str (CTy.int IntKind.i64))) y2))]

def kj7 : k9q → LT k9q
  | (y0, y1, y2) => .ite (kha y0 y2) (.need [(kkg y0), (kha y0 y2), (kki y0 y2)] (.ite (kk7 y0 y1 y2) (.ext 0 [(0, 0)]) (.nrm ((kkn y0), (kk0 y0 y1 y2), y2) [(0, 0)]))) (.ext 1 [(0, 0)])

def kp0 (s : St) : Option k9q :=
  (match s.look 5 with
  | some ⟨none, (.one ⟨false, [(.val (.int IntKind.i64 y0))]⟩)⟩ =>
  (match s.look 0 with
  | some ⟨none, (.one ⟨false, [(.ref 0)]⟩)⟩ =>
  (match s.look 1 with
  | some ⟨none, (.one ⟨false, [(.val (.int IntKind.i64 y1))]⟩)⟩ =>
  (match s.ent 0 with
  | some (.row false 175 (CTy.pair (CTy.int IntKind.i64) (CTy.pair CTy.str (CTy.int IntKind.i64))) y2) =>
  some (y0, y1, y2)
  | _ => none)
  | _ => none)
  | _ => none)
  | _ => none)

def k3g : Lp k9q where
  h := ⟨[12, 13, 14, 15, 18, 19, 20, 21, 22, 23, 1, 24, 25, 4, 16, 17, 5], [0], [], []⟩
  JL := k10o
  JE := k10n
  XL := k10f
  XE := k109
  q := fun j => match j with | 0 => .ret | _ => .exit 0
  tags := [0, 1]
  lt := kj7
  fuel := fun (y0, y1, y2) => y0.natAbs + y1.natAbs + y2.length
  fix := fun (_, _, y2) (y0, y1, _) => (y0, y1, y2)
  σ := [(0, 0)]
  rd := kp0

theorem ky1 : LoopOk Tryz.prog (fun k => Nat.blt k Tryz.f84.ntmps) k3g.F (loopAt Tryz.f84 0) := by
  refine Lp.ok (tbl := [k11e]) (lf := []) hmix k3g (by kernel_rfl) (LOk.nil _) (fun _ => rfl) (fun j _ => by unfold k3g; match j with | 0 => rfl | _ + 1 => rfl) ?_ ?_ ?_ ?_ (fun _ => rfl) ?_
  · intro x; obtain ⟨y0, y1, y2⟩ := x; kernel_rfl
  · intro x; obtain ⟨y0, y1, y2⟩ := x; kernel_rfl
  · intro s x h
    have h : kp0 s = some x := h
    unfold kp0 at h
    repeat' split at h
    all_goals cases h
    exact ⟨absS_cons (by assumption) rfl (absS_cons (by assumption) rfl (absS_cons (by assumption) rfl (rfl))), absE_cons rfl (by assumption) rfl (rfl)⟩
  · intro x; obtain ⟨y0, y1, y2⟩ := x; kernel_rfl
  · intro x z; obtain ⟨y0, y1, y2⟩ := x; exact (And.intro (And.intro trivial rfl) trivial)

def kpk (x0 : Int) (x1 : List (Int × ByteArray × Int)) : Int :=
  IntKind.wrap IntKind.i64 (x0 - (↑(List.length x1) : Int))

def kpj (x0 : Int) (x1 : List (Int × ByteArray × Int)) : Int × Int × List (Int × ByteArray × Int) :=
  ((0 : Int), kpk x0 x1, x1)

def kuy (x0 : Int) (x1 : List (Int × ByteArray × Int)) : Int :=
  bif ltI (kpk x0 x1) (0 : Int) then (-1 : Int)
  else
  bif Nat.beq (Prod.fst (Lp.res k3g (kpj x0 x1))) (0 : Nat) then kez
  else Prod.fst (Prod.snd (Prod.snd (Lp.res k3g (kpj x0 x1))))

def kv0 (x0 : Int) (x1 : List (Int × ByteArray × Int)) : Bool :=
  allT [ltI (kpk x0 x1) (0 : Int) || Lp.fin k3g (kpj x0 x1)]

def kyr : List SV → List Entry → Option Out
  | [.one ⟨false, [.ref 0]⟩, .one ⟨false, [.val (.int .i64 x0)]⟩], [.row false 175 (.pair (.int .i64) (.pair (.str) (.int .i64))) x1] => some ⟨(.one ⟨false, [(.val (.int IntKind.i64 (kuy x0 x1)))]⟩), [(.row false 175 (CTy.pair (CTy.int IntKind.i64) (CTy.pair CTy.str (CTy.int IntKind.i64))) x1)], [], [(kv0 x0 x1)]⟩
  | _, _ => none

def k132 : PF Tryz.prog := PF.ofG Tryz.prog [k11e] [k3g.F] hmix 84 Tryz.f84 Tryz.func84 (LOk.fnT (l := [loopAt Tryz.f84 0]) (by kernel_rfl) (.cons ky1 (.nil _))) kyr (by
  intro vs es r h; unfold kyr at h; split at h
  · cases h; kernel_rfl
  · cases h)

def km4 (x0 : Int) (x1 : List (Int × Int)) : Int :=
  IntKind.wrap IntKind.i64 (x0 - (↑(List.length x1) : Int))

def kmw (x0 : Int) (x1 : List (Int × Int)) : Int :=
  bif ltI (km4 x0 x1) (0 : Int) then (-1 : Int) else km4 x0 x1

def kqo : List SV → List Entry → Option Out
  | [.one ⟨false, [.ref 0]⟩, .one ⟨false, [.val (.int .i64 x0)]⟩], [.row false 183 (.pair (.int .i64) (.int .i64)) x1] => some ⟨(.one ⟨false, [(.val (.int IntKind.i64 (kmw x0 x1)))]⟩), [(.row false 183 (CTy.pair (CTy.int IntKind.i64) (CTy.int IntKind.i64)) x1)], [], []⟩
  | _, _ => none

def kwm : PF Tryz.prog := PF.ofG Tryz.prog [] [] hmix 85 Tryz.f85 Tryz.func85 (fun c _ => LOk.nil c) kqo (by
  intro vs es r h; unfold kqo at h; split at h
  · cases h; kernel_rfl
  · cases h)

def k82 (x3 : Int) : Bool :=
  bif x3 == (1 : Int) then x3 == (1 : Int) else bif x3 == (2 : Int) then x3 == (2 : Int) else x3 == (3 : Int)

def k86 (x3 : Int) : Bool :=
  bif x3 == (5 : Int) then x3 == (5 : Int) else x3 == (6 : Int)

def kcw (x3 : Int) : Bool :=
  bif x3 == (8 : Int) then x3 == (8 : Int) else x3 == (9 : Int)

def k3l (x3 : Int) (x4 : Int) (x5 : List (Int × ByteArray × Int)) : Int :=
  bif k82 x3 then (0 : Int)
  else
  bif x3 == (4 : Int) then (1 : Int)
  else
    bif k86 x3 then (2 : Int)
    else
      bif x3 == (7 : Int) then kle (Prod.fst (Option.getD x5[Int.toNat x4]? ((0 : Int), ByteArray.empty, (0 : Int))))
      else bif kcw x3 then (1 : Int) else (0 : Int)

def k6b (x3 : Int) : Int :=
  bif k82 x3 then (1 : Int)
  else
  bif x3 == (4 : Int) then (1 : Int)
  else bif k86 x3 then (1 : Int) else bif x3 == (7 : Int) then (1 : Int) else bif kcw x3 then (0 : Int) else (0 : Int)

def kfg (x3 : Int) (x4 : Int) (x5 : List (Int × ByteArray × Int)) : Bool :=
  allT
  [k82 x3 || (x3 == (4 : Int) || (k86 x3 || (!x3 == (7 : Int) || leI (0 : Int) x4))),
    k82 x3 || (x3 == (4 : Int) || (k86 x3 || (!x3 == (7 : Int) || ltI x4 (↑(List.length x5) : Int)))),
    k82 x3 || (x3 == (4 : Int) || (k86 x3 || (!x3 == (7 : Int) || ltN (Int.toNat x4) (List.length x5))))]

def kxi : List SV → List Entry → Option Out
  | [.one ⟨true, [.val (.int .i64 _x0), .val (.int .i64 _x1), .val (.int .i64 _x2), .ref 0, .ref 1]⟩, .one ⟨true, [.val (.int .i64 x3), .val (.int .i64 x4)]⟩], [.row false 178 (.pair (.int .i64) (.pair (.str) (.int .i64))) x5, .row false 150 (.pair (.int .i64) (.int .i64)) x6] => some ⟨(.tup [⟨false, [(.val (.int IntKind.i64 (k3l x3 x4 x5)))]⟩, ⟨false, [(.val (.int IntKind.i64 (k6b x3)))]⟩]), [(.row false 178 (CTy.pair (CTy.int IntKind.i64) (CTy.pair CTy.str (CTy.int IntKind.i64))) x5), (.row false 150 (CTy.pair (CTy.int IntKind.i64) (CTy.int IntKind.i64)) x6)], [], [(kfg x3 x4 x5)]⟩
  | _, _ => none

def ke7 : PF Tryz.prog := PF.ofG Tryz.prog [k12h] [] hmix 189 Tryz.f189 Tryz.func189 (fun c _ => LOk.nil c) kxi (by
  intro vs es r h; unfold kxi at h; split at h
  · cases h; kernel_rfl
  · cases h)

def kf9 (x0 : Int) (x1 : Int) (x2 : Int) (x3 : Int) (x4 : Int) (x5 : List (Int × ByteArray × Int)) : Bool :=
  bif x3 == (1 : Int) then k1r x4 (0 : Int) (1 : Int)
  else
  bif bif x3 == (2 : Int) then x3 == (2 : Int) else x3 == (10 : Int) then k1r x4 (0 : Int) (IntKind.wrap IntKind.i64 (x0 - (1 : Int)))
  else
    bif bif x3 == (3 : Int) then x3 == (3 : Int) else bif x3 == (8 : Int) then x3 == (8 : Int) else x3 == (11 : Int) then
      k1r x4 (0 : Int) (IntKind.wrap IntKind.i64 (x1 - (1 : Int)))
    else
      bif bif x3 == (4 : Int) then x3 == (4 : Int) else bif x3 == (5 : Int) then x3 == (5 : Int) else x3 == (6 : Int) then x4 == (0 : Int)
      else
        bif x3 == (7 : Int) then k1r x4 (0 : Int) (IntKind.wrap IntKind.i64 ((↑(List.length x5) : Int) - (1 : Int)))
        else bif x3 == (9 : Int) then k1r x4 (0 : Int) (IntKind.wrap IntKind.i64 (x2 - (1 : Int))) else false

def kz5 : List SV → List Entry → Option Out
  | [.one ⟨true, [.val (.int .i64 x0), .val (.int .i64 x1), .val (.int .i64 x2), .ref 0, .ref 1]⟩, .one ⟨true, [.val (.int .i64 x3), .val (.int .i64 x4)]⟩], [.row false 178 (.pair (.int .i64) (.pair (.str) (.int .i64))) x5, .row false 150 (.pair (.int .i64) (.int .i64)) x6] => some ⟨(.one ⟨false, [(.val (.bool (kf9 x0 x1 x2 x3 x4 x5)))]⟩), [(.row false 178 (CTy.pair (CTy.int IntKind.i64) (CTy.pair CTy.str (CTy.int IntKind.i64))) x5), (.row false 150 (CTy.pair (CTy.int IntKind.i64) (CTy.int IntKind.i64)) x6)], [], []⟩
  | _, _ => none

def kmk : PF Tryz.prog := PF.ofG Tryz.prog [ki1] [] hmix 213 Tryz.f213 Tryz.func213 (fun c _ => LOk.nil c) kz5 (by
  intro vs es r h; unfold kz5 at h; split at h
  · cases h; kernel_rfl
  · cases h)

abbrev k6g := Int × Int × Int × Int × Int × List Int × List (Int × (ByteArray × Int)) × List (Int × Int)

def k2t (y0 : Int) (y7 : List (Int × Int)) : Int × Int :=
  Option.getD y7[Int.toNat y0]? ((0 : Int), (0 : Int))

def kf4 (y0 : Int) (y6 : List (Int × (ByteArray × Int))) (y7 : List (Int × Int)) : Int :=
  k3l (Prod.fst (k2t y0 y7)) (Prod.snd (k2t y0 y7)) y6

def k8r (y0 : Int) (y1 : Int) (y6 : List (Int × (ByteArray × Int))) (y7 : List (Int × Int)) : Int :=
  IntKind.wrap IntKind.i64 (IntKind.wrap IntKind.i64 (y1 - kf4 y0 y6 y7) + k6b (Prod.fst (k2t y0 y7)))

def kbj (y0 : Int) (y7 : List (Int × Int)) : Bool :=
  ltI y0 (↑(List.length y7) : Int)

def kgj (y0 : Int) : Bool :=
  leI (0 : Int) y0

def kfu (y0 : Int) (y7 : List (Int × Int)) : Bool :=
  ltN (Int.toNat y0) (List.length y7)

def kgk (y0 : Int) (y2 : Int) (y3 : Int) (y4 : Int) (y6 : List (Int × (ByteArray × Int))) (y7 : List (Int × Int)) : Bool :=
  !kf9 y2 y3 y4 (Prod.fst (k2t y0 y7)) (Prod.snd (k2t y0 y7)) y6

def kjk (y0 : Int) (y6 : List (Int × (ByteArray × Int))) (y7 : List (Int × Int)) : Bool :=
  kfg (Prod.fst (k2t y0 y7)) (Prod.snd (k2t y0 y7)) y6

def kjy (y0 : Int) (y1 : Int) (y6 : List (Int × (ByteArray × Int))) (y7 : List (Int × Int)) : Bool :=
  bif ltI y1 (kf4 y0 y6 y7) then true else ltI (40 : Int) (k8r y0 y1 y6 y7)

def kjs (y0 : Int) (y1 : Int) (y5 : List Int) (y6 : List (Int × (ByteArray × Int))) (y7 : List (Int × Int)) : Bool :=
  leN (List.length y5 + List.length [k8r y0 y1 y6 y7]) (9223372036854775807 : Nat)

def kjt (y0 : Int) (y1 : Int) (y5 : List Int) (y6 : List (Int × (ByteArray × Int))) (y7 : List (Int × Int)) : Bool :=
  leN ((List.length y5 + List.length [k8r y0 y1 y6 y7]) * (8 : Nat)) (140737488355328 : Nat)

def kjm (y0 : Int) : Int :=
  IntKind.wrap IntKind.i64 (y0 + (1 : Int))

def kjn (y0 : Int) (y1 : Int) (y6 : List (Int × (ByteArray × Int))) (y7 : List (Int × Int)) : Int :=
  k8r y0 y1 y6 y7

def ki6 (y0 : Int) (y1 : Int) (y5 : List Int) (y6 : List (Int × (ByteArray × Int))) (y7 : List (Int × Int)) : List Int :=
  y5 ++ [k8r y0 y1 y6 y7]

def kx8 : k6g → List (Nat × SV)
  | (y0, y1, _, _, _, _, _, _) => [(6, (.one ⟨false, [(.val (.int IntKind.i64 y0))]⟩)), (1, (.one ⟨false, [(.ptr 0 0)]⟩)), (5, (.one ⟨false, [(.val (.int IntKind.i64 y1))]⟩)), (4, (.one ⟨false, [(.ref 1)]⟩))]

def kx2 : k6g → List (Nat × Entry)
  | (_, _, y2, y3, y4, y5, y6, y7) => [(0, (.box 34 [(.val (.int IntKind.i64 y2)), (.val (.int IntKind.i64 y3)), (.val (.int IntKind.i64 y4)), (.ref 2), (.ref 3)])), (2, (.row false 178 (CTy.pair (CTy.int IntKind.i64) (CTy.pair CTy.str (CTy.int IntKind.i64))) y6)), (3, (.row false 150 (CTy.pair (CTy.int IntKind.i64) (CTy.int IntKind.i64)) y7)), (1, (.row true 2 (CTy.int IntKind.i64) y5))]

def kx6 : Nat → k6g → List (Nat × SV)
  | 0, (_, _, _, _, _, _, _, _) => [(2, (.one ⟨false, [(.ref 4)]⟩)), (3, (.one ⟨false, [(.val (.bool false))]⟩))]
  | 1, (_, _, _, _, _, _, _, _) => [(2, (.one ⟨false, [(.ref 4)]⟩)), (3, (.one ⟨false, [(.val (.bool false))]⟩))]
  | _, (_, y1, _, _, _, _, _, _) => [(5, (.one ⟨false, [(.val (.int IntKind.i64 y1))]⟩)), (4, (.one ⟨false, [(.ref 1)]⟩))]

def kww : Nat → k6g → List (Nat × Entry)
  | 0, (_, _, y2, y3, y4, y5, y6, y7) => [(0, (.box 34 [(.val (.int IntKind.i64 y2)), (.val (.int IntKind.i64 y3)), (.val (.int IntKind.i64 y4)), (.ref 2), (.ref 3)])), (1, (.row true 2 (CTy.int IntKind.i64) y5)), (2, (.row false 178 (CTy.pair (CTy.int IntKind.i64) (CTy.pair CTy.str (CTy.int IntKind.i64))) y6)), (3, (.row false 150 (CTy.pair (CTy.int IntKind.i64) (CTy.int IntKind.i64)) y7)), (4, (.row true 2 (CTy.int IntKind.i64) []))]
  | 1, (_, _, y2, y3, y4, y5, y6, y7) => [(0, (.box 34 [(.val (.int IntKind.i64 y2)), (.val (.int IntKind.i64 y3)), (.val (.int IntKind.i64 y4)), (.ref 2), (.ref 3)])), (1, (.row true 2 (CTy.int IntKind.i64) y5)), (2, (.row false 178 (CTy.pair (CTy.int IntKind.i64) (CTy.pair CTy.str (CTy.int IntKind.i64))) y6)), (3, (.row false 150 (CTy.pair (CTy.int IntKind.i64) (CTy.int IntKind.i64)) y7)), (4, (.row true 2 (CTy.int IntKind.i64) []))]
  | _, (_, _, y2, y3, y4, y5, y6, y7) => [(0, (.box 34 [(.val (.int IntKind.i64 y2)), (.val (.int IntKind.i64 y3)), (.val (.int IntKind.i64 y4)), (.ref 2), (.ref 3)])), (1, (.row true 2 (CTy.int IntKind.i64) y5)), (2, (.row false 178 (CTy.pair (CTy.int IntKind.i64) (CTy.pair CTy.str (CTy.int IntKind.i64))) y6)), (3, (.row false 150 (CTy.pair (CTy.int IntKind.i64) (CTy.int IntKind.i64)) y7))]

def kf1 : k6g → LT k6g
  | (y0, y1, y2, y3, y4, y5, y6, y7) => .ite (kbj y0 y7) (.need [(kgj y0), (kbj y0 y7), (kfu y0 y7)] (.ite (kgk y0 y2 y3 y4 y6 y7) (.ext 0 [(0, 0), (1, 1), (2, 2), (3, 3), (4, 896)]) (.need [(kgj y0), (kbj y0 y7), (kfu y0 y7), (kjk y0 y6 y7)] (.ite (kjy y0 y1 y6 y7) (.ext 1 [(0, 0), (1, 1), (2, 2), (3, 3), (4, 2368)]) (.need [(kjs y0 y1 y5 y6 y7), (kjt y0 y1 y5 y6 y7)] (.nrm ((kjm y0), (kjn y0 y1 y6 y7), y2, y3, y4, (ki6 y0 y1 y5 y6 y7), y6, y7) [(0, 0), (1, 2944), (2, 2), (3, 3)])))))) (.ext 2 [(0, 0), (1, 1), (2, 2), (3, 3)])

def kn6 (s : St) : Option k6g :=
  (match s.look 6 with
  | some ⟨none, (.one ⟨false, [(.val (.int IntKind.i64 y0))]⟩)⟩ =>
  (match s.look 1 with
  | some ⟨none, (.one ⟨false, [(.ptr 192 0)]⟩)⟩ =>
  (match s.look 5 with
  | some ⟨none, (.one ⟨false, [(.val (.int IntKind.i64 y1))]⟩)⟩ =>
  (match s.look 4 with
  | some ⟨none, (.one ⟨false, [(.ref 384)]⟩)⟩ =>
  (match s.ent 192 with
  | some (.box 34 [(.val (.int IntKind.i64 y2)), (.val (.int IntKind.i64 y3)), (.val (.int IntKind.i64 y4)), (.ref 0), (.ref 1)]) =>
  (match s.ent 0 with
  | some (.row false 178 (CTy.pair (CTy.int IntKind.i64) (CTy.pair CTy.str (CTy.int IntKind.i64))) y6) =>
  (match s.ent 1 with
  | some (.row false 150 (CTy.pair (CTy.int IntKind.i64) (CTy.int IntKind.i64)) y7) =>
  (match s.ent 384 with
  | some (.row true 2 (CTy.int IntKind.i64) y5) =>
  some (y0, y1, y2, y3, y4, y5, y6, y7)
  | _ => none)
  | _ => none)
  | _ => none)
  | _ => none)
  | _ => none)
  | _ => none)
  | _ => none)
  | _ => none)

def k2a : Lp k6g where
  h := ⟨[10, 11, 12, 13, 14, 17, 18, 19, 20, 21, 22, 23, 24, 2, 3, 26, 27, 28, 29, 30, 31, 32, 25, 33, 34, 7, 8, 35, 36, 37, 38, 39, 40, 41, 42, 43, 44, 45, 46, 47, 48, 49, 50, 5, 51, 52, 53, 54, 4, 15, 16, 6], [0, 2, 3], [1], [4]⟩
  JL := kx8
  JE := kx2
  XL := kx6
  XE := kww
  q := fun j => match j with | 0 => .ret | 1 => .ret | _ => .exit 0
  tags := [0, 1, 2]
  lt := kf1
  fuel := fun (y0, y1, y2, y3, y4, y5, y6, y7) => y0.natAbs + y1.natAbs + y2.natAbs + y3.natAbs + y4.natAbs + y5.length + y6.length + y7.length
  fix := fun (_, _, y2, y3, y4, _, y6, y7) (y0, y1, _, _, _, y5, _, _) => (y0, y1, y2, y3, y4, y5, y6, y7)
  σ := [(0, 192), (2, 0), (3, 1), (1, 384)]
  rd := kn6

theorem kvk : LoopOk Tryz.prog (fun k => Nat.blt k Tryz.f155.ntmps) k2a.F (loopAt Tryz.f155 0) := by
  refine Lp.ok (tbl := [ke7, PF.lend ke7, PF.fz ke7, kmk, PF.lend kmk, PF.fz kmk]) (lf := []) hmix k2a (by kernel_rfl) (LOk.nil _) (fun _ => rfl) (fun j _ => by unfold k2a; match j with | 0 => rfl | 1 => rfl | _ + 2 => rfl) ?_ ?_ ?_ ?_ (fun _ => rfl) ?_
  · intro x; obtain ⟨y0, y1, y2, y3, y4, y5, y6, y7⟩ := x; kernel_rfl
  · intro x; obtain ⟨y0, y1, y2, y3, y4, y5, y6, y7⟩ := x; kernel_rfl
  · intro s x h
    have h : kn6 s = some x := h
    unfold kn6 at h
    repeat' split at h
    all_goals cases h
    exact ⟨absS_cons (by assumption) rfl (absS_cons (by assumption) rfl (absS_cons (by assumption) rfl (absS_cons (by assumption) rfl (rfl)))), absE_cons rfl (by assumption) rfl (absE_cons rfl (by assumption) rfl (absE_cons rfl (by assumption) rfl (absE_cons rfl (by assumption) rfl (rfl))))⟩
  · intro x; obtain ⟨y0, y1, y2, y3, y4, y5, y6, y7⟩ := x; kernel_rfl
  · intro x z; obtain ⟨y0, y1, y2, y3, y4, y5, y6, y7⟩ := x; exact (And.intro (And.intro trivial (And.intro trivial rfl)) trivial)

def kiq (x0 : Int) (x1 : Int) (x2 : Int) (x3 : List (Int × ByteArray × Int)) (x4 : List (Int × Int)) : Int × Int × Int × Int × Int × List Int × List (Int × ByteArray × Int) × List (Int × Int) :=
  ((0 : Int), (0 : Int), x0, x1, x2, [], x3, x4)

def kox (x0 : Int) (x1 : Int) (x2 : Int) (x3 : List (Int × ByteArray × Int)) (x4 : List (Int × Int)) : Bool :=
  Nat.beq (Prod.fst (Lp.res k2a (kiq x0 x1 x2 x3 x4))) (0 : Nat)

def kp3 (x0 : Int) (x1 : Int) (x2 : Int) (x3 : List (Int × ByteArray × Int)) (x4 : List (Int × Int)) : Bool :=
  Nat.beq (Prod.fst (Lp.res k2a (kiq x0 x1 x2 x3 x4))) (1 : Nat)

def kp4 (x0 : Int) (x1 : Int) (x2 : Int) (x3 : List (Int × ByteArray × Int)) (x4 : List (Int × Int)) : Int × Int × Int × Int × List Int × List (Int × ByteArray × Int) × List (Int × Int) :=
  Prod.snd (Prod.snd (Lp.res k2a (kiq x0 x1 x2 x3 x4)))

def kng (x0 : Int) (x1 : Int) (x2 : Int) (x3 : List (Int × ByteArray × Int)) (x4 : List (Int × Int)) : Bool :=
  bif kox x0 x1 x2 x3 x4 then false
  else bif kp3 x0 x1 x2 x3 x4 then false else Prod.fst (kp4 x0 x1 x2 x3 x4) == (0 : Int)

def kqc (x0 : Int) (x1 : Int) (x2 : Int) (x3 : List (Int × ByteArray × Int)) (x4 : List (Int × Int)) : List Int :=
  bif kox x0 x1 x2 x3 x4 then []
  else bif kp3 x0 x1 x2 x3 x4 then [] else Prod.fst (Prod.snd (Prod.snd (Prod.snd (Prod.snd (kp4 x0 x1 x2 x3 x4)))))

def kno (x0 : Int) (x1 : Int) (x2 : Int) (x3 : List (Int × ByteArray × Int)) (x4 : List (Int × Int)) : Bool :=
  allT [Lp.fin k2a (kiq x0 x1 x2 x3 x4)]

def kvd : List SV → List Entry → Option Out
  | [.one ⟨true, [.val (.int .i64 x0), .val (.int .i64 x1), .val (.int .i64 x2), .ref 0, .ref 1]⟩], [.row false 178 (.pair (.int .i64) (.pair (.str) (.int .i64))) x3, .row false 150 (.pair (.int .i64) (.int .i64)) x4] => some ⟨(.tup [⟨false, [(.ref 2)]⟩, ⟨false, [(.val (.bool (kng x0 x1 x2 x3 x4)))]⟩]), [(.row false 178 (CTy.pair (CTy.int IntKind.i64) (CTy.pair CTy.str (CTy.int IntKind.i64))) x3), (.row false 150 (CTy.pair (CTy.int IntKind.i64) (CTy.int IntKind.i64)) x4)], [(.row true 2 (CTy.int IntKind.i64) (kqc x0 x1 x2 x3 x4))], [(kno x0 x1 x2 x3 x4)]⟩
  | _, _ => none

def kh3 : PF Tryz.prog := PF.ofG Tryz.prog [ke7, PF.lend ke7, PF.fz ke7, kmk, PF.lend kmk, PF.fz kmk] [k2a.F] hmix 155 Tryz.f155 Tryz.func155 (LOk.fnT (l := [loopAt Tryz.f155 0]) (by kernel_rfl) (.cons kvk (.nil _))) kvd (by
  intro vs es r h; unfold kvd at h; split at h
  · cases h; kernel_rfl
  · cases h)

abbrev kaz := Int × Int × Int × Int × List (Int × (ByteArray × Int)) × List (Int × Int)

def k9u (y0 : Int) (y4 : List (Int × (ByteArray × Int))) : Int × ByteArray × Int :=
  Option.getD y4[Int.toNat y0]? ((0 : Int), ByteArray.empty, (0 : Int))

def kif (y0 : Int) (y4 : List (Int × (ByteArray × Int))) : Bool :=
  ltI y0 (↑(List.length y4) : Int)

def kon (y0 : Int) : Bool :=
  leI (0 : Int) y0

def kod (y0 : Int) (y4 : List (Int × (ByteArray × Int))) : Bool :=
  ltN (Int.toNat y0) (List.length y4)

def koh (y0 : Int) (y4 : List (Int × (ByteArray × Int))) : Bool :=
  leN (ByteArray.size (Prod.fst (Prod.snd (k9u y0 y4)))) (9223372036854775807 : Nat)

def km5 (y0 : Int) (y4 : List (Int × (ByteArray × Int))) : Bool :=
  !blockB (Prod.fst (k9u y0 y4)) (Prod.fst (Prod.snd (k9u y0 y4))) (Prod.snd (Prod.snd (k9u y0 y4)))

def kop (y0 : Int) : Int :=
  IntKind.wrap IntKind.i64 (y0 + (1 : Int))

def k11f : kaz → List (Nat × SV)
  | (y0, _, _, _, _, _) => [(3, (.one ⟨false, [(.val (.int IntKind.i64 y0))]⟩)), (1, (.one ⟨false, [(.ptr 0 0)]⟩))]

def k11k : kaz → List (Nat × Entry)
  | (_, y1, y2, y3, y4, y5) => [(0, (.box 34 [(.val (.int IntKind.i64 y1)), (.val (.int IntKind.i64 y2)), (.val (.int IntKind.i64 y3)), (.ref 1), (.ref 2)])), (1, (.row false 178 (CTy.pair (CTy.int IntKind.i64) (CTy.pair CTy.str (CTy.int IntKind.i64))) y4)), (2, (.row false 150 (CTy.pair (CTy.int IntKind.i64) (CTy.int IntKind.i64)) y5))]

def k11s : Nat → kaz → List (Nat × SV)
  | 0, (_, _, _, _, _, _) => [(2, (.one ⟨false, [(.val (.bool false))]⟩))]
  | _, (_, _, _, _, _, _) => []

def k11i : Nat → kaz → List (Nat × Entry)
  | 0, (_, y1, y2, y3, y4, y5) => [(0, (.box 34 [(.val (.int IntKind.i64 y1)), (.val (.int IntKind.i64 y2)), (.val (.int IntKind.i64 y3)), (.ref 1), (.ref 2)])), (1, (.row false 178 (CTy.pair (CTy.int IntKind.i64) (CTy.pair CTy.str (CTy.int IntKind.i64))) y4)), (2, (.row false 150 (CTy.pair (CTy.int IntKind.i64) (CTy.int IntKind.i64)) y5))]
  | _, (_, y1, y2, y3, y4, y5) => [(0, (.box 34 [(.val (.int IntKind.i64 y1)), (.val (.int IntKind.i64 y2)), (.val (.int IntKind.i64 y3)), (.ref 1), (.ref 2)])), (1, (.row false 178 (CTy.pair (CTy.int IntKind.i64) (CTy.pair CTy.str (CTy.int IntKind.i64))) y4)), (2, (.row false 150 (CTy.pair (CTy.int IntKind.i64) (CTy.int IntKind.i64)) y5))]

def kkw : kaz → LT kaz
  | (y0, y1, y2, y3, y4, y5) => .ite (kif y0 y4) (.need [(kon y0), (kif y0 y4), (kod y0 y4), (koh y0 y4)] (.ite (km5 y0 y4) (.ext 0 [(0, 0), (1, 1), (2, 2)]) (.nrm ((kop y0), y1, y2, y3, y4, y5) [(0, 0), (1, 1), (2, 2)]))) (.ext 1 [(0, 0), (1, 1), (2, 2)])

def kqb (s : St) : Option kaz :=
  (match s.look 3 with
  | some ⟨none, (.one ⟨false, [(.val (.int IntKind.i64 y0))]⟩)⟩ =>
  (match s.look 1 with
  | some ⟨none, (.one ⟨false, [(.ptr 192 0)]⟩)⟩ =>
  (match s.ent 192 with
  | some (.box 34 [(.val (.int IntKind.i64 y1)), (.val (.int IntKind.i64 y2)), (.val (.int IntKind.i64 y3)), (.ref 0), (.ref 1)]) =>
  (match s.ent 0 with
  | some (.row false 178 (CTy.pair (CTy.int IntKind.i64) (CTy.pair CTy.str (CTy.int IntKind.i64))) y4) =>
  (match s.ent 1 with
  | some (.row false 150 (CTy.pair (CTy.int IntKind.i64) (CTy.int IntKind.i64)) y5) =>
  some (y0, y1, y2, y3, y4, y5)
  | _ => none)
  | _ => none)
  | _ => none)
  | _ => none)
  | _ => none)

def k5g : Lp kaz where
  h := ⟨[34, 35, 36, 37, 38, 41, 42, 43, 44, 45, 46, 47, 2, 39, 40, 3], [0, 1, 2], [], []⟩
  JL := k11f
  JE := k11k
  XL := k11s
  XE := k11i
  q := fun j => match j with | 0 => .ret | _ => .exit 0
  tags := [0, 1]
  lt := kkw
  fuel := fun (y0, y1, y2, y3, y4, y5) => y0.natAbs + y1.natAbs + y2.natAbs + y3.natAbs + y4.length + y5.length
  fix := fun (_, y1, y2, y3, y4, y5) (y0, _, _, _, _, _) => (y0, y1, y2, y3, y4, y5)
  σ := [(0, 192), (1, 0), (2, 1)]
  rd := kqb

theorem kzl : LoopOk Tryz.prog (fun k => Nat.blt k Tryz.f87.ntmps) k5g.F (loopAt Tryz.f87 0) := by
  refine Lp.ok (tbl := [ki1, kyp, kh3, PF.lend kh3, PF.fz kh3]) (lf := []) hmix k5g (by kernel_rfl) (LOk.nil _) (fun _ => rfl) (fun j _ => by unfold k5g; match j with | 0 => rfl | _ + 1 => rfl) ?_ ?_ ?_ ?_ (fun _ => rfl) ?_
  · intro x; obtain ⟨y0, y1, y2, y3, y4, y5⟩ := x; kernel_rfl
  · intro x; obtain ⟨y0, y1, y2, y3, y4, y5⟩ := x; kernel_rfl
  · intro s x h
    have h : kqb s = some x := h
    unfold kqb at h
    repeat' split at h
    all_goals cases h
    exact ⟨absS_cons (by assumption) rfl (absS_cons (by assumption) rfl (rfl)), absE_cons rfl (by assumption) rfl (absE_cons rfl (by assumption) rfl (absE_cons rfl (by assumption) rfl (rfl)))⟩
  · intro x; obtain ⟨y0, y1, y2, y3, y4, y5⟩ := x; kernel_rfl
  · intro x z; obtain ⟨y0, y1, y2, y3, y4, y5⟩ := x; exact (And.intro (And.intro trivial rfl) trivial)

def kjj (x0 : Int) (x1 : Int) (x2 : Int) (x3 : List (Int × ByteArray × Int)) (x4 : List (Int × Int)) : Bool :=
  bif
    bif
        bif bif !k1r x0 (0 : Int) (20 : Int) then true else !k1r x1 (0 : Int) (20 : Int) then true
        else !k1r x2 (0 : Int) (20 : Int) then
      true
    else ltI (2000 : Int) (↑(List.length x3) : Int) then
  true
  else ltI (2000 : Int) (↑(List.length x4) : Int)

def kuz (x0 : Int) (x1 : Int) (x2 : Int) (x3 : List (Int × ByteArray × Int)) (x4 : List (Int × Int)) : Int × Int × Int × Int × List (Int × ByteArray × Int) × List (Int × Int) :=
  ((0 : Int), x0, x1, x2, x3, x4)

def kuh (x0 : Int) (x1 : Int) (x2 : Int) (x3 : List (Int × ByteArray × Int)) (x4 : List (Int × Int)) : Bool :=
  Nat.beq (Prod.fst (Lp.res k5g (kuz x0 x1 x2 x3 x4))) (0 : Nat)

def kwk (x0 : Int) (x1 : Int) (x2 : Int) (x3 : List (Int × ByteArray × Int)) (x4 : List (Int × Int)) : Bool :=
  bif kjj x0 x1 x2 x3 x4 then false else bif kuh x0 x1 x2 x3 x4 then false else kng x0 x1 x2 x3 x4

def kvw (x0 : Int) (x1 : Int) (x2 : Int) (x3 : List (Int × ByteArray × Int)) (x4 : List (Int × Int)) : Bool :=
  allT
  [kjj x0 x1 x2 x3 x4 || Lp.fin k5g (kuz x0 x1 x2 x3 x4),
    kjj x0 x1 x2 x3 x4 || (kuh x0 x1 x2 x3 x4 || kno x0 x1 x2 x3 x4)]

def k118 : List SV → List Entry → Option Out
  | [.one ⟨true, [.val (.int .i64 x0), .val (.int .i64 x1), .val (.int .i64 x2), .ref 0, .ref 1]⟩], [.row false 178 (.pair (.int .i64) (.pair (.str) (.int .i64))) x3, .row false 150 (.pair (.int .i64) (.int .i64)) x4] => some ⟨(.one ⟨false, [(.val (.bool (kwk x0 x1 x2 x3 x4)))]⟩), [(.row false 178 (CTy.pair (CTy.int IntKind.i64) (CTy.pair CTy.str (CTy.int IntKind.i64))) x3), (.row false 150 (CTy.pair (CTy.int IntKind.i64) (CTy.int IntKind.i64)) x4)], [], [(kvw x0 x1 x2 x3 x4)]⟩
  | _, _ => none

def k13m : PF Tryz.prog := PF.ofG Tryz.prog [ki1, kyp, kh3, PF.lend kh3, PF.fz kh3] [k5g.F] hmix 87 Tryz.f87 Tryz.func87 (LOk.fnT (l := [loopAt Tryz.f87 0]) (by kernel_rfl) (.cons kzl (.nil _))) k118 (by
  intro vs es r h; unfold k118 at h; split at h
  · cases h; kernel_rfl
  · cases h)

abbrev k9s := Int × List (Int × (ByteArray × Int)) × List (Int × (ByteArray × Int))

def kdw (y0 : Int) (y1 : List (Int × (ByteArray × Int))) : Int × ByteArray × Int :=
  Option.getD y1[Int.toNat y0]? ((0 : Int), ByteArray.empty, (0 : Int))

def kgz (y0 : Int) (y1 : List (Int × (ByteArray × Int))) : Bool :=
  ltI y0 (↑(List.length y1) : Int)

def kh5 (y0 : Int) : Bool :=
  leI (0 : Int) y0

def kkm (y0 : Int) (y1 : List (Int × (ByteArray × Int))) : Bool :=
  ltN (Int.toNat y0) (List.length y1)

def kkq (y0 : Int) (y2 : List (Int × (ByteArray × Int))) : Bool :=
  ltI y0 (↑(List.length y2) : Int)

def kk6 (y0 : Int) (y2 : List (Int × (ByteArray × Int))) : Bool :=
  ltN (Int.toNat y0) (List.length y2)

def kkp (y0 : Int) : Int :=
  IntKind.wrap IntKind.i64 (y0 + (1 : Int))

def kks (y0 : Int) (y1 : List (Int × (ByteArray × Int))) (y2 : List (Int × (ByteArray × Int))) : List (Int × (ByteArray × Int)) :=
  List.set y2 (Int.toNat y0)
  (Prod.fst (kdw y0 y1), Prod.fst (Prod.snd (kdw y0 y1)), Prod.snd (Prod.snd (kdw y0 y1)))

def k108 : k9s → List (Nat × SV)
  | (y0, _, _) => [(4, (.one ⟨false, [(.val (.int IntKind.i64 y0))]⟩)), (0, (.one ⟨false, [(.ref 0)]⟩)), (3, (.one ⟨false, [(.ref 1)]⟩))]

def k10m : k9s → List (Nat × Entry)
  | (_, y1, y2) => [(0, (.row false 175 (CTy.pair (CTy.int IntKind.i64) (CTy.pair CTy.str (CTy.int IntKind.i64))) y1)), (1, (.row true 178 (CTy.pair (CTy.int IntKind.i64) (CTy.pair CTy.str (CTy.int IntKind.i64))) y2))]

def k105 : Nat → k9s → List (Nat × SV)
  | _, (_, _, _) => []

def k10k : Nat → k9s → List (Nat × Entry)
  | _, (_, y1, y2) => [(0, (.row false 175 (CTy.pair (CTy.int IntKind.i64) (CTy.pair CTy.str (CTy.int IntKind.i64))) y1)), (1, (.row true 178 (CTy.pair (CTy.int IntKind.i64) (CTy.pair CTy.str (CTy.int IntKind.i64))) y2))]

def kj0 : k9s → LT k9s
  | (y0, y1, y2) => .ite (kgz y0 y1) (.need [(kh5 y0), (kgz y0 y1), (kkm y0 y1), (kh5 y0), (kkq y0 y2), (kk6 y0 y2)] (.nrm ((kkp y0), y1, (kks y0 y1 y2)) [(0, 0), (1, 1)])) (.ext 0 [(0, 0), (1, 1)])

def kp6 (s : St) : Option k9s :=
  (match s.look 4 with
  | some ⟨none, (.one ⟨false, [(.val (.int IntKind.i64 y0))]⟩)⟩ =>
  (match s.look 0 with
  | some ⟨none, (.one ⟨false, [(.ref 0)]⟩)⟩ =>
  (match s.look 3 with
  | some ⟨none, (.one ⟨false, [(.ref 320)]⟩)⟩ =>
  (match s.ent 0 with
  | some (.row false 175 (CTy.pair (CTy.int IntKind.i64) (CTy.pair CTy.str (CTy.int IntKind.i64))) y1) =>
  (match s.ent 320 with
  | some (.row true 178 (CTy.pair (CTy.int IntKind.i64) (CTy.pair CTy.str (CTy.int IntKind.i64))) y2) =>
  some (y0, y1, y2)
  | _ => none)
  | _ => none)
  | _ => none)
  | _ => none)
  | _ => none)

def k55 : Lp k9s where
  h := ⟨[8, 9, 10, 11, 14, 15, 16, 17, 18, 19, 20, 21, 12, 13, 4], [0, 1], [], []⟩
  JL := k108
  JE := k10m
  XL := k105
  XE := k10k
  q := fun j => match j with | _ => .exit 0
  tags := [0]
  lt := kj0
  fuel := fun (y0, y1, y2) => y0.natAbs + y1.length + y2.length
  fix := fun (_, y1, _) (y0, _, y2) => (y0, y1, y2)
  σ := [(0, 0), (1, 320)]
  rd := kp6

theorem kyh : LoopOk Tryz.prog (fun k => Nat.blt k Tryz.f90.ntmps) k55.F (loopAt Tryz.f90 0) := by
  refine Lp.ok (tbl := [k10p]) (lf := []) hmix k55 (by kernel_rfl) (LOk.nil _) (fun _ => rfl) (fun _ _ => rfl) ?_ ?_ ?_ ?_ (fun _ => rfl) ?_
  · intro x; obtain ⟨y0, y1, y2⟩ := x; kernel_rfl
  · intro x; obtain ⟨y0, y1, y2⟩ := x; kernel_rfl
  · intro s x h
    have h : kp6 s = some x := h
    unfold kp6 at h
    repeat' split at h
    all_goals cases h
    exact ⟨absS_cons (by assumption) rfl (absS_cons (by assumption) rfl (absS_cons (by assumption) rfl (rfl))), absE_cons rfl (by assumption) rfl (absE_cons rfl (by assumption) rfl (rfl))⟩
  · intro x; obtain ⟨y0, y1, y2⟩ := x; kernel_rfl
  · intro x z; obtain ⟨y0, y1, y2⟩ := x; exact (And.intro rfl trivial)

def kpq (x0 : List (Int × ByteArray × Int)) : Int × List (Int × ByteArray × Int) × List (Int × ByteArray × Int) :=
  ((0 : Int), x0, List.replicate (Int.toNat (↑(List.length x0) : Int)) ((0 : Int), { data := #[] }, (0 : Int)))

def kr2 (x0 : List (Int × ByteArray × Int)) : List (Int × (ByteArray × Int)) :=
  Prod.snd (Prod.snd (Prod.snd (Lp.res k55 (kpq x0))))

def kqr (x0 : List (Int × ByteArray × Int)) : Bool :=
  allT
  [leI (0 : Int) (↑(List.length x0) : Int), leI (↑(List.length x0) : Int) (↑(List.length x0) : Int),
    leI ((↑(32 : Nat) : Int) * (↑(List.length x0) : Int)) (281474976710656 : Int), leI (↑(List.length x0) : Int) (9223372036854775807 : Int),
    Lp.fin k55 (kpq x0)]

def kz1 : List SV → List Entry → Option Out
  | [.one ⟨false, [.ref 0]⟩], [.row false 175 (.pair (.int .i64) (.pair (.str) (.int .i64))) x0] => some ⟨(.one ⟨false, [(.ref 1)]⟩), [(.row false 175 (CTy.pair (CTy.int IntKind.i64) (CTy.pair CTy.str (CTy.int IntKind.i64))) x0)], [(.row true 178 (CTy.pair (CTy.int IntKind.i64) (CTy.pair CTy.str (CTy.int IntKind.i64))) (kr2 x0))], [(kqr x0)]⟩
  | _, _ => none

def k135 : PF Tryz.prog := PF.ofG Tryz.prog [k10p] [k55.F] hmix 90 Tryz.f90 Tryz.func90 (LOk.fnT (l := [loopAt Tryz.f90 0]) (by kernel_rfl) (.cons kyh (.nil _))) kz1 (by
  intro vs es r h; unfold kz1 at h; split at h
  · cases h; kernel_rfl
  · cases h)

def kr4 : List SV → List Entry → Option Out
  | [.one ⟨true, [.val (.int .i64 x0), .val (.int .i64 x1)]⟩], [] => some ⟨(.one ⟨true, [(.val (.int IntKind.i64 x0)), (.val (.int IntKind.i64 x1))]⟩), [], [], []⟩
  | _, _ => none

def krf : PF Tryz.prog := PF.ofG Tryz.prog [] [] hmix 157 Tryz.f157 Tryz.func157 (fun c _ => LOk.nil c) kr4 (by
  intro vs es r h; unfold kr4 at h; split at h
  · cases h; kernel_rfl
  · cases h)

abbrev k3n := Int × List (Int × Int) × List (Int × Int)

def k95 (y0 : Int) (y1 : List (Int × Int)) : Int × Int :=
  Option.getD y1[Int.toNat y0]? ((0 : Int), (0 : Int))

def k9w (y0 : Int) (y1 : List (Int × Int)) : Bool :=
  ltI y0 (↑(List.length y1) : Int)

def ka0 (y0 : Int) : Bool :=
  leI (0 : Int) y0

def kce (y0 : Int) (y1 : List (Int × Int)) : Bool :=
  ltN (Int.toNat y0) (List.length y1)

def kcc (y0 : Int) (y2 : List (Int × Int)) : Bool :=
  ltI y0 (↑(List.length y2) : Int)

def kcl (y0 : Int) (y2 : List (Int × Int)) : Bool :=
  ltN (Int.toNat y0) (List.length y2)

def kcb (y0 : Int) : Int :=
  IntKind.wrap IntKind.i64 (y0 + (1 : Int))

def kcs (y0 : Int) (y1 : List (Int × Int)) (y2 : List (Int × Int)) : List (Int × Int) :=
  List.set y2 (Int.toNat y0) (Prod.fst (k95 y0 y1), Prod.snd (k95 y0 y1))

def kto : k3n → List (Nat × SV)
  | (y0, _, _) => [(4, (.one ⟨false, [(.val (.int IntKind.i64 y0))]⟩)), (0, (.one ⟨false, [(.ref 0)]⟩)), (3, (.one ⟨false, [(.ref 1)]⟩))]

def kti : k3n → List (Nat × Entry)
  | (_, y1, y2) => [(0, (.row false 183 (CTy.pair (CTy.int IntKind.i64) (CTy.int IntKind.i64)) y1)), (1, (.row true 150 (CTy.pair (CTy.int IntKind.i64) (CTy.int IntKind.i64)) y2))]

def ktt : Nat → k3n → List (Nat × SV)
  | _, (_, _, _) => []

def ktr : Nat → k3n → List (Nat × Entry)
  | _, (_, y1, y2) => [(0, (.row false 183 (CTy.pair (CTy.int IntKind.i64) (CTy.int IntKind.i64)) y1)), (1, (.row true 150 (CTy.pair (CTy.int IntKind.i64) (CTy.int IntKind.i64)) y2))]

def kbw : k3n → LT k3n
  | (y0, y1, y2) => .ite (k9w y0 y1) (.need [(ka0 y0), (k9w y0 y1), (kce y0 y1), (ka0 y0), (kcc y0 y2), (kcl y0 y2)] (.nrm ((kcb y0), y1, (kcs y0 y1 y2)) [(0, 0), (1, 1)])) (.ext 0 [(0, 0), (1, 1)])

def kih (s : St) : Option k3n :=
  (match s.look 4 with
  | some ⟨none, (.one ⟨false, [(.val (.int IntKind.i64 y0))]⟩)⟩ =>
  (match s.look 0 with
  | some ⟨none, (.one ⟨false, [(.ref 0)]⟩)⟩ =>
  (match s.look 3 with
  | some ⟨none, (.one ⟨false, [(.ref 320)]⟩)⟩ =>
  (match s.ent 0 with
  | some (.row false 183 (CTy.pair (CTy.int IntKind.i64) (CTy.int IntKind.i64)) y1) =>
  (match s.ent 320 with
  | some (.row true 150 (CTy.pair (CTy.int IntKind.i64) (CTy.int IntKind.i64)) y2) =>
  some (y0, y1, y2)
  | _ => none)
  | _ => none)
  | _ => none)
  | _ => none)
  | _ => none)

def k29 : Lp k3n where
  h := ⟨[8, 9, 10, 11, 14, 15, 16, 17, 18, 19, 20, 21, 12, 13, 4], [0, 1], [], []⟩
  JL := kto
  JE := kti
  XL := ktt
  XE := ktr
  q := fun j => match j with | _ => .exit 0
  tags := [0]
  lt := kbw
  fuel := fun (y0, y1, y2) => y0.natAbs + y1.length + y2.length
  fix := fun (_, y1, _) (y0, _, y2) => (y0, y1, y2)
  σ := [(0, 0), (1, 320)]
  rd := kih

theorem krz : LoopOk Tryz.prog (fun k => Nat.blt k Tryz.f91.ntmps) k29.F (loopAt Tryz.f91 0) := by
  refine Lp.ok (tbl := [krf]) (lf := []) hmix k29 (by kernel_rfl) (LOk.nil _) (fun _ => rfl) (fun _ _ => rfl) ?_ ?_ ?_ ?_ (fun _ => rfl) ?_
  · intro x; obtain ⟨y0, y1, y2⟩ := x; kernel_rfl
  · intro x; obtain ⟨y0, y1, y2⟩ := x; kernel_rfl
  · intro s x h
    have h : kih s = some x := h
    unfold kih at h
    repeat' split at h
    all_goals cases h
    exact ⟨absS_cons (by assumption) rfl (absS_cons (by assumption) rfl (absS_cons (by assumption) rfl (rfl))), absE_cons rfl (by assumption) rfl (absE_cons rfl (by assumption) rfl (rfl))⟩
  · intro x; obtain ⟨y0, y1, y2⟩ := x; kernel_rfl
  · intro x z; obtain ⟨y0, y1, y2⟩ := x; exact (And.intro rfl trivial)

def khk (x0 : List (Int × Int)) : Int × List (Int × Int) × List (Int × Int) :=
  ((0 : Int), x0, List.replicate (Int.toNat (↑(List.length x0) : Int)) ((0 : Int), (0 : Int)))

def kic (x0 : List (Int × Int)) : List (Int × Int) :=
  Prod.snd (Prod.snd (Prod.snd (Lp.res k29 (khk x0))))

def ki7 (x0 : List (Int × Int)) : Bool :=
  allT
  [leI (0 : Int) (↑(List.length x0) : Int), leI (↑(List.length x0) : Int) (↑(List.length x0) : Int),
    leI ((↑(16 : Nat) : Int) * (↑(List.length x0) : Int)) (281474976710656 : Int), leI (↑(List.length x0) : Int) (9223372036854775807 : Int),
    Lp.fin k29 (khk x0)]

def kqk : List SV → List Entry → Option Out
  | [.one ⟨false, [.ref 0]⟩], [.row false 183 (.pair (.int .i64) (.int .i64)) x0] => some ⟨(.one ⟨false, [(.ref 1)]⟩), [(.row false 183 (CTy.pair (CTy.int IntKind.i64) (CTy.int IntKind.i64)) x0)], [(.row true 150 (CTy.pair (CTy.int IntKind.i64) (CTy.int IntKind.i64)) (kic x0))], [(ki7 x0)]⟩
  | _, _ => none

def kwr : PF Tryz.prog := PF.ofG Tryz.prog [krf] [k29.F] hmix 91 Tryz.f91 Tryz.func91 (LOk.fnT (l := [loopAt Tryz.f91 0]) (by kernel_rfl) (.cons krz (.nil _))) kqk (by
  intro vs es r h; unfold kqk at h; split at h
  · cases h; kernel_rfl
  · cases h)

def k12i (x0 : Int) (x1 : ByteArray) (x2 : Int) : Bool :=
  !blockB x0 x1 x2

def kxu : List SV → List Entry → Option Out
  | [.one ⟨true, [.val (.int .i64 x0), .val (.string x1), .val (.int .i64 x2)]⟩], [] => some ⟨(.one ⟨false, [(.val (.bool (k12i x0 x1 x2)))]⟩), [], [], []⟩
  | _, _ => none

def k12d : PF Tryz.prog := PF.ofG Tryz.prog [kz9] [] hmix 160 Tryz.f160 Tryz.func160 (fun c _ => LOk.nil c) kxu (by
  intro vs es r h; unfold kxu at h; split at h
  · cases h; kernel_rfl
  · cases h)

def kw1 (x0 : Int) : Int :=
  bif bif x0 == (1 : Int) then x0 == (1 : Int) else bif x0 == (2 : Int) then x0 == (2 : Int) else x0 == (3 : Int) then (0 : Int)
  else
  bif
      bif x0 == (4 : Int) then x0 == (4 : Int)
      else bif x0 == (7 : Int) then x0 == (7 : Int) else bif x0 == (8 : Int) then x0 == (8 : Int) else x0 == (9 : Int) then
    (1 : Int)
  else (2 : Int)

def kw2 : List SV → List Entry → Option Out
  | [.one ⟨false, [.val (.int .i64 x0)]⟩], [] => some ⟨(.one ⟨false, [(.val (.int IntKind.i64 (kw1 x0)))]⟩), [], [], []⟩
  | _, _ => none

def k124 : PF Tryz.prog := PF.ofG Tryz.prog [] [] hmix 222 Tryz.f222 Tryz.func222 (fun c _ => LOk.nil c) kw2 (by
  intro vs es r h; unfold kw2 at h; split at h
  · cases h; kernel_rfl
  · cases h)

def k44 (x3 : Int) : Bool :=
  bif x3 == (1 : Int) then x3 == (1 : Int) else bif x3 == (2 : Int) then x3 == (2 : Int) else x3 == (3 : Int)

def k3x (x3 : Int) : Bool :=
  bif x3 == (5 : Int) then x3 == (5 : Int) else x3 == (6 : Int)

def keq (x3 : Int) : Bool :=
  bif x3 == (8 : Int) then x3 == (8 : Int) else x3 == (9 : Int)

def k18 (x3 : Int) (x4 : Int) (x5 : List (Int × ByteArray × Int)) : Int :=
  bif k44 x3 then (0 : Int)
  else
  bif x3 == (4 : Int) then (1 : Int)
  else
    bif k3x x3 then (2 : Int)
    else
      bif x3 == (7 : Int) then kw1 (Prod.fst (Option.getD x5[Int.toNat x4]? ((0 : Int), ByteArray.empty, (0 : Int))))
      else bif keq x3 then (1 : Int) else (0 : Int)

def k1n (x3 : Int) : Int :=
  bif k44 x3 then (1 : Int)
  else
  bif x3 == (4 : Int) then (1 : Int)
  else
    bif k3x x3 then (1 : Int)
    else bif x3 == (7 : Int) then (1 : Int) else bif keq x3 then (0 : Int) else (0 : Int)

def k4h (x3 : Int) (x4 : Int) (x5 : List (Int × ByteArray × Int)) : Bool :=
  allT
  [k44 x3 ||
      (x3 == (4 : Int) || (k3x x3 || (!x3 == (7 : Int) || leI (0 : Int) x4))),
    k44 x3 ||
      (x3 == (4 : Int) || (k3x x3 || (!x3 == (7 : Int) || ltI x4 (↑(List.length x5) : Int)))),
    k44 x3 ||
      (x3 == (4 : Int) || (k3x x3 || (!x3 == (7 : Int) || ltN (Int.toNat x4) (List.length x5))))]

def kf3 : List SV → List Entry → Option Out
  | [.one ⟨true, [.val (.int .i64 _x0), .val (.int .i64 _x1), .val (.int .i64 _x2), .ref 0, .ref 1]⟩, .one ⟨true, [.val (.int .i64 x3), .val (.int .i64 x4)]⟩], [.row false 178 (.pair (.int .i64) (.pair (.str) (.int .i64))) x5, .row false 150 (.pair (.int .i64) (.int .i64)) x6] => some ⟨(.tup [⟨false, [(.val (.int IntKind.i64 (k18 x3 x4 x5)))]⟩, ⟨false, [(.val (.int IntKind.i64 (k1n x3)))]⟩]), [(.row false 178 (CTy.pair (CTy.int IntKind.i64) (CTy.pair CTy.str (CTy.int IntKind.i64))) x5), (.row false 150 (CTy.pair (CTy.int IntKind.i64) (CTy.int IntKind.i64)) x6)], [], [(k4h x3 x4 x5)]⟩
  | _, _ => none

def k24 : PF Tryz.prog := PF.ofG Tryz.prog [k124] [] hmix 196 Tryz.f196 Tryz.func196 (fun c _ => LOk.nil c) kf3 (by
  intro vs es r h; unfold kf3 at h; split at h
  · cases h; kernel_rfl
  · cases h)

def klj (x0 : List (Int × ByteArray × Int)) : Int :=
  (↑(List.length x0) : Int)

def kov : List SV → List Entry → Option Out
  | [.one ⟨false, [.ref 0]⟩], [.row false 178 (.pair (.int .i64) (.pair (.str) (.int .i64))) x0] => some ⟨(.one ⟨false, [(.val (.int IntKind.i64 (klj x0)))]⟩), [(.row false 178 (CTy.pair (CTy.int IntKind.i64) (CTy.pair CTy.str (CTy.int IntKind.i64))) x0)], [], []⟩
  | _, _ => none

def kll : PF Tryz.prog := PF.ofG Tryz.prog [] [] hmix 254 Tryz.f254 Tryz.func254 (fun c _ => LOk.nil c) kov (by
  intro vs es r h; unfold kov at h; split at h
  · cases h; kernel_rfl
  · cases h)

def k3f (x0 : Int) (x1 : Int) (x2 : Int) (x3 : Int) (x4 : List (Int × ByteArray × Int)) : Int :=
  bif x3 == (1 : Int) then (2 : Int)
  else
  bif bif x3 == (2 : Int) then x3 == (2 : Int) else x3 == (10 : Int) then x0
  else
    bif bif x3 == (3 : Int) then x3 == (3 : Int) else bif x3 == (8 : Int) then x3 == (8 : Int) else x3 == (11 : Int) then x1
    else
      bif bif x3 == (4 : Int) then x3 == (4 : Int) else bif x3 == (5 : Int) then x3 == (5 : Int) else x3 == (6 : Int) then (1 : Int)
      else bif x3 == (7 : Int) then klj x4 else bif x3 == (9 : Int) then x2 else (0 : Int)

def kft : List SV → List Entry → Option Out
  | [.one ⟨true, [.val (.int .i64 x0), .val (.int .i64 x1), .val (.int .i64 x2), .ref 0, .ref 1]⟩, .one ⟨false, [.val (.int .i64 x3)]⟩], [.row false 178 (.pair (.int .i64) (.pair (.str) (.int .i64))) x4, .row false 150 (.pair (.int .i64) (.int .i64)) x5] => some ⟨(.one ⟨false, [(.val (.int IntKind.i64 (k3f x0 x1 x2 x3 x4)))]⟩), [(.row false 178 (CTy.pair (CTy.int IntKind.i64) (CTy.pair CTy.str (CTy.int IntKind.i64))) x4), (.row false 150 (CTy.pair (CTy.int IntKind.i64) (CTy.int IntKind.i64)) x5)], [], []⟩
  | _, _ => none

def k3i : PF Tryz.prog := PF.ofG Tryz.prog [kll, PF.lend kll, PF.fz kll] [] hmix 216 Tryz.f216 Tryz.func216 (fun c _ => LOk.nil c) kft (by
  intro vs es r h; unfold kft at h; split at h
  · cases h; kernel_rfl
  · cases h)

abbrev k1g := Int × Int × Int × List (Int × Int) × Int × Int × Int × List Int × List (Int × (ByteArray × Int))

def ku (y0 : Int) (y3 : List (Int × Int)) : Int × Int :=
  Option.getD y3[Int.toNat y0]? ((0 : Int), (0 : Int))

def k2z (y0 : Int) (y3 : List (Int × Int)) (y8 : List (Int × (ByteArray × Int))) : Int :=
  k18 (Prod.fst (ku y0 y3))
  (Prod.snd (ku y0 y3)) y8

def k1t (y0 : Int) (y2 : Int) (y3 : List (Int × Int)) (y8 : List (Int × (ByteArray × Int))) : Int :=
  IntKind.wrap IntKind.i64
  (y2 +
    IntKind.wrap IntKind.i64
      (k1n (Prod.fst (ku y0 y3)) -
        k2z y0 y3 y8))

def k36 (y0 : Int) (y1 : Int) : Bool :=
  ltI y0 y1

def k5o (y0 : Int) : Bool :=
  leI (0 : Int) y0

def k5l (y0 : Int) (y3 : List (Int × Int)) : Bool :=
  ltI y0 (↑(List.length y3) : Int)

def k5j (y0 : Int) (y3 : List (Int × Int)) : Bool :=
  ltN (Int.toNat y0) (List.length y3)

def k3b (y0 : Int) (y3 : List (Int × Int)) (y4 : Int) (y5 : Int) (y6 : Int) (y8 : List (Int × (ByteArray × Int))) : Bool :=
  bif ltI (Prod.snd (ku y0 y3)) (0 : Int) then true
  else
  leI (k3f y4 y5 y6 (Prod.fst (ku y0 y3)) y8)
    (Prod.snd (ku y0 y3))

def k5k (y0 : Int) (y3 : List (Int × Int)) (y8 : List (Int × (ByteArray × Int))) : Bool :=
  k4h (Prod.fst (ku y0 y3))
  (Prod.snd (ku y0 y3)) y8

def k5n (y0 : Int) (y2 : Int) (y3 : List (Int × Int)) (y8 : List (Int × (ByteArray × Int))) : Bool :=
  ltI y2 (k2z y0 y3 y8)

def k5q (y0 : Int) (y2 : Int) (y3 : List (Int × Int)) (y8 : List (Int × (ByteArray × Int))) : Bool :=
  ltI (40 : Int) (k1t y0 y2 y3 y8)

def k5p (y0 : Int) (y2 : Int) (y3 : List (Int × Int)) (y7 : List Int) (y8 : List (Int × (ByteArray × Int))) : Bool :=
  leN (List.length y7 + List.length [k1t y0 y2 y3 y8]) (9223372036854775807 : Nat)

def k5m (y0 : Int) (y2 : Int) (y3 : List (Int × Int)) (y7 : List Int) (y8 : List (Int × (ByteArray × Int))) : Bool :=
  leN ((List.length y7 + List.length [k1t y0 y2 y3 y8]) * (8 : Nat)) (140737488355328 : Nat)

def k56 (y0 : Int) : Int :=
  IntKind.wrap IntKind.i64 (y0 + (1 : Int))

def k59 (y0 : Int) (y2 : Int) (y3 : List (Int × Int)) (y8 : List (Int × (ByteArray × Int))) : Int :=
  k1t y0 y2 y3 y8

def k5b (y0 : Int) (y2 : Int) (y3 : List (Int × Int)) (y7 : List Int) (y8 : List (Int × (ByteArray × Int))) : List Int :=
  y7 ++ [k1t y0 y2 y3 y8]

def kkf : k1g → List (Nat × SV)
  | (y0, y1, y2, _, _, _, _, _, _) => [(13, (.one ⟨false, [(.val (.int IntKind.i64 y0))]⟩)), (12, (.one ⟨false, [(.val (.int IntKind.i64 y1))]⟩)), (11, (.one ⟨false, [(.ref 0)]⟩)), (1, (.one ⟨false, [(.ptr 1 0)]⟩)), (5, (.one ⟨false, [(.val (.int IntKind.i64 y2))]⟩)), (4, (.one ⟨false, [(.ref 2)]⟩))]

def kk3 : k1g → List (Nat × Entry)
  | (_, _, _, y3, y4, y5, y6, y7, y8) => [(0, (.row false 150 (CTy.pair (CTy.int IntKind.i64) (CTy.int IntKind.i64)) y3)), (1, (.box 34 [(.val (.int IntKind.i64 y4)), (.val (.int IntKind.i64 y5)), (.val (.int IntKind.i64 y6)), (.ref 3), (.ref 0)])), (3, (.row false 178 (CTy.pair (CTy.int IntKind.i64) (CTy.pair CTy.str (CTy.int IntKind.i64))) y8)), (2, (.row true 2 (CTy.int IntKind.i64) y7))]

def kky : Nat → k1g → List (Nat × SV)
  | 0, (_, _, _, _, _, _, _, _, _) => [(2, (.one ⟨false, [(.ref 4)]⟩)), (3, (.one ⟨false, [(.val (.bool false))]⟩))]
  | 1, (_, _, _, _, _, _, _, _, _) => [(2, (.one ⟨false, [(.ref 4)]⟩)), (3, (.one ⟨false, [(.val (.bool false))]⟩))]
  | 2, (_, _, _, _, _, _, _, _, _) => [(2, (.one ⟨false, [(.ref 4)]⟩)), (3, (.one ⟨false, [(.val (.bool false))]⟩))]
  | _, (_, _, y2, _, _, _, _, _, _) => [(5, (.one ⟨false, [(.val (.int IntKind.i64 y2))]⟩)), (4, (.one ⟨false, [(.ref 2)]⟩))]

def kkx : Nat → k1g → List (Nat × Entry)
  | 0, (_, _, _, y3, y4, y5, y6, y7, y8) => [(0, (.row false 150 (CTy.pair (CTy.int IntKind.i64) (CTy.int IntKind.i64)) y3)), (1, (.box 34 [(.val (.int IntKind.i64 y4)), (.val (.int IntKind.i64 y5)), (.val (.int IntKind.i64 y6)), (.ref 3), (.ref 0)])), (2, (.row true 2 (CTy.int IntKind.i64) y7)), (3, (.row false 178 (CTy.pair (CTy.int IntKind.i64) (CTy.pair CTy.str (CTy.int IntKind.i64))) y8)), (4, (.row true 2 (CTy.int IntKind.i64) []))]
  | 1, (_, _, _, y3, y4, y5, y6, y7, y8) => [(0, (.row false 150 (CTy.pair (CTy.int IntKind.i64) (CTy.int IntKind.i64)) y3)), (1, (.box 34 [(.val (.int IntKind.i64 y4)), (.val (.int IntKind.i64 y5)), (.val (.int IntKind.i64 y6)), (.ref 3), (.ref 0)])), (2, (.row true 2 (CTy.int IntKind.i64) y7)), (3, (.row false 178 (CTy.pair (CTy.int IntKind.i64) (CTy.pair CTy.str (CTy.int IntKind.i64))) y8)), (4, (.row true 2 (CTy.int IntKind.i64) []))]
  | 2, (_, _, _, y3, y4, y5, y6, y7, y8) => [(0, (.row false 150 (CTy.pair (CTy.int IntKind.i64) (CTy.int IntKind.i64)) y3)), (1, (.box 34 [(.val (.int IntKind.i64 y4)), (.val (.int IntKind.i64 y5)), (.val (.int IntKind.i64 y6)), (.ref 3), (.ref 0)])), (2, (.row true 2 (CTy.int IntKind.i64) y7)), (3, (.row false 178 (CTy.pair (CTy.int IntKind.i64) (CTy.pair CTy.str (CTy.int IntKind.i64))) y8)), (4, (.row true 2 (CTy.int IntKind.i64) []))]
  | _, (_, _, _, y3, y4, y5, y6, y7, y8) => [(0, (.row false 150 (CTy.pair (CTy.int IntKind.i64) (CTy.int IntKind.i64)) y3)), (1, (.box 34 [(.val (.int IntKind.i64 y4)), (.val (.int IntKind.i64 y5)), (.val (.int IntKind.i64 y6)), (.ref 3), (.ref 0)])), (2, (.row true 2 (CTy.int IntKind.i64) y7)), (3, (.row false 178 (CTy.pair (CTy.int IntKind.i64) (CTy.pair CTy.str (CTy.int IntKind.i64))) y8))]

def k2y : k1g → LT k1g
  | (y0, y1, y2, y3, y4, y5, y6, y7, y8) => .ite (k36 y0 y1) (.need [(k5o y0), (k5l y0 y3), (k5j y0 y3)] (.ite (k3b y0 y3 y4 y5 y6 y8) (.ext 0 [(0, 0), (1, 1), (2, 2), (3, 3), (4, 1152)]) (.need [(k5k y0 y3 y8)] (.ite (k5n y0 y2 y3 y8) (.ext 1 [(0, 0), (1, 1), (2, 2), (3, 3), (4, 1856)]) (.ite (k5q y0 y2 y3 y8) (.ext 2 [(0, 0), (1, 1), (2, 2), (3, 3), (4, 2368)]) (.need [(k5p y0 y2 y3 y7 y8), (k5m y0 y2 y3 y7 y8)] (.nrm ((k56 y0), y1, (k59 y0 y2 y3 y8), y3, y4, y5, y6, (k5b y0 y2 y3 y7 y8), y8) [(0, 0), (1, 1), (2, 2560), (3, 3)]))))))) (.ext 3 [(0, 0), (1, 1), (2, 2), (3, 3)])

def k85 (s : St) : Option k1g :=
  (match s.look 13 with
  | some ⟨none, (.one ⟨false, [(.val (.int IntKind.i64 y0))]⟩)⟩ =>
  (match s.look 12 with
  | some ⟨none, (.one ⟨false, [(.val (.int IntKind.i64 y1))]⟩)⟩ =>
  (match s.look 11 with
  | some ⟨none, (.one ⟨false, [(.ref 1)]⟩)⟩ =>
  (match s.look 1 with
  | some ⟨none, (.one ⟨false, [(.ptr 192 0)]⟩)⟩ =>
  (match s.look 5 with
  | some ⟨none, (.one ⟨false, [(.val (.int IntKind.i64 y2))]⟩)⟩ =>
  (match s.look 4 with
  | some ⟨none, (.one ⟨false, [(.ref 384)]⟩)⟩ =>
  (match s.ent 1 with
  | some (.row false 150 (CTy.pair (CTy.int IntKind.i64) (CTy.int IntKind.i64)) y3) =>
  (match s.ent 192 with
  | some (.box 34 [(.val (.int IntKind.i64 y4)), (.val (.int IntKind.i64 y5)), (.val (.int IntKind.i64 y6)), (.ref 0), (.ref 1)]) =>
  (match s.ent 0 with
  | some (.row false 178 (CTy.pair (CTy.int IntKind.i64) (CTy.pair CTy.str (CTy.int IntKind.i64))) y8) =>
  (match s.ent 384 with
  | some (.row true 2 (CTy.int IntKind.i64) y7) =>
  some (y0, y1, y2, y3, y4, y5, y6, y7, y8)
  | _ => none)
  | _ => none)
  | _ => none)
  | _ => none)
  | _ => none)
  | _ => none)
  | _ => none)
  | _ => none)
  | _ => none)
  | _ => none)

def kj : Lp k1g where
  h := ⟨[14, 15, 16, 7, 17, 18, 19, 20, 21, 22, 23, 24, 25, 26, 27, 28, 2, 3, 30, 31, 32, 29, 33, 34, 8, 9, 35, 36, 37, 38, 39, 40, 41, 42, 5, 43, 44, 45, 46, 47, 48, 4, 49, 13], [0, 1, 3], [2], [4]⟩
  JL := kkf
  JE := kk3
  XL := kky
  XE := kkx
  q := fun j => match j with | 0 => .ret | 1 => .ret | 2 => .ret | _ => .exit 0
  tags := [0, 1, 2, 3]
  lt := k2y
  fuel := fun (y0, y1, y2, y3, y4, y5, y6, y7, y8) => y0.natAbs + y1.natAbs + y2.natAbs + y3.length + y4.natAbs + y5.natAbs + y6.natAbs + y7.length + y8.length
  fix := fun (_, y1, _, y3, y4, y5, y6, _, y8) (y0, _, y2, _, _, _, _, y7, _) => (y0, y1, y2, y3, y4, y5, y6, y7, y8)
  σ := [(0, 1), (1, 192), (3, 0), (2, 384)]
  rd := k85

theorem kjd : LoopOk Tryz.prog (fun k => Nat.blt k Tryz.f162.ntmps) kj.F (loopAt Tryz.f162 0) := by
  refine Lp.ok (tbl := [k24, PF.lend k24, PF.fz k24, k3i, PF.lend k3i, PF.fz k3i]) (lf := []) hmix kj (by kernel_rfl) (LOk.nil _) (fun _ => rfl) (fun j _ => by unfold kj; match j with | 0 => rfl | 1 => rfl | 2 => rfl | _ + 3 => rfl) ?_ ?_ ?_ ?_ (fun _ => rfl) ?_
  · intro x; obtain ⟨y0, y1, y2, y3, y4, y5, y6, y7, y8⟩ := x; kernel_rfl
  · intro x; obtain ⟨y0, y1, y2, y3, y4, y5, y6, y7, y8⟩ := x; kernel_rfl
  · intro s x h
    have h : k85 s = some x := h
    unfold k85 at h
    repeat' split at h
    all_goals cases h
    exact ⟨absS_cons (by assumption) rfl (absS_cons (by assumption) rfl (absS_cons (by assumption) rfl (absS_cons (by assumption) rfl (absS_cons (by assumption) rfl (absS_cons (by assumption) rfl (rfl)))))), absE_cons rfl (by assumption) rfl (absE_cons rfl (by assumption) rfl (absE_cons rfl (by assumption) rfl (absE_cons rfl (by assumption) rfl (rfl))))⟩
  · intro x; obtain ⟨y0, y1, y2, y3, y4, y5, y6, y7, y8⟩ := x; kernel_rfl
  · intro x z; obtain ⟨y0, y1, y2, y3, y4, y5, y6, y7, y8⟩ := x; exact (And.intro (And.intro trivial (And.intro trivial (And.intro trivial rfl))) trivial)

def k2p (x0 : Int) (x1 : Int) (x2 : Int) (x3 : List (Int × ByteArray × Int)) (x4 : List (Int × Int)) : Int × Int × Int × List (Int × Int) × Int × Int × Int × List Int × List (Int × ByteArray × Int) :=
  ((0 : Int), (↑(List.length x4) : Int), (0 : Int), x4, x0, x1, x2, [], x3)

def k9i (x0 : Int) (x1 : Int) (x2 : Int) (x3 : List (Int × ByteArray × Int)) (x4 : List (Int × Int)) : Bool :=
  Nat.beq (Prod.fst (Lp.res kj (k2p x0 x1 x2 x3 x4))) (0 : Nat)

def k9f (x0 : Int) (x1 : Int) (x2 : Int) (x3 : List (Int × ByteArray × Int)) (x4 : List (Int × Int)) : Bool :=
  Nat.beq (Prod.fst (Lp.res kj (k2p x0 x1 x2 x3 x4))) (1 : Nat)

def k9l (x0 : Int) (x1 : Int) (x2 : Int) (x3 : List (Int × ByteArray × Int)) (x4 : List (Int × Int)) : Bool :=
  Nat.beq (Prod.fst (Lp.res kj (k2p x0 x1 x2 x3 x4))) (2 : Nat)

def k9b (x0 : Int) (x1 : Int) (x2 : Int) (x3 : List (Int × ByteArray × Int)) (x4 : List (Int × Int)) : Int × List (Int × Int) × Int × Int × Int × List Int × List (Int × ByteArray × Int) :=
  Prod.snd (Prod.snd (Prod.snd (Lp.res kj (k2p x0 x1 x2 x3 x4))))

def k6o (x0 : Int) (x1 : Int) (x2 : Int) (x3 : List (Int × ByteArray × Int)) (x4 : List (Int × Int)) : Bool :=
  bif k9i x0 x1 x2 x3 x4 then false
  else
  bif k9f x0 x1 x2 x3 x4 then false
  else
    bif k9l x0 x1 x2 x3 x4 then false
    else Prod.fst (k9b x0 x1 x2 x3 x4) == (0 : Int)

def ka3 (x0 : Int) (x1 : Int) (x2 : Int) (x3 : List (Int × ByteArray × Int)) (x4 : List (Int × Int)) : List Int :=
  bif k9i x0 x1 x2 x3 x4 then []
  else
  bif k9f x0 x1 x2 x3 x4 then []
  else
    bif k9l x0 x1 x2 x3 x4 then []
    else Prod.fst (Prod.snd (Prod.snd (Prod.snd (Prod.snd (Prod.snd (k9b x0 x1 x2 x3 x4))))))

def k6j (x0 : Int) (x1 : Int) (x2 : Int) (x3 : List (Int × ByteArray × Int)) (x4 : List (Int × Int)) : Bool :=
  allT [Lp.fin kj (k2p x0 x1 x2 x3 x4)]

def kep : List SV → List Entry → Option Out
  | [.one ⟨true, [.val (.int .i64 x0), .val (.int .i64 x1), .val (.int .i64 x2), .ref 0, .ref 1]⟩], [.row false 178 (.pair (.int .i64) (.pair (.str) (.int .i64))) x3, .row false 150 (.pair (.int .i64) (.int .i64)) x4] => some ⟨(.tup [⟨false, [(.ref 2)]⟩, ⟨false, [(.val (.bool (k6o x0 x1 x2 x3 x4)))]⟩]), [(.row false 178 (CTy.pair (CTy.int IntKind.i64) (CTy.pair CTy.str (CTy.int IntKind.i64))) x3), (.row false 150 (CTy.pair (CTy.int IntKind.i64) (CTy.int IntKind.i64)) x4)], [(.row true 2 (CTy.int IntKind.i64) (ka3 x0 x1 x2 x3 x4))], [(k6j x0 x1 x2 x3 x4)]⟩
  | _, _ => none

def ka4 : PF Tryz.prog := PF.ofG Tryz.prog [k24, PF.lend k24, PF.fz k24, k3i, PF.lend k3i, PF.fz k3i] [kj.F] hmix 162 Tryz.f162 Tryz.func162 (LOk.fnT (l := [loopAt Tryz.f162 0]) (by kernel_rfl) (.cons kjd (.nil _))) kep (by
  intro vs es r h; unfold kep at h; split at h
  · cases h; kernel_rfl
  · cases h)

def kmu (x0 : Int) (x1 : ByteArray) (x2 : Int) : Bool :=
  !blockB x0 x1 x2

def kql : List SV → List Entry → Option Out
  | [(.one ⟨true, [(.val (.int IntKind.i64 x0)), (.val (.string x1)), (.val (.int IntKind.i64 x2))]⟩)], [] => some ⟨(.one ⟨false, [(.val (.bool (kmu x0 x1 x2)))]⟩), [], [], []⟩
  | _, _ => none

def kqq : PF Tryz.prog := PF.ofG Tryz.prog [kz9] [] hmix 160 Tryz.f160 Tryz.func160 (fun c _ => LOk.nil c) kql (by
  intro vs es r h; unfold kql at h; split at h
  · cases h; kernel_rfl
  · cases h)

abbrev k1o := Int × Int × List (Int × (ByteArray × Int))

def k2g (y0 : Int) (y2 : List (Int × (ByteArray × Int))) : Int × ByteArray × Int :=
  Option.getD y2[Int.toNat y0]? ((0 : Int), ByteArray.empty, (0 : Int))

def k4u (y0 : Int) (y1 : Int) : Bool :=
  ltI y0 y1

def k4s (y0 : Int) : Bool :=
  leI (0 : Int) y0

def k53 (y0 : Int) (y2 : List (Int × (ByteArray × Int))) : Bool :=
  ltI y0 (↑(List.length y2) : Int)

def k4x (y0 : Int) (y2 : List (Int × (ByteArray × Int))) : Bool :=
  ltN (Int.toNat y0) (List.length y2)

def k52 (y0 : Int) (y2 : List (Int × (ByteArray × Int))) : Bool :=
  kmu (Prod.fst (k2g y0 y2)) (Prod.fst (Prod.snd (k2g y0 y2)))
  (Prod.snd (Prod.snd (k2g y0 y2)))

def k4v (y0 : Int) : Int :=
  IntKind.wrap IntKind.i64 (y0 + (1 : Int))

def kn8 : k1o → List (Nat × SV)
  | (y0, y1, _) => [(8, (.one ⟨false, [(.val (.int IntKind.i64 y0))]⟩)), (7, (.one ⟨false, [(.val (.int IntKind.i64 y1))]⟩)), (1, (.one ⟨false, [(.val (.func (.func 160) ⟨[]⟩ ⟨[]⟩))]⟩)), (0, (.one ⟨false, [(.ref 0)]⟩))]

def kn5 : k1o → List (Nat × Entry)
  | (_, _, y2) => [(0, (.row false 178 (CTy.pair (CTy.int IntKind.i64) (CTy.pair CTy.str (CTy.int IntKind.i64))) y2))]

def kn3 : Nat → k1o → List (Nat × SV)
  | 0, (y0, _, _) => [(4, (.one ⟨false, [(.val (.int IntKind.i64 y0))]⟩))]
  | _, (_, _, _) => []

def kmy : Nat → k1o → List (Nat × Entry)
  | 0, (_, _, y2) => [(0, (.row false 178 (CTy.pair (CTy.int IntKind.i64) (CTy.pair CTy.str (CTy.int IntKind.i64))) y2))]
  | _, (_, _, y2) => [(0, (.row false 178 (CTy.pair (CTy.int IntKind.i64) (CTy.pair CTy.str (CTy.int IntKind.i64))) y2))]

def k4p : k1o → LT k1o
  | (y0, y1, y2) => .ite (k4u y0 y1) (.need [(k4s y0), (k53 y0 y2), (k4x y0 y2)] (.ite (k52 y0 y2) (.ext 0 [(0, 0)]) (.nrm ((k4v y0), y1, y2) [(0, 0)]))) (.ext 1 [(0, 0)])

def kac (s : St) : Option k1o :=
  (match s.look 8 with
  | some ⟨none, (.one ⟨false, [(.val (.int IntKind.i64 y0))]⟩)⟩ =>
  (match s.look 7 with
  | some ⟨none, (.one ⟨false, [(.val (.int IntKind.i64 y1))]⟩)⟩ =>
  (match s.look 1 with
  | some ⟨none, (.one ⟨false, [(.val (.func (.func 160) ⟨[]⟩ ⟨[]⟩))]⟩)⟩ =>
  (match s.look 0 with
  | some ⟨none, (.one ⟨false, [(.ref 0)]⟩)⟩ =>
  (match s.ent 0 with
  | some (.row false 178 (CTy.pair (CTy.int IntKind.i64) (CTy.pair CTy.str (CTy.int IntKind.i64))) y2) =>
  some (y0, y1, y2)
  | _ => none)
  | _ => none)
  | _ => none)
  | _ => none)
  | _ => none)

def kx : Lp k1o where
  h := ⟨[9, 10, 5, 11, 12, 13, 14, 15, 16, 17, 4, 18, 8], [0], [], []⟩
  JL := kn8
  JE := kn5
  XL := kn3
  XE := kmy
  q := fun j => match j with | 0 => .ret | _ => .exit 0
  tags := [0, 1]
  lt := k4p
  fuel := fun (y0, y1, y2) => y0.natAbs + y1.natAbs + y2.length
  fix := fun (_, y1, y2) (y0, _, _) => (y0, y1, y2)
  σ := [(0, 0)]
  rd := kac

theorem kmd : LoopOk Tryz.prog (fun k => Nat.blt k Tryz.f214.ntmps) kx.F (loopAt Tryz.f214 0) := by
  refine Lp.ok (tbl := [kqq]) (lf := []) hmix kx (by kernel_rfl) (LOk.nil _) (fun _ => rfl) (fun j _ => by unfold kx; match j with | 0 => rfl | _ + 1 => rfl) ?_ ?_ ?_ ?_ (fun _ => rfl) ?_
  · intro x; obtain ⟨y0, y1, y2⟩ := x; kernel_rfl
  · intro x; obtain ⟨y0, y1, y2⟩ := x; kernel_rfl
  · intro s x h
    have h : kac s = some x := h
    unfold kac at h
    repeat' split at h
    all_goals cases h
    exact ⟨absS_cons (by assumption) rfl (absS_cons (by assumption) rfl (absS_cons (by assumption) rfl (absS_cons (by assumption) rfl (rfl)))), absE_cons rfl (by assumption) rfl (rfl)⟩
  · intro x; obtain ⟨y0, y1, y2⟩ := x; kernel_rfl
  · intro x z; obtain ⟨y0, y1, y2⟩ := x; exact (And.intro (And.intro trivial rfl) trivial)

def k8d (x0 : List (Int × ByteArray × Int)) : Int × Int × List (Int × ByteArray × Int) :=
  ((0 : Int), (↑(List.length x0) : Int), x0)

def kch (x0 : List (Int × ByteArray × Int)) : Int :=
  bif Nat.beq (Prod.fst (Lp.res kx (k8d x0))) (0 : Nat) then
  Prod.fst (Prod.snd (Lp.res kx (k8d x0)))
  else (-1 : Int)

def kcp (x0 : List (Int × ByteArray × Int)) : Bool :=
  allT [Lp.fin kx (k8d x0)]

def khi : List SV → List Entry → Option Out
  | [(.one ⟨false, [(.ref 0)]⟩), (.one ⟨false, [(.val (.func (.func 160) ⟨[]⟩ ⟨[]⟩))]⟩)], [(.row false 178 (CTy.pair (CTy.int IntKind.i64) (CTy.pair CTy.str (CTy.int IntKind.i64))) x0)] => some ⟨(.one ⟨false, [(.val (.int IntKind.i64 (kch x0)))]⟩), [(.row false 178 (CTy.pair (CTy.int IntKind.i64) (CTy.pair CTy.str (CTy.int IntKind.i64))) x0)], [], [(kcp x0)]⟩
  | _, _ => none

def kcu : PF Tryz.prog := PF.ofG Tryz.prog [kqq] [kx.F] hmix 214 Tryz.f214 Tryz.func214 (LOk.fnT (l := [loopAt Tryz.f214 0]) (by kernel_rfl) (.cons kmd (.nil _))) khi (by
  intro vs es r h; unfold khi at h; split at h
  · cases h; kernel_rfl
  · cases h)

def k7e (x0 : List (Int × ByteArray × Int)) : Bool :=
  leI (0 : Int) (kch x0)

def kaw (x0 : List (Int × ByteArray × Int)) : Bool :=
  allT [kcp x0]

def kff : List SV → List Entry → Option Out
  | [(.one ⟨false, [(.ref 0)]⟩), (.one ⟨false, [(.val (.func (.func 160) ⟨[]⟩ ⟨[]⟩))]⟩)], [(.row false 178 (CTy.pair (CTy.int IntKind.i64) (CTy.pair CTy.str (CTy.int IntKind.i64))) x0)] => some ⟨(.one ⟨false, [(.val (.bool (k7e x0)))]⟩), [(.row false 178 (CTy.pair (CTy.int IntKind.i64) (CTy.pair CTy.str (CTy.int IntKind.i64))) x0)], [], [(kaw x0)]⟩
  | _, _ => none

def kau : PF Tryz.prog := PF.ofG Tryz.prog [kcu, PF.lend kcu, PF.fz kcu] [] hmix 159 Tryz.f159 Tryz.func159 (fun c _ => LOk.nil c) kff (by
  intro vs es r h; unfold kff at h; split at h
  · cases h; kernel_rfl
  · cases h)

def kom (x0 : Int) (x1 : Int) (x2 : Int) (x3 : List (Int × ByteArray × Int)) (x4 : List (Int × Int)) : Bool :=
  bif
    bif
        bif bif !k9e x0 (0 : Int) (20 : Int) then true else !k9e x1 (0 : Int) (20 : Int) then true
        else !k9e x2 (0 : Int) (20 : Int) then
      true
    else ltI (2000 : Int) (↑(List.length x3) : Int) then
  true
  else ltI (2000 : Int) (↑(List.length x4) : Int)

def kwh (x0 : Int) (x1 : Int) (x2 : Int) (x3 : List (Int × ByteArray × Int)) (x4 : List (Int × Int)) : Bool :=
  bif kom x0 x1 x2 x3 x4 then false
  else bif k7e x3 then false else k6o x0 x1 x2 x3 x4

def kwj (x0 : Int) (x1 : Int) (x2 : Int) (x3 : List (Int × ByteArray × Int)) (x4 : List (Int × Int)) : Bool :=
  allT
  [kom x0 x1 x2 x3 x4 || kaw x3,
    kom x0 x1 x2 x3 x4 || (k7e x3 || k6j x0 x1 x2 x3 x4)]

def k110 : List SV → List Entry → Option Out
  | [.one ⟨true, [.val (.int .i64 x0), .val (.int .i64 x1), .val (.int .i64 x2), .ref 0, .ref 1]⟩], [.row false 178 (.pair (.int .i64) (.pair (.str) (.int .i64))) x3, .row false 150 (.pair (.int .i64) (.int .i64)) x4] => some ⟨(.one ⟨false, [(.val (.bool (kwh x0 x1 x2 x3 x4)))]⟩), [(.row false 178 (CTy.pair (CTy.int IntKind.i64) (CTy.pair CTy.str (CTy.int IntKind.i64))) x3), (.row false 150 (CTy.pair (CTy.int IntKind.i64) (CTy.int IntKind.i64)) x4)], [], [(kwj x0 x1 x2 x3 x4)]⟩
  | _, _ => none

def k13p : PF Tryz.prog := PF.ofG Tryz.prog [ksi, k12d, ka4, PF.lend ka4, PF.fz ka4, kau, PF.lend kau, PF.fz kau] [] hmix 92 Tryz.f92 Tryz.func92 (fun c _ => LOk.nil c) k110 (by
  intro vs es r h; unfold k110 at h; split at h
  · cases h; kernel_rfl
  · cases h)

abbrev k1f := Int × Int × List (Int × (ByteArray × Int)) × List Int × List (Int × (Int × Int))

def k2f (y0 : Int) (y2 : List (Int × (ByteArray × Int))) : Int × ByteArray × Int :=
  Option.getD y2[Int.toNat y0]? ((0 : Int), ByteArray.empty, (0 : Int))

def k20 (y0 : Int) (y4 : List (Int × (Int × Int))) : Int × Int × Int :=
  Option.getD y4[Int.toNat y0]? ((0 : Int), (0 : Int), (0 : Int))

def k3a (y0 : Int) (y1 : Int) : Bool :=
  ltI y0 y1

def k2k (y0 : Int) : Bool :=
  leI (0 : Int) y0

def k33 (y0 : Int) (y2 : List (Int × (ByteArray × Int))) : Bool :=
  ltI y0 (↑(List.length y2) : Int)

def k39 (y0 : Int) (y2 : List (Int × (ByteArray × Int))) : Bool :=
  ltN (Int.toNat y0) (List.length y2)

def k34 (y0 : Int) (y4 : List (Int × (Int × Int))) : Bool :=
  ltI y0 (↑(List.length y4) : Int)

def k38 (y0 : Int) (y4 : List (Int × (Int × Int))) : Bool :=
  ltN (Int.toNat y0) (List.length y4)

def k37 (y0 : Int) (y2 : List (Int × (ByteArray × Int))) (y4 : List (Int × (Int × Int))) : Bool :=
  !kh8 (Prod.fst (k2f y0 y2))
    (Prod.snd (Prod.snd (k2f y0 y2))) (Prod.fst (k20 y0 y4))
    (Prod.fst (Prod.snd (k20 y0 y4)))
    (Prod.snd (Prod.snd (k20 y0 y4)))

def k35 (y0 : Int) : Int :=
  IntKind.wrap IntKind.i64 (y0 + (1 : Int))

def kl2 : k1f → List (Nat × SV)
  | (y0, y1, _, _, _) => [(24, (.one ⟨false, [(.val (.int IntKind.i64 y0))]⟩)), (23, (.one ⟨false, [(.val (.int IntKind.i64 y1))]⟩)), (22, (.one ⟨false, [(.ref 0)]⟩)), (3, (.one ⟨false, [(.ptr 1 0)]⟩))]

def kkl : k1f → List (Nat × Entry)
  | (_, _, y2, y3, y4) => [(0, (.row false 178 (CTy.pair (CTy.int IntKind.i64) (CTy.pair CTy.str (CTy.int IntKind.i64))) y2)), (1, (.box 48 [(.ref 2), (.ref 3)])), (2, (.row false 2 (CTy.int IntKind.i64) y3)), (3, (.row false 172 (CTy.pair (CTy.int IntKind.i64) (CTy.pair (CTy.int IntKind.i64) (CTy.int IntKind.i64))) y4))]

def kk2 : Nat → k1f → List (Nat × SV)
  | 0, (_, _, _, _, _) => [(6, (.one ⟨false, [(.val (.bool false))]⟩))]
  | _, (_, _, _, _, _) => []

def kkz : Nat → k1f → List (Nat × Entry)
  | 0, (_, _, y2, y3, y4) => [(0, (.row false 178 (CTy.pair (CTy.int IntKind.i64) (CTy.pair CTy.str (CTy.int IntKind.i64))) y2)), (1, (.box 48 [(.ref 2), (.ref 3)])), (2, (.row false 2 (CTy.int IntKind.i64) y3)), (3, (.row false 172 (CTy.pair (CTy.int IntKind.i64) (CTy.pair (CTy.int IntKind.i64) (CTy.int IntKind.i64))) y4))]
  | _, (_, _, y2, y3, y4) => [(0, (.row false 178 (CTy.pair (CTy.int IntKind.i64) (CTy.pair CTy.str (CTy.int IntKind.i64))) y2)), (1, (.box 48 [(.ref 2), (.ref 3)])), (2, (.row false 2 (CTy.int IntKind.i64) y3)), (3, (.row false 172 (CTy.pair (CTy.int IntKind.i64) (CTy.pair (CTy.int IntKind.i64) (CTy.int IntKind.i64))) y4))]

def k2w : k1f → LT k1f
  | (y0, y1, y2, y3, y4) => .ite (k3a y0 y1) (.need [(k2k y0), (k33 y0 y2), (k39 y0 y2)] (.need [(k2k y0), (k34 y0 y4), (k38 y0 y4)] (.ite (k37 y0 y2 y4) (.ext 0 [(0, 0), (1, 1), (2, 2), (3, 3)]) (.nrm ((k35 y0), y1, y2, y3, y4) [(0, 0), (1, 1), (2, 2), (3, 3)])))) (.ext 1 [(0, 0), (1, 1), (2, 2), (3, 3)])

def k8b (s : St) : Option k1f :=
  (match s.look 24 with
  | some ⟨none, (.one ⟨false, [(.val (.int IntKind.i64 y0))]⟩)⟩ =>
  (match s.look 23 with
  | some ⟨none, (.one ⟨false, [(.val (.int IntKind.i64 y1))]⟩)⟩ =>
  (match s.look 22 with
  | some ⟨none, (.one ⟨false, [(.ref 2)]⟩)⟩ =>
  (match s.look 3 with
  | some ⟨none, (.one ⟨false, [(.ptr 256 0)]⟩)⟩ =>
  (match s.ent 2 with
  | some (.row false 178 (CTy.pair (CTy.int IntKind.i64) (CTy.pair CTy.str (CTy.int IntKind.i64))) y2) =>
  (match s.ent 256 with
  | some (.box 48 [(.ref 0), (.ref 1)]) =>
  (match s.ent 0 with
  | some (.row false 2 (CTy.int IntKind.i64) y3) =>
  (match s.ent 1 with
  | some (.row false 172 (CTy.pair (CTy.int IntKind.i64) (CTy.pair (CTy.int IntKind.i64) (CTy.int IntKind.i64))) y4) =>
  some (y0, y1, y2, y3, y4)
  | _ => none)
  | _ => none)
  | _ => none)
  | _ => none)
  | _ => none)
  | _ => none)
  | _ => none)
  | _ => none)

def kv : Lp k1f where
  h := ⟨[25, 26, 27, 28, 8, 7, 29, 30, 31, 32, 33, 34, 35, 36, 6, 37, 24], [0, 1, 2, 3], [], []⟩
  JL := kl2
  JE := kkl
  XL := kk2
  XE := kkz
  q := fun j => match j with | 0 => .ret | _ => .exit 0
  tags := [0, 1]
  lt := k2w
  fuel := fun (y0, y1, y2, y3, y4) => y0.natAbs + y1.natAbs + y2.length + y3.length + y4.length
  fix := fun (_, y1, y2, y3, y4) (y0, _, _, _, _) => (y0, y1, y2, y3, y4)
  σ := [(0, 2), (1, 256), (2, 0), (3, 1)]
  rd := k8b

theorem kje : LoopOk Tryz.prog (fun k => Nat.blt k Tryz.f116.ntmps) kv.F (loopAt Tryz.f116 0) := by
  refine Lp.ok (tbl := [kf8, PF.lend kf8, PF.fz kf8, kv7]) (lf := []) hmix kv (by kernel_rfl) (LOk.nil _) (fun _ => rfl) (fun j _ => by unfold kv; match j with | 0 => rfl | _ + 1 => rfl) ?_ ?_ ?_ ?_ (fun _ => rfl) ?_
  · intro x; obtain ⟨y0, y1, y2, y3, y4⟩ := x; kernel_rfl
  · intro x; obtain ⟨y0, y1, y2, y3, y4⟩ := x; kernel_rfl
  · intro s x h
    have h : k8b s = some x := h
    unfold k8b at h
    repeat' split at h
    all_goals cases h
    exact ⟨absS_cons (by assumption) rfl (absS_cons (by assumption) rfl (absS_cons (by assumption) rfl (absS_cons (by assumption) rfl (rfl)))), absE_cons rfl (by assumption) rfl (absE_cons rfl (by assumption) rfl (absE_cons rfl (by assumption) rfl (absE_cons rfl (by assumption) rfl (rfl))))⟩
  · intro x; obtain ⟨y0, y1, y2, y3, y4⟩ := x; kernel_rfl
  · intro x z; obtain ⟨y0, y1, y2, y3, y4⟩ := x; exact (And.intro (And.intro trivial rfl) trivial)

def k2m (x0 : Int) (x1 : List Int) (x2 : List (Int × Int × Int)) (x3 : List (Int × ByteArray × Int)) : Bool :=
  bif !bitsB x0 x1 then true else (↑(List.length x2) : Int) != (↑(List.length x3) : Int)

def k99 (x1 : List Int) (x2 : List (Int × Int × Int)) (x3 : List (Int × ByteArray × Int)) : Int × Int × List (Int × ByteArray × Int) × List Int × List (Int × Int × Int) :=
  ((0 : Int), (↑(List.length x3) : Int), x3, x1, x2)

def k6l (x0 : Int) (x1 : List Int) (x2 : List (Int × Int × Int)) (x3 : List (Int × ByteArray × Int)) : Bool :=
  bif k2m x0 x1 x2 x3 then false
  else
  bif Nat.beq (Prod.fst (Lp.res kv (k99 x1 x2 x3))) (0 : Nat) then false
  else true

def k6n (x0 : Int) (x1 : List Int) (x2 : List (Int × Int × Int)) (x3 : List (Int × ByteArray × Int)) : Bool :=
  allT
  [leN (List.length x1) (9223372036854775807 : Nat),
    k2m x0 x1 x2 x3 ||
      Lp.fin kv (k99 x1 x2 x3)]

def ket : List SV → List Entry → Option Out
  | [.one ⟨true, [.ref 0, .ref 1]⟩, .one ⟨false, [.val (.int .i64 x0)]⟩, .one ⟨false, [.ref 2]⟩], [.row false 2 (.int .i64) x1, .row false 172 (.pair (.int .i64) (.pair (.int .i64) (.int .i64))) x2, .row false 178 (.pair (.int .i64) (.pair (.str) (.int .i64))) x3] => some ⟨(.one ⟨false, [(.val (.bool (k6l x0 x1 x2 x3)))]⟩), [(.row false 2 (CTy.int IntKind.i64) x1), (.row false 172 (CTy.pair (CTy.int IntKind.i64) (CTy.pair (CTy.int IntKind.i64) (CTy.int IntKind.i64))) x2), (.row false 178 (CTy.pair (CTy.int IntKind.i64) (CTy.pair CTy.str (CTy.int IntKind.i64))) x3)], [], [(k6n x0 x1 x2 x3)]⟩
  | _, _ => none

def kmh : PF Tryz.prog := PF.ofG Tryz.prog [kf8, PF.lend kf8, PF.fz kf8, kv7] [kv.F] hmix 116 Tryz.f116 Tryz.func116 (LOk.fnT (l := [loopAt Tryz.f116 0]) (by kernel_rfl) (.cons kje (.nil _))) ket (by
  intro vs es r h; unfold ket at h; split at h
  · cases h; kernel_rfl
  · cases h)

def kbg (x0 : List (Int × Int × Int)) : Bool :=
  allT
  [ltN (0 : Nat) (List.length x0), false || leN ((0 : Nat) + List.length x0) (9223372036854775807 : Nat),
    false || leN (((0 : Nat) + List.length x0) * (24 : Nat)) (140737488355328 : Nat)]

def kkb : List SV → List Entry → Option Out
  | [.one ⟨false, [.ref 0]⟩], [.row false 172 (.pair (.int .i64) (.pair (.int .i64) (.int .i64))) x0] => some ⟨(.one ⟨false, [(.ref 1)]⟩), [(.row false 172 (CTy.pair (CTy.int IntKind.i64) (CTy.pair (CTy.int IntKind.i64) (CTy.int IntKind.i64))) x0)], [(.row true 172 (CTy.pair (CTy.int IntKind.i64) (CTy.pair (CTy.int IntKind.i64) (CTy.int IntKind.i64))) x0)], [(kbg x0)]⟩
  | _, _ => none

def kqd : PF Tryz.prog := PF.ofG Tryz.prog [] [] hmix 195 Tryz.f195 Tryz.func195 (fun c _ => LOk.nil c) kkb (by
  intro vs es r h; unfold kkb at h; split at h
  · cases h; kernel_rfl
  · cases h)

def kq1 (x0 : Int) (x1 : ByteArray) (x2 : Int) (x3 : Int) (x4 : ByteArray) (x5 : Int) : Bool :=
  bif x0 != x3 then false else bif !ByteArray.toList x1 == ByteArray.toList x4 then false else bif x2 != x5 then false else true

def k10w : List SV → List Entry → Option Out
  | [.one ⟨true, [.val (.int .i64 x0), .val (.string x1), .val (.int .i64 x2)]⟩, .one ⟨true, [.val (.int .i64 x3), .val (.string x4), .val (.int .i64 x5)]⟩], [] => some ⟨(.one ⟨false, [(.val (.bool (kq1 x0 x1 x2 x3 x4 x5)))]⟩), [], [], []⟩
  | _, _ => none

def k11c : PF Tryz.prog := PF.ofG Tryz.prog [] [] hmix 166 Tryz.f166 Tryz.func166 (fun c _ => LOk.nil c) k10w (by
  intro vs es r h; unfold k10w at h; split at h
  · cases h; kernel_rfl
  · cases h)

abbrev k9r := Int × List (Int × (ByteArray × Int)) × List (Int × (ByteArray × Int))

def kdp (y0 : Int) (y1 : List (Int × (ByteArray × Int))) : Int × ByteArray × Int :=
  Option.getD y1[Int.toNat y0]? ((0 : Int), ByteArray.empty, (0 : Int))

def kds (y0 : Int) (y2 : List (Int × (ByteArray × Int))) : Int × ByteArray × Int :=
  Option.getD y2[Int.toNat y0]? ((0 : Int), ByteArray.empty, (0 : Int))

def kh7 (y0 : Int) (y1 : List (Int × (ByteArray × Int))) : Bool :=
  ltI y0 (↑(List.length y1) : Int)

def kh6 (y0 : Int) : Bool :=
  leI (0 : Int) y0

def kl1 (y0 : Int) (y1 : List (Int × (ByteArray × Int))) : Bool :=
  ltN (Int.toNat y0) (List.length y1)

def kke (y0 : Int) (y2 : List (Int × (ByteArray × Int))) : Bool :=
  ltI y0 (↑(List.length y2) : Int)

def kkc (y0 : Int) (y2 : List (Int × (ByteArray × Int))) : Bool :=
  ltN (Int.toNat y0) (List.length y2)

def kkh (y0 : Int) (y1 : List (Int × (ByteArray × Int))) (y2 : List (Int × (ByteArray × Int))) : Bool :=
  !kq1 (Prod.fst (kdp y0 y1)) (Prod.fst (Prod.snd (kdp y0 y1))) (Prod.snd (Prod.snd (kdp y0 y1)))
    (Prod.fst (kds y0 y2)) (Prod.fst (Prod.snd (kds y0 y2))) (Prod.snd (Prod.snd (kds y0 y2)))

def kkv (y0 : Int) : Int :=
  IntKind.wrap IntKind.i64 (y0 + (1 : Int))

def k10d : k9r → List (Nat × SV)
  | (y0, _, _) => [(5, (.one ⟨false, [(.val (.int IntKind.i64 y0))]⟩)), (0, (.one ⟨false, [(.ref 0)]⟩)), (1, (.one ⟨false, [(.ref 1)]⟩))]

def kzx : k9r → List (Nat × Entry)
  | (_, y1, y2) => [(0, (.row false 178 (CTy.pair (CTy.int IntKind.i64) (CTy.pair CTy.str (CTy.int IntKind.i64))) y1)), (1, (.row false 178 (CTy.pair (CTy.int IntKind.i64) (CTy.pair CTy.str (CTy.int IntKind.i64))) y2))]

def k10h : Nat → k9r → List (Nat × SV)
  | 0, (_, _, _) => [(4, (.one ⟨false, [(.val (.bool false))]⟩))]
  | _, (_, _, _) => []

def k104 : Nat → k9r → List (Nat × Entry)
  | 0, (_, y1, y2) => [(0, (.row false 178 (CTy.pair (CTy.int IntKind.i64) (CTy.pair CTy.str (CTy.int IntKind.i64))) y1)), (1, (.row false 178 (CTy.pair (CTy.int IntKind.i64) (CTy.pair CTy.str (CTy.int IntKind.i64))) y2))]
  | _, (_, y1, y2) => [(0, (.row false 178 (CTy.pair (CTy.int IntKind.i64) (CTy.pair CTy.str (CTy.int IntKind.i64))) y1)), (1, (.row false 178 (CTy.pair (CTy.int IntKind.i64) (CTy.pair CTy.str (CTy.int IntKind.i64))) y2))]

def kit : k9r → LT k9r
  | (y0, y1, y2) => .ite (kh7 y0 y1) (.need [(kh6 y0), (kh7 y0 y1), (kl1 y0 y1), (kh6 y0), (kke y0 y2), (kkc y0 y2)] (.ite (kkh y0 y1 y2) (.ext 0 [(0, 0), (1, 1)]) (.nrm ((kkv y0), y1, y2) [(0, 0), (1, 1)]))) (.ext 1 [(0, 0), (1, 1)])

def kpd (s : St) : Option k9r :=
  (match s.look 5 with
  | some ⟨none, (.one ⟨false, [(.val (.int IntKind.i64 y0))]⟩)⟩ =>
  (match s.look 0 with
  | some ⟨none, (.one ⟨false, [(.ref 0)]⟩)⟩ =>
  (match s.look 1 with
  | some ⟨none, (.one ⟨false, [(.ref 1)]⟩)⟩ =>
  (match s.ent 0 with
  | some (.row false 178 (CTy.pair (CTy.int IntKind.i64) (CTy.pair CTy.str (CTy.int IntKind.i64))) y1) =>
  (match s.ent 1 with
  | some (.row false 178 (CTy.pair (CTy.int IntKind.i64) (CTy.pair CTy.str (CTy.int IntKind.i64))) y2) =>
  some (y0, y1, y2)
  | _ => none)
  | _ => none)
  | _ => none)
  | _ => none)
  | _ => none)

def k43 : Lp k9r where
  h := ⟨[11, 12, 13, 14, 17, 18, 19, 20, 21, 22, 23, 24, 25, 26, 4, 15, 16, 5], [0, 1], [], []⟩
  JL := k10d
  JE := kzx
  XL := k10h
  XE := k104
  q := fun j => match j with | 0 => .ret | _ => .exit 0
  tags := [0, 1]
  lt := kit
  fuel := fun (y0, y1, y2) => y0.natAbs + y1.length + y2.length
  fix := fun (_, y1, y2) (y0, _, _) => (y0, y1, y2)
  σ := [(0, 0), (1, 1)]
  rd := kpd

theorem ky3 : LoopOk Tryz.prog (fun k => Nat.blt k Tryz.f96.ntmps) k43.F (loopAt Tryz.f96 0) := by
  refine Lp.ok (tbl := [k11c]) (lf := []) hmix k43 (by kernel_rfl) (LOk.nil _) (fun _ => rfl) (fun j _ => by unfold k43; match j with | 0 => rfl | _ + 1 => rfl) ?_ ?_ ?_ ?_ (fun _ => rfl) ?_
  · intro x; obtain ⟨y0, y1, y2⟩ := x; kernel_rfl
  · intro x; obtain ⟨y0, y1, y2⟩ := x; kernel_rfl
  · intro s x h
    have h : kpd s = some x := h
    unfold kpd at h
    repeat' split at h
    all_goals cases h
    exact ⟨absS_cons (by assumption) rfl (absS_cons (by assumption) rfl (absS_cons (by assumption) rfl (rfl))), absE_cons rfl (by assumption) rfl (absE_cons rfl (by assumption) rfl (rfl))⟩
  · intro x; obtain ⟨y0, y1, y2⟩ := x; kernel_rfl
  · intro x z; obtain ⟨y0, y1, y2⟩ := x; exact (And.intro (And.intro trivial rfl) trivial)

def kpo (x0 : List (Int × ByteArray × Int)) (x1 : List (Int × ByteArray × Int)) : Bool :=
  (↑(List.length x0) : Int) != (↑(List.length x1) : Int)

def kpi (x0 : List (Int × ByteArray × Int)) (x1 : List (Int × ByteArray × Int)) : Int × List (Int × ByteArray × Int) × List (Int × ByteArray × Int) :=
  ((0 : Int), x0, x1)

def kqx (x0 : List (Int × ByteArray × Int)) (x1 : List (Int × ByteArray × Int)) : Bool :=
  bif kpo x0 x1 then false else bif Nat.beq (Prod.fst (Lp.res k43 (kpi x0 x1))) (0 : Nat) then false else true

def kqu (x0 : List (Int × ByteArray × Int)) (x1 : List (Int × ByteArray × Int)) : Bool :=
  allT [kpo x0 x1 || Lp.fin k43 (kpi x0 x1)]

def kzm : List SV → List Entry → Option Out
  | [.one ⟨false, [.ref 0]⟩, .one ⟨false, [.ref 1]⟩], [.row false 178 (.pair (.int .i64) (.pair (.str) (.int .i64))) x0, .row false 178 (.pair (.int .i64) (.pair (.str) (.int .i64))) x1] => some ⟨(.one ⟨false, [(.val (.bool (kqx x0 x1)))]⟩), [(.row false 178 (CTy.pair (CTy.int IntKind.i64) (CTy.pair CTy.str (CTy.int IntKind.i64))) x0), (.row false 178 (CTy.pair (CTy.int IntKind.i64) (CTy.pair CTy.str (CTy.int IntKind.i64))) x1)], [], [(kqu x0 x1)]⟩
  | _, _ => none

def k130 : PF Tryz.prog := PF.ofG Tryz.prog [k11c] [k43.F] hmix 96 Tryz.f96 Tryz.func96 (LOk.fnT (l := [loopAt Tryz.f96 0]) (by kernel_rfl) (.cons ky3 (.nil _))) kzm (by
  intro vs es r h; unfold kzm at h; split at h
  · cases h; kernel_rfl
  · cases h)

def kg8 (x0 : Int) (x1 : Int) (x2 : Int) (x3 : Int) : Bool :=
  bif x0 != x2 then false else bif x1 != x3 then false else true

def kr3 : List SV → List Entry → Option Out
  | [.one ⟨true, [.val (.int .i64 x0), .val (.int .i64 x1)]⟩, .one ⟨true, [.val (.int .i64 x2), .val (.int .i64 x3)]⟩], [] => some ⟨(.one ⟨false, [(.val (.bool (kg8 x0 x1 x2 x3)))]⟩), [], [], []⟩
  | _, _ => none

def krk : PF Tryz.prog := PF.ofG Tryz.prog [] [] hmix 167 Tryz.f167 Tryz.func167 (fun c _ => LOk.nil c) kr3 (by
  intro vs es r h; unfold kr3 at h; split at h
  · cases h; kernel_rfl
  · cases h)

abbrev k3m := Int × List (Int × Int) × List (Int × Int)

def k96 (y0 : Int) (y1 : List (Int × Int)) : Int × Int :=
  Option.getD y1[Int.toNat y0]? ((0 : Int), (0 : Int))

def k97 (y0 : Int) (y2 : List (Int × Int)) : Int × Int :=
  Option.getD y2[Int.toNat y0]? ((0 : Int), (0 : Int))

def k9y (y0 : Int) (y1 : List (Int × Int)) : Bool :=
  ltI y0 (↑(List.length y1) : Int)

def k9z (y0 : Int) : Bool :=
  leI (0 : Int) y0

def kcd (y0 : Int) (y1 : List (Int × Int)) : Bool :=
  ltN (Int.toNat y0) (List.length y1)

def kcf (y0 : Int) (y2 : List (Int × Int)) : Bool :=
  ltI y0 (↑(List.length y2) : Int)

def kcq (y0 : Int) (y2 : List (Int × Int)) : Bool :=
  ltN (Int.toNat y0) (List.length y2)

def kcv (y0 : Int) (y1 : List (Int × Int)) (y2 : List (Int × Int)) : Bool :=
  !kg8 (Prod.fst (k96 y0 y1)) (Prod.snd (k96 y0 y1))
    (Prod.fst (k97 y0 y2)) (Prod.snd (k97 y0 y2))

def kco (y0 : Int) : Int :=
  IntKind.wrap IntKind.i64 (y0 + (1 : Int))

def ktl : k3m → List (Nat × SV)
  | (y0, _, _) => [(5, (.one ⟨false, [(.val (.int IntKind.i64 y0))]⟩)), (0, (.one ⟨false, [(.ref 0)]⟩)), (1, (.one ⟨false, [(.ref 1)]⟩))]

def ktn : k3m → List (Nat × Entry)
  | (_, y1, y2) => [(0, (.row false 150 (CTy.pair (CTy.int IntKind.i64) (CTy.int IntKind.i64)) y1)), (1, (.row false 150 (CTy.pair (CTy.int IntKind.i64) (CTy.int IntKind.i64)) y2))]

def ktj : Nat → k3m → List (Nat × SV)
  | 0, (_, _, _) => [(4, (.one ⟨false, [(.val (.bool false))]⟩))]
  | _, (_, _, _) => []

def ktp : Nat → k3m → List (Nat × Entry)
  | 0, (_, y1, y2) => [(0, (.row false 150 (CTy.pair (CTy.int IntKind.i64) (CTy.int IntKind.i64)) y1)), (1, (.row false 150 (CTy.pair (CTy.int IntKind.i64) (CTy.int IntKind.i64)) y2))]
  | _, (_, y1, y2) => [(0, (.row false 150 (CTy.pair (CTy.int IntKind.i64) (CTy.int IntKind.i64)) y1)), (1, (.row false 150 (CTy.pair (CTy.int IntKind.i64) (CTy.int IntKind.i64)) y2))]

def kc7 : k3m → LT k3m
  | (y0, y1, y2) => .ite (k9y y0 y1) (.need [(k9z y0), (k9y y0 y1), (kcd y0 y1), (k9z y0), (kcf y0 y2), (kcq y0 y2)] (.ite (kcv y0 y1 y2) (.ext 0 [(0, 0), (1, 1)]) (.nrm ((kco y0), y1, y2) [(0, 0), (1, 1)]))) (.ext 1 [(0, 0), (1, 1)])

def kii (s : St) : Option k3m :=
  (match s.look 5 with
  | some ⟨none, (.one ⟨false, [(.val (.int IntKind.i64 y0))]⟩)⟩ =>
  (match s.look 0 with
  | some ⟨none, (.one ⟨false, [(.ref 0)]⟩)⟩ =>
  (match s.look 1 with
  | some ⟨none, (.one ⟨false, [(.ref 1)]⟩)⟩ =>
  (match s.ent 0 with
  | some (.row false 150 (CTy.pair (CTy.int IntKind.i64) (CTy.int IntKind.i64)) y1) =>
  (match s.ent 1 with
  | some (.row false 150 (CTy.pair (CTy.int IntKind.i64) (CTy.int IntKind.i64)) y2) =>
  some (y0, y1, y2)
  | _ => none)
  | _ => none)
  | _ => none)
  | _ => none)
  | _ => none)

def k1z : Lp k3m where
  h := ⟨[11, 12, 13, 14, 17, 18, 19, 20, 21, 22, 23, 24, 25, 26, 4, 15, 16, 5], [0, 1], [], []⟩
  JL := ktl
  JE := ktn
  XL := ktj
  XE := ktp
  q := fun j => match j with | 0 => .ret | _ => .exit 0
  tags := [0, 1]
  lt := kc7
  fuel := fun (y0, y1, y2) => y0.natAbs + y1.length + y2.length
  fix := fun (_, y1, y2) (y0, _, _) => (y0, y1, y2)
  σ := [(0, 0), (1, 1)]
  rd := kii

theorem krw : LoopOk Tryz.prog (fun k => Nat.blt k Tryz.f97.ntmps) k1z.F (loopAt Tryz.f97 0) := by
  refine Lp.ok (tbl := [krk]) (lf := []) hmix k1z (by kernel_rfl) (LOk.nil _) (fun _ => rfl) (fun j _ => by unfold k1z; match j with | 0 => rfl | _ + 1 => rfl) ?_ ?_ ?_ ?_ (fun _ => rfl) ?_
  · intro x; obtain ⟨y0, y1, y2⟩ := x; kernel_rfl
  · intro x; obtain ⟨y0, y1, y2⟩ := x; kernel_rfl
  · intro s x h
    have h : kii s = some x := h
    unfold kii at h
    repeat' split at h
    all_goals cases h
    exact ⟨absS_cons (by assumption) rfl (absS_cons (by assumption) rfl (absS_cons (by assumption) rfl (rfl))), absE_cons rfl (by assumption) rfl (absE_cons rfl (by assumption) rfl (rfl))⟩
  · intro x; obtain ⟨y0, y1, y2⟩ := x; kernel_rfl
  · intro x z; obtain ⟨y0, y1, y2⟩ := x; exact (And.intro (And.intro trivial rfl) trivial)

def khw (x0 : List (Int × Int)) (x1 : List (Int × Int)) : Bool :=
  (↑(List.length x0) : Int) != (↑(List.length x1) : Int)

def khu (x0 : List (Int × Int)) (x1 : List (Int × Int)) : Int × List (Int × Int) × List (Int × Int) :=
  ((0 : Int), x0, x1)

def ki8 (x0 : List (Int × Int)) (x1 : List (Int × Int)) : Bool :=
  bif khw x0 x1 then false
  else bif Nat.beq (Prod.fst (Lp.res k1z (khu x0 x1))) (0 : Nat) then false else true

def kia (x0 : List (Int × Int)) (x1 : List (Int × Int)) : Bool :=
  allT [khw x0 x1 || Lp.fin k1z (khu x0 x1)]

def kqj : List SV → List Entry → Option Out
  | [.one ⟨false, [.ref 0]⟩, .one ⟨false, [.ref 1]⟩], [.row false 150 (.pair (.int .i64) (.int .i64)) x0, .row false 150 (.pair (.int .i64) (.int .i64)) x1] => some ⟨(.one ⟨false, [(.val (.bool (ki8 x0 x1)))]⟩), [(.row false 150 (CTy.pair (CTy.int IntKind.i64) (CTy.int IntKind.i64)) x0), (.row false 150 (CTy.pair (CTy.int IntKind.i64) (CTy.int IntKind.i64)) x1)], [], [(kia x0 x1)]⟩
  | _, _ => none

def kx4 : PF Tryz.prog := PF.ofG Tryz.prog [krk] [k1z.F] hmix 97 Tryz.f97 Tryz.func97 (LOk.fnT (l := [loopAt Tryz.f97 0]) (by kernel_rfl) (.cons krw (.nil _))) kqj (by
  intro vs es r h; unfold kqj at h; split at h
  · cases h; kernel_rfl
  · cases h)

abbrev kbr := Int × ByteArray

def kag (y0 : Int) : ByteArray :=
  strOfNums [IntKind.wrap IntKind.u8 (IntKind.wrap IntKind.i64 ((48 : Int) + Int.tmod y0 (10 : Int)))]

def kmp (y0 : Int) : Bool :=
  ltI (0 : Int) y0

def kow  : Bool :=
  neI (10 : Int) (0 : Int)

def kth (y0 : Int) (y1 : ByteArray) : Bool :=
  leN (ByteArray.size (kag y0) + ByteArray.size y1) (9223372036854775807 : Nat)

def ktq (y0 : Int) : Int :=
  IntKind.wrap IntKind.i64 (Int.tdiv y0 (10 : Int))

def ktf (y0 : Int) (y1 : ByteArray) : ByteArray :=
  kag y0 ++ y1

def kzr : kbr → List (Nat × SV)
  | (y0, y1) => [(0, (.one ⟨false, [(.val (.int IntKind.i64 y0))]⟩)), (3, (.one ⟨false, [(.val (.string y1))]⟩))]

def kzn : kbr → List (Nat × Entry)
  | (_, _) => []

def kzg : Nat → kbr → List (Nat × SV)
  | _, (y0, y1) => [(3, (.one ⟨false, [(.val (.string y1))]⟩)), (0, (.one ⟨false, [(.val (.int IntKind.i64 y0))]⟩))]

def kz3 : Nat → kbr → List (Nat × Entry)
  | _, (_, _) => []

def klo : kbr → LT kbr
  | (y0, y1) => .ite (kmp y0) (.need [(kow), (kth y0 y1)] (.need [(kow)] (.nrm ((ktq y0), (ktf y0 y1)) []))) (.ext 0 [])

def ko7 (s : St) : Option kbr :=
  (match s.look 0 with
  | some ⟨none, (.one ⟨false, [(.val (.int IntKind.i64 y0))]⟩)⟩ =>
  (match s.look 3 with
  | some ⟨none, (.one ⟨false, [(.val (.string y1))]⟩)⟩ =>
  some (y0, y1)
  | _ => none)
  | _ => none)

def k62 : Lp kbr where
  h := ⟨[6, 7, 8, 9, 10, 11, 12, 13, 14, 15, 3, 16, 17, 0], [], [], []⟩
  JL := kzr
  JE := kzn
  XL := kzg
  XE := kz3
  q := fun j => match j with | _ => .exit 0
  tags := [0]
  lt := klo
  fuel := fun (y0, y1) => y0.natAbs + y1.size
  fix := fun (_, _) (y0, y1) => (y0, y1)
  σ := []
  rd := ko7

theorem kx3 : LoopOk Tryz.prog (fun k => Nat.blt k Tryz.f168.ntmps) k62.F (loopAt Tryz.f168 0) := by
  refine Lp.ok (tbl := []) (lf := []) hmix k62 (by kernel_rfl) (LOk.nil _) (fun _ => rfl) (fun _ _ => rfl) ?_ ?_ ?_ ?_ (fun _ => rfl) ?_
  · intro x; obtain ⟨y0, y1⟩ := x; kernel_rfl
  · intro x; obtain ⟨y0, y1⟩ := x; kernel_rfl
  · intro s x h
    have h : ko7 s = some x := h
    unfold ko7 at h
    repeat' split at h
    all_goals cases h
    exact ⟨absS_cons (by assumption) rfl (absS_cons (by assumption) rfl (rfl)), rfl⟩
  · intro x; obtain ⟨y0, y1⟩ := x; kernel_rfl
  · intro x z; obtain ⟨y0, y1⟩ := x; exact (And.intro rfl trivial)

def kro (x0 : Int) : ByteArray :=
  Prod.snd (Prod.snd (Lp.res k62 (x0, { data := #[] })))

def kl4 (x0 : Int) : ByteArray :=
  bif leI x0 (0 : Int) then { data := #[(109 : UInt8), (48 : UInt8)] } else { data := #[(109 : UInt8)] } ++ kro x0

def kna (x0 : Int) : Bool :=
  allT
  [leI x0 (0 : Int) || Lp.fin k62 (x0, { data := #[] }),
    leI x0 (0 : Int) || leN (ByteArray.size { data := #[(109 : UInt8)] } + ByteArray.size (kro x0)) (9223372036854775807 : Nat)]

def kxj : List SV → List Entry → Option Out
  | [.one ⟨false, [.val (.int .i64 x0)]⟩], [] => some ⟨(.one ⟨false, [(.val (.string (kl4 x0)))]⟩), [], [], [(kna x0)]⟩
  | _, _ => none

def kxe : PF Tryz.prog := PF.ofG Tryz.prog [] [k62.F] hmix 168 Tryz.f168 Tryz.func168 (LOk.fnT (l := [loopAt Tryz.f168 0]) (by kernel_rfl) (.cons kx3 (.nil _))) kxj (by
  intro vs es r h; unfold kxj at h; split at h
  · cases h; kernel_rfl
  · cases h)

abbrev k7f := Int × Int × List (Int × (ByteArray × Int))

def kbl (y1 : Int) : Int :=
  IntKind.wrap IntKind.i64 (y1 + (1 : Int))

def ke3 (y0 : Int) (y2 : List (Int × (ByteArray × Int))) : ByteArray × Int :=
  Prod.snd (Option.getD y2[Int.toNat y0]? ((0 : Int), ByteArray.empty, (0 : Int)))

def k9m (y0 : Int) (y1 : Int) (y2 : List (Int × (ByteArray × Int))) : List (Int × ByteArray × Int) :=
  List.set y2 (Int.toNat y0) (y1, Prod.fst (ke3 y0 y2), Prod.snd (ke3 y0 y2))

def kdz (y0 : Int) (y1 : Int) (y2 : List (Int × (ByteArray × Int))) : Int × ByteArray × Int :=
  Option.getD (k9m y0 y1 y2)[Int.toNat y0]? ((0 : Int), ByteArray.empty, (0 : Int))

def k9j (y0 : Int) (y1 : Int) (y2 : List (Int × (ByteArray × Int))) : List (Int × ByteArray × Int) :=
  List.set (k9m y0 y1 y2) (Int.toNat y0)
  (Prod.fst (kdz y0 y1 y2), kl4 (kbl y1), Prod.snd (Prod.snd (kdz y0 y1 y2)))

def ke0 (y1 : Int) : Int :=
  IntKind.wrap IntKind.i64 (kbl y1 + (1 : Int))

def kdv (y0 : Int) (y1 : Int) (y2 : List (Int × (ByteArray × Int))) : Int × ByteArray × Int :=
  Option.getD (k9j y0 y1 y2)[Int.toNat y0]? ((0 : Int), ByteArray.empty, (0 : Int))

def kem (y0 : Int) (y2 : List (Int × (ByteArray × Int))) : Bool :=
  ltI y0 (↑(List.length y2) : Int)

def kck (y0 : Int) : Bool :=
  leI (0 : Int) y0

def khm (y0 : Int) (y2 : List (Int × (ByteArray × Int))) : Bool :=
  ltN (Int.toNat y0) (List.length y2)

def khn (y1 : Int) : Bool :=
  kna (kbl y1)

def khy (y0 : Int) (y1 : Int) (y2 : List (Int × (ByteArray × Int))) : Bool :=
  ltI y0 (↑(List.length (k9m y0 y1 y2)) : Int)

def khc (y0 : Int) (y1 : Int) (y2 : List (Int × (ByteArray × Int))) : Bool :=
  ltN (Int.toNat y0) (List.length (k9m y0 y1 y2))

def khz (y0 : Int) (y1 : Int) (y2 : List (Int × (ByteArray × Int))) : Bool :=
  ltI y0 (↑(List.length (k9j y0 y1 y2)) : Int)

def kho (y0 : Int) (y1 : Int) (y2 : List (Int × (ByteArray × Int))) : Bool :=
  ltN (Int.toNat y0) (List.length (k9j y0 y1 y2))

def khb (y0 : Int) : Int :=
  IntKind.wrap IntKind.i64 (y0 + (1 : Int))

def khv (y1 : Int) : Int :=
  IntKind.wrap IntKind.i64 (ke0 y1 + (1 : Int))

def kgi (y0 : Int) (y1 : Int) (y2 : List (Int × (ByteArray × Int))) : List (Int × (ByteArray × Int)) :=
  List.set (k9j y0 y1 y2) (Int.toNat y0)
  (Prod.fst (kdv y0 y1 y2), Prod.fst (Prod.snd (kdv y0 y1 y2)), ke0 y1)

def kyd : k7f → List (Nat × SV)
  | (y0, y1, _) => [(5, (.one ⟨false, [(.val (.int IntKind.i64 y0))]⟩)), (0, (.one ⟨false, [(.ref 0)]⟩)), (1, (.one ⟨false, [(.val (.int IntKind.i64 y1))]⟩))]

def ky4 : k7f → List (Nat × Entry)
  | (_, _, y2) => [(0, (.row true 178 (CTy.pair (CTy.int IntKind.i64) (CTy.pair CTy.str (CTy.int IntKind.i64))) y2))]

def ky6 : Nat → k7f → List (Nat × SV)
  | _, (_, y1, _) => [(1, (.one ⟨false, [(.val (.int IntKind.i64 y1))]⟩))]

def ky0 : Nat → k7f → List (Nat × Entry)
  | _, (_, _, y2) => [(0, (.row true 178 (CTy.pair (CTy.int IntKind.i64) (CTy.pair CTy.str (CTy.int IntKind.i64))) y2))]

def kgl : k7f → LT k7f
  | (y0, y1, y2) => .ite (kem y0 y2) (.need [(kck y0), (kem y0 y2), (khm y0 y2)] (.need [(khn y1), (kck y0), (khy y0 y1 y2), (khc y0 y1 y2)] (.need [(kck y0), (khz y0 y1 y2), (kho y0 y1 y2)] (.nrm ((khb y0), (khv y1), (kgi y0 y1 y2)) [(0, 0)])))) (.ext 0 [(0, 0)])

def knv (s : St) : Option k7f :=
  (match s.look 5 with
  | some ⟨none, (.one ⟨false, [(.val (.int IntKind.i64 y0))]⟩)⟩ =>
  (match s.look 0 with
  | some ⟨none, (.one ⟨false, [(.ref 0)]⟩)⟩ =>
  (match s.look 1 with
  | some ⟨none, (.one ⟨false, [(.val (.int IntKind.i64 y1))]⟩)⟩ =>
  (match s.ent 0 with
  | some (.row true 178 (CTy.pair (CTy.int IntKind.i64) (CTy.pair CTy.str (CTy.int IntKind.i64))) y2) =>
  some (y0, y1, y2)
  | _ => none)
  | _ => none)
  | _ => none)
  | _ => none)

def k3h : Lp k7f where
  h := ⟨[6, 7, 8, 9, 12, 13, 14, 15, 16, 17, 18, 1, 19, 20, 21, 22, 23, 24, 25, 26, 27, 28, 29, 30, 31, 32, 33, 10, 11, 5], [0], [], []⟩
  JL := kyd
  JE := ky4
  XL := ky6
  XE := ky0
  q := fun j => match j with | _ => .exit 0
  tags := [0]
  lt := kgl
  fuel := fun (y0, y1, y2) => y0.natAbs + y1.natAbs + y2.length
  fix := fun (_, _, _) (y0, y1, y2) => (y0, y1, y2)
  σ := [(0, 0)]
  rd := knv

theorem kwc : LoopOk Tryz.prog (fun k => Nat.blt k Tryz.f98.ntmps) k3h.F (loopAt Tryz.f98 0) := by
  refine Lp.ok (tbl := [kxe]) (lf := []) hmix k3h (by kernel_rfl) (LOk.nil _) (fun _ => rfl) (fun _ _ => rfl) ?_ ?_ ?_ ?_ (fun _ => rfl) ?_
  · intro x; obtain ⟨y0, y1, y2⟩ := x; kernel_rfl
  · intro x; obtain ⟨y0, y1, y2⟩ := x; kernel_rfl
  · intro s x h
    have h : knv s = some x := h
    unfold knv at h
    repeat' split at h
    all_goals cases h
    exact ⟨absS_cons (by assumption) rfl (absS_cons (by assumption) rfl (absS_cons (by assumption) rfl (rfl))), absE_cons rfl (by assumption) rfl (rfl)⟩
  · intro x; obtain ⟨y0, y1, y2⟩ := x; kernel_rfl
  · intro x z; obtain ⟨y0, y1, y2⟩ := x; exact (And.intro rfl trivial)

def knj (x0 : Int) (x1 : List (Int × ByteArray × Int)) : Int × Int × List (Int × ByteArray × Int) :=
  ((0 : Int), x0, x1)

def kq6 (x0 : Int) (x1 : List (Int × ByteArray × Int)) : Int × List (Int × ByteArray × Int) :=
  Prod.snd (Prod.snd (Lp.res k3h (knj x0 x1)))

def kri (x0 : Int) (x1 : List (Int × ByteArray × Int)) : Int :=
  Prod.fst (kq6 x0 x1)

def kr8 (x0 : Int) (x1 : List (Int × ByteArray × Int)) : List (Int × (ByteArray × Int)) :=
  Prod.snd (kq6 x0 x1)

def krs (x0 : Int) (x1 : List (Int × ByteArray × Int)) : Bool :=
  allT [Lp.fin k3h (knj x0 x1)]

def kwg : List SV → List Entry → Option Out
  | [.one ⟨false, [.ref 0]⟩, .one ⟨false, [.val (.int .i64 x0)]⟩], [.row true 178 (.pair (.int .i64) (.pair (.str) (.int .i64))) x1] => some ⟨(.one ⟨false, [(.val (.int IntKind.i64 (kri x0 x1)))]⟩), [(.row true 178 (CTy.pair (CTy.int IntKind.i64) (CTy.pair CTy.str (CTy.int IntKind.i64))) (kr8 x0 x1))], [], [(krs x0 x1)]⟩
  | _, _ => none

def k129 : PF Tryz.prog := PF.ofG Tryz.prog [kxe] [k3h.F] hmix 98 Tryz.f98 Tryz.func98 (LOk.fnT (l := [loopAt Tryz.f98 0]) (by kernel_rfl) (.cons kwc (.nil _))) kwg (by
  intro vs es r h; unfold kwg at h; split at h
  · cases h; kernel_rfl
  · cases h)

abbrev k2s := Int × Int × List (Int × Int)

def k4b (y0 : Int) (y1 : Int) (y2 : List (Int × Int)) : List (Int × Int) :=
  List.set y2 (Int.toNat y0) (y1, Prod.snd (Option.getD y2[Int.toNat y0]? ((0 : Int), (0 : Int))))

def k7s (y1 : Int) : Int :=
  IntKind.wrap IntKind.i64 (y1 + (1 : Int))

def k8o (y0 : Int) (y2 : List (Int × Int)) : Bool :=
  ltI y0 (↑(List.length y2) : Int)

def k8i (y0 : Int) : Bool :=
  leI (0 : Int) y0

def kbd (y0 : Int) (y2 : List (Int × Int)) : Bool :=
  ltN (Int.toNat y0) (List.length y2)

def kav (y0 : Int) (y1 : Int) (y2 : List (Int × Int)) : Bool :=
  ltI y0 (↑(List.length (k4b y0 y1 y2)) : Int)

def kay (y0 : Int) (y1 : Int) (y2 : List (Int × Int)) : Bool :=
  ltN (Int.toNat y0) (List.length (k4b y0 y1 y2))

def kb6 (y0 : Int) : Int :=
  IntKind.wrap IntKind.i64 (y0 + (1 : Int))

def kb3 (y1 : Int) : Int :=
  IntKind.wrap IntKind.i64 (k7s y1 + (1 : Int))

def kb5 (y0 : Int) (y1 : Int) (y2 : List (Int × Int)) : List (Int × Int) :=
  List.set (k4b y0 y1 y2) (Int.toNat y0)
  (Prod.fst (Option.getD (k4b y0 y1 y2)[Int.toNat y0]? ((0 : Int), (0 : Int))), k7s y1)

def krx : k2s → List (Nat × SV)
  | (y0, y1, _) => [(5, (.one ⟨false, [(.val (.int IntKind.i64 y0))]⟩)), (0, (.one ⟨false, [(.ref 0)]⟩)), (1, (.one ⟨false, [(.val (.int IntKind.i64 y1))]⟩))]

def kry : k2s → List (Nat × Entry)
  | (_, _, y2) => [(0, (.row true 150 (CTy.pair (CTy.int IntKind.i64) (CTy.int IntKind.i64)) y2))]

def kru : Nat → k2s → List (Nat × SV)
  | _, (_, y1, _) => [(1, (.one ⟨false, [(.val (.int IntKind.i64 y1))]⟩))]

def krv : Nat → k2s → List (Nat × Entry)
  | _, (_, _, y2) => [(0, (.row true 150 (CTy.pair (CTy.int IntKind.i64) (CTy.int IntKind.i64)) y2))]

def ka8 : k2s → LT k2s
  | (y0, y1, y2) => .ite (k8o y0 y2) (.need [(k8i y0), (k8o y0 y2), (kbd y0 y2)] (.need [(k8i y0), (kav y0 y1 y2), (kay y0 y1 y2)] (.nrm ((kb6 y0), (kb3 y1), (kb5 y0 y1 y2)) [(0, 0)]))) (.ext 0 [(0, 0)])

def kgv (s : St) : Option k2s :=
  (match s.look 5 with
  | some ⟨none, (.one ⟨false, [(.val (.int IntKind.i64 y0))]⟩)⟩ =>
  (match s.look 0 with
  | some ⟨none, (.one ⟨false, [(.ref 0)]⟩)⟩ =>
  (match s.look 1 with
  | some ⟨none, (.one ⟨false, [(.val (.int IntKind.i64 y1))]⟩)⟩ =>
  (match s.ent 0 with
  | some (.row true 150 (CTy.pair (CTy.int IntKind.i64) (CTy.int IntKind.i64)) y2) =>
  some (y0, y1, y2)
  | _ => none)
  | _ => none)
  | _ => none)
  | _ => none)

def k1y : Lp k2s where
  h := ⟨[6, 7, 8, 9, 12, 13, 14, 15, 16, 17, 18, 1, 19, 20, 21, 22, 23, 24, 25, 10, 11, 5], [0], [], []⟩
  JL := krx
  JE := kry
  XL := kru
  XE := krv
  q := fun j => match j with | _ => .exit 0
  tags := [0]
  lt := ka8
  fuel := fun (y0, y1, y2) => y0.natAbs + y1.natAbs + y2.length
  fix := fun (_, _, _) (y0, y1, y2) => (y0, y1, y2)
  σ := [(0, 0)]
  rd := kgv

theorem kr0 : LoopOk Tryz.prog (fun k => Nat.blt k Tryz.f99.ntmps) k1y.F (loopAt Tryz.f99 0) := by
  refine Lp.ok (tbl := []) (lf := []) hmix k1y (by kernel_rfl) (LOk.nil _) (fun _ => rfl) (fun _ _ => rfl) ?_ ?_ ?_ ?_ (fun _ => rfl) ?_
  · intro x; obtain ⟨y0, y1, y2⟩ := x; kernel_rfl
  · intro x; obtain ⟨y0, y1, y2⟩ := x; kernel_rfl
  · intro s x h
    have h : kgv s = some x := h
    unfold kgv at h
    repeat' split at h
    all_goals cases h
    exact ⟨absS_cons (by assumption) rfl (absS_cons (by assumption) rfl (absS_cons (by assumption) rfl (rfl))), absE_cons rfl (by assumption) rfl (rfl)⟩
  · intro x; obtain ⟨y0, y1, y2⟩ := x; kernel_rfl
  · intro x z; obtain ⟨y0, y1, y2⟩ := x; exact (And.intro rfl trivial)

def kf6 (x0 : Int) (x1 : List (Int × Int)) : Int × Int × List (Int × Int) :=
  ((0 : Int), x0, x1)

def kjv (x0 : Int) (x1 : List (Int × Int)) : Int × List (Int × Int) :=
  Prod.snd (Prod.snd (Lp.res k1y (kf6 x0 x1)))

def klf (x0 : Int) (x1 : List (Int × Int)) : Int :=
  Prod.fst (kjv x0 x1)

def klm (x0 : Int) (x1 : List (Int × Int)) : List (Int × Int) :=
  Prod.snd (kjv x0 x1)

def klh (x0 : Int) (x1 : List (Int × Int)) : Bool :=
  allT [Lp.fin k1y (kf6 x0 x1)]

def kot : List SV → List Entry → Option Out
  | [.one ⟨false, [.ref 0]⟩, .one ⟨false, [.val (.int .i64 x0)]⟩], [.row true 150 (.pair (.int .i64) (.int .i64)) x1] => some ⟨(.one ⟨false, [(.val (.int IntKind.i64 (klf x0 x1)))]⟩), [(.row true 150 (CTy.pair (CTy.int IntKind.i64) (CTy.int IntKind.i64)) (klm x0 x1))], [], [(klh x0 x1)]⟩
  | _, _ => none

def kvl : PF Tryz.prog := PF.ofG Tryz.prog [] [k1y.F] hmix 99 Tryz.f99 Tryz.func99 (LOk.fnT (l := [loopAt Tryz.f99 0]) (by kernel_rfl) (.cons kr0 (.nil _))) kot (by
  intro vs es r h; unfold kot at h; split at h
  · cases h; kernel_rfl
  · cases h)

def kn7 (x0 : Int) (x1 : List (Int × Int × Int)) : Int :=
  IntKind.wrap IntKind.i64 (x0 - (↑(List.length x1) : Int))

def knp (x0 : Int) (x1 : List (Int × Int × Int)) : Int :=
  bif ltI (kn7 x0 x1) (0 : Int) then (-1 : Int) else kn7 x0 x1

def krd : List SV → List Entry → Option Out
  | [.one ⟨false, [.ref 0]⟩, .one ⟨false, [.val (.int .i64 x0)]⟩], [.row false 194 (.pair (.int .i64) (.pair (.int .i64) (.int .i64))) x1] => some ⟨(.one ⟨false, [(.val (.int IntKind.i64 (knp x0 x1)))]⟩), [(.row false 194 (CTy.pair (CTy.int IntKind.i64) (CTy.pair (CTy.int IntKind.i64) (CTy.int IntKind.i64))) x1)], [], []⟩
  | _, _ => none

def kxz : PF Tryz.prog := PF.ofG Tryz.prog [] [] hmix 100 Tryz.f100 Tryz.func100 (fun c _ => LOk.nil c) krd (by
  intro vs es r h; unfold krd at h; split at h
  · cases h; kernel_rfl
  · cases h)

abbrev k8e := Int × Int × Int × Int × List (Int × (ByteArray × Int)) × List (Int × Int) × List Int × List (Int × (Int × Int))

def ker (y0 : Int) (y4 : List (Int × (ByteArray × Int))) : Int × ByteArray × Int :=
  Option.getD y4[Int.toNat y0]? ((0 : Int), ByteArray.empty, (0 : Int))

def kcr (y0 : Int) (y7 : List (Int × (Int × Int))) : Int × Int × Int :=
  Option.getD y7[Int.toNat y0]? ((0 : Int), (0 : Int), (0 : Int))

def kfn (y0 : Int) (y4 : List (Int × (ByteArray × Int))) : Bool :=
  ltI y0 (↑(List.length y4) : Int)

def kfo (y0 : Int) : Bool :=
  leI (0 : Int) y0

def kiz (y0 : Int) (y4 : List (Int × (ByteArray × Int))) : Bool :=
  ltN (Int.toNat y0) (List.length y4)

def kj6 (y0 : Int) (y7 : List (Int × (Int × Int))) : Bool :=
  ltI y0 (↑(List.length y7) : Int)

def kik (y0 : Int) (y7 : List (Int × (Int × Int))) : Bool :=
  ltN (Int.toNat y0) (List.length y7)

def kja (y0 : Int) (y4 : List (Int × (ByteArray × Int))) (y7 : List (Int × (Int × Int))) : Bool :=
  !k2e (Prod.fst (ker y0 y4)) (Prod.snd (Prod.snd (ker y0 y4))) (Prod.fst (kcr y0 y7))
    (Prod.fst (Prod.snd (kcr y0 y7))) (Prod.snd (Prod.snd (kcr y0 y7)))

def kil (y0 : Int) : Int :=
  IntKind.wrap IntKind.i64 (y0 + (1 : Int))

def kzc : k8e → List (Nat × SV)
  | (y0, _, _, _, _, _, _, _) => [(5, (.one ⟨false, [(.val (.int IntKind.i64 y0))]⟩)), (2, (.one ⟨false, [(.ptr 0 0)]⟩)), (3, (.one ⟨false, [(.ptr 1 0)]⟩))]

def kzh : k8e → List (Nat × Entry)
  | (_, y1, y2, y3, y4, y5, y6, y7) => [(0, (.box 34 [(.val (.int IntKind.i64 y1)), (.val (.int IntKind.i64 y2)), (.val (.int IntKind.i64 y3)), (.ref 2), (.ref 3)])), (1, (.box 48 [(.ref 4), (.ref 5)])), (2, (.row false 178 (CTy.pair (CTy.int IntKind.i64) (CTy.pair CTy.str (CTy.int IntKind.i64))) y4)), (3, (.row false 150 (CTy.pair (CTy.int IntKind.i64) (CTy.int IntKind.i64)) y5)), (4, (.row false 2 (CTy.int IntKind.i64) y6)), (5, (.row false 172 (CTy.pair (CTy.int IntKind.i64) (CTy.pair (CTy.int IntKind.i64) (CTy.int IntKind.i64))) y7))]

def kzw : Nat → k8e → List (Nat × SV)
  | 0, (_, _, _, _, _, _, _, _) => [(4, (.one ⟨false, [(.val (.bool false))]⟩))]
  | _, (_, _, _, _, _, _, _, _) => []

def kzi : Nat → k8e → List (Nat × Entry)
  | 0, (_, y1, y2, y3, y4, y5, y6, y7) => [(0, (.box 34 [(.val (.int IntKind.i64 y1)), (.val (.int IntKind.i64 y2)), (.val (.int IntKind.i64 y3)), (.ref 2), (.ref 3)])), (1, (.box 48 [(.ref 4), (.ref 5)])), (2, (.row false 178 (CTy.pair (CTy.int IntKind.i64) (CTy.pair CTy.str (CTy.int IntKind.i64))) y4)), (3, (.row false 150 (CTy.pair (CTy.int IntKind.i64) (CTy.int IntKind.i64)) y5)), (4, (.row false 2 (CTy.int IntKind.i64) y6)), (5, (.row false 172 (CTy.pair (CTy.int IntKind.i64) (CTy.pair (CTy.int IntKind.i64) (CTy.int IntKind.i64))) y7))]
  | _, (_, y1, y2, y3, y4, y5, y6, y7) => [(0, (.box 34 [(.val (.int IntKind.i64 y1)), (.val (.int IntKind.i64 y2)), (.val (.int IntKind.i64 y3)), (.ref 2), (.ref 3)])), (1, (.box 48 [(.ref 4), (.ref 5)])), (2, (.row false 178 (CTy.pair (CTy.int IntKind.i64) (CTy.pair CTy.str (CTy.int IntKind.i64))) y4)), (3, (.row false 150 (CTy.pair (CTy.int IntKind.i64) (CTy.int IntKind.i64)) y5)), (4, (.row false 2 (CTy.int IntKind.i64) y6)), (5, (.row false 172 (CTy.pair (CTy.int IntKind.i64) (CTy.pair (CTy.int IntKind.i64) (CTy.int IntKind.i64))) y7))]

def khs : k8e → LT k8e
  | (y0, y1, y2, y3, y4, y5, y6, y7) => .ite (kfn y0 y4) (.need [(kfo y0), (kfn y0 y4), (kiz y0 y4), (kfo y0), (kj6 y0 y7), (kik y0 y7)] (.ite (kja y0 y4 y7) (.ext 0 [(0, 0), (1, 1), (2, 2), (3, 3), (4, 4), (5, 5)]) (.nrm ((kil y0), y1, y2, y3, y4, y5, y6, y7) [(0, 0), (1, 1), (2, 2), (3, 3), (4, 4), (5, 5)]))) (.ext 1 [(0, 0), (1, 1), (2, 2), (3, 3), (4, 4), (5, 5)])

def koi (s : St) : Option k8e :=
  (match s.look 5 with
  | some ⟨none, (.one ⟨false, [(.val (.int IntKind.i64 y0))]⟩)⟩ =>
  (match s.look 2 with
  | some ⟨none, (.one ⟨false, [(.ptr 320 0)]⟩)⟩ =>
  (match s.look 3 with
  | some ⟨none, (.one ⟨false, [(.ptr 384 0)]⟩)⟩ =>
  (match s.ent 320 with
  | some (.box 34 [(.val (.int IntKind.i64 y1)), (.val (.int IntKind.i64 y2)), (.val (.int IntKind.i64 y3)), (.ref 0), (.ref 1)]) =>
  (match s.ent 384 with
  | some (.box 48 [(.ref 2), (.ref 3)]) =>
  (match s.ent 0 with
  | some (.row false 178 (CTy.pair (CTy.int IntKind.i64) (CTy.pair CTy.str (CTy.int IntKind.i64))) y4) =>
  (match s.ent 1 with
  | some (.row false 150 (CTy.pair (CTy.int IntKind.i64) (CTy.int IntKind.i64)) y5) =>
  (match s.ent 2 with
  | some (.row false 2 (CTy.int IntKind.i64) y6) =>
  (match s.ent 3 with
  | some (.row false 172 (CTy.pair (CTy.int IntKind.i64) (CTy.pair (CTy.int IntKind.i64) (CTy.int IntKind.i64))) y7) =>
  some (y0, y1, y2, y3, y4, y5, y6, y7)
  | _ => none)
  | _ => none)
  | _ => none)
  | _ => none)
  | _ => none)
  | _ => none)
  | _ => none)
  | _ => none)
  | _ => none)

def k3e : Lp k8e where
  h := ⟨[21, 22, 23, 24, 25, 28, 29, 30, 31, 32, 33, 34, 35, 36, 37, 38, 39, 4, 26, 27, 5], [0, 1, 2, 3, 4, 5], [], []⟩
  JL := kzc
  JE := kzh
  XL := kzw
  XE := kzi
  q := fun j => match j with | 0 => .ret | _ => .exit 0
  tags := [0, 1]
  lt := khs
  fuel := fun (y0, y1, y2, y3, y4, y5, y6, y7) => y0.natAbs + y1.natAbs + y2.natAbs + y3.natAbs + y4.length + y5.length + y6.length + y7.length
  fix := fun (_, y1, y2, y3, y4, y5, y6, y7) (y0, _, _, _, _, _, _, _) => (y0, y1, y2, y3, y4, y5, y6, y7)
  σ := [(0, 320), (1, 384), (2, 0), (3, 1), (4, 2), (5, 3)]
  rd := koi

theorem kwl : LoopOk Tryz.prog (fun k => Nat.blt k Tryz.f101.ntmps) k3e.F (loopAt Tryz.f101 0) := by
  refine Lp.ok (tbl := [kts, kf7, PF.lend kf7, PF.fz kf7]) (lf := []) hmix k3e (by kernel_rfl) (LOk.nil _) (fun _ => rfl) (fun j _ => by unfold k3e; match j with | 0 => rfl | _ + 1 => rfl) ?_ ?_ ?_ ?_ (fun _ => rfl) ?_
  · intro x; obtain ⟨y0, y1, y2, y3, y4, y5, y6, y7⟩ := x; kernel_rfl
  · intro x; obtain ⟨y0, y1, y2, y3, y4, y5, y6, y7⟩ := x; kernel_rfl
  · intro s x h
    have h : koi s = some x := h
    unfold koi at h
    repeat' split at h
    all_goals cases h
    exact ⟨absS_cons (by assumption) rfl (absS_cons (by assumption) rfl (absS_cons (by assumption) rfl (rfl))), absE_cons rfl (by assumption) rfl (absE_cons rfl (by assumption) rfl (absE_cons rfl (by assumption) rfl (absE_cons rfl (by assumption) rfl (absE_cons rfl (by assumption) rfl (absE_cons rfl (by assumption) rfl (rfl))))))⟩
  · intro x; obtain ⟨y0, y1, y2, y3, y4, y5, y6, y7⟩ := x; kernel_rfl
  · intro x z; obtain ⟨y0, y1, y2, y3, y4, y5, y6, y7⟩ := x; exact (And.intro (And.intro trivial rfl) trivial)

def kgc (x3 : List (Int × ByteArray × Int)) (x6 : List (Int × Int × Int)) : Bool :=
  (↑(List.length x6) : Int) != (↑(List.length x3) : Int)

def kr6 (x0 : Int) (x1 : Int) (x2 : Int) (x3 : List (Int × ByteArray × Int)) (x4 : List (Int × Int)) (x5 : List Int) (x6 : List (Int × Int × Int)) : Int × Int × Int × Int × List (Int × ByteArray × Int) × List (Int × Int) × List Int × List (Int × Int × Int) :=
  ((0 : Int), x0, x1, x2, x3, x4, x5, x6)

def kpv (x0 : Int) (x1 : Int) (x2 : Int) (x3 : List (Int × ByteArray × Int)) (x4 : List (Int × Int)) (x5 : List Int) (x6 : List (Int × Int × Int)) : Bool :=
  bif bif kgc x3 x6 then true else !bitsB x1 x5 then false
  else bif Nat.beq (Prod.fst (Lp.res k3e (kr6 x0 x1 x2 x3 x4 x5 x6))) (0 : Nat) then false else true

def kpm (x0 : Int) (x1 : Int) (x2 : Int) (x3 : List (Int × ByteArray × Int)) (x4 : List (Int × Int)) (x5 : List Int) (x6 : List (Int × Int × Int)) : Bool :=
  allT
  [!(!kgc x3 x6 && true) || leN (List.length x5) (9223372036854775807 : Nat),
    (bif kgc x3 x6 then true else !bitsB x1 x5) || Lp.fin k3e (kr6 x0 x1 x2 x3 x4 x5 x6)]

def kxf : List SV → List Entry → Option Out
  | [.one ⟨true, [.val (.int .i64 x0), .val (.int .i64 x1), .val (.int .i64 x2), .ref 0, .ref 1]⟩, .one ⟨true, [.ref 2, .ref 3]⟩], [.row false 178 (.pair (.int .i64) (.pair (.str) (.int .i64))) x3, .row false 150 (.pair (.int .i64) (.int .i64)) x4, .row false 2 (.int .i64) x5, .row false 172 (.pair (.int .i64) (.pair (.int .i64) (.int .i64))) x6] => some ⟨(.one ⟨false, [(.val (.bool (kpv x0 x1 x2 x3 x4 x5 x6)))]⟩), [(.row false 178 (CTy.pair (CTy.int IntKind.i64) (CTy.pair CTy.str (CTy.int IntKind.i64))) x3), (.row false 150 (CTy.pair (CTy.int IntKind.i64) (CTy.int IntKind.i64)) x4), (.row false 2 (CTy.int IntKind.i64) x5), (.row false 172 (CTy.pair (CTy.int IntKind.i64) (CTy.pair (CTy.int IntKind.i64) (CTy.int IntKind.i64))) x6)], [], [(kpm x0 x1 x2 x3 x4 x5 x6)]⟩
  | _, _ => none

def k12j : PF Tryz.prog := PF.ofG Tryz.prog [kts, kf7, PF.lend kf7, PF.fz kf7] [k3e.F] hmix 101 Tryz.f101 Tryz.func101 (LOk.fnT (l := [loopAt Tryz.f101 0]) (by kernel_rfl) (.cons kwl (.nil _))) kxf (by
  intro vs es r h; unfold kxf at h; split at h
  · cases h; kernel_rfl
  · cases h)

abbrev k46 := Int × List (Int × (Int × Int)) × List (Int × (Int × Int))

def k7t (y0 : Int) (y1 : List (Int × (Int × Int))) : Int × Int × Int :=
  Option.getD y1[Int.toNat y0]? ((0 : Int), (0 : Int), (0 : Int))

def kar (y0 : Int) (y1 : List (Int × (Int × Int))) : Bool :=
  ltI y0 (↑(List.length y1) : Int)

def kal (y0 : Int) : Bool :=
  leI (0 : Int) y0

def kdj (y0 : Int) (y1 : List (Int × (Int × Int))) : Bool :=
  ltN (Int.toNat y0) (List.length y1)

def kdg (y0 : Int) (y2 : List (Int × (Int × Int))) : Bool :=
  ltI y0 (↑(List.length y2) : Int)

def kdm (y0 : Int) (y2 : List (Int × (Int × Int))) : Bool :=
  ltN (Int.toNat y0) (List.length y2)

def kdb (y0 : Int) : Int :=
  IntKind.wrap IntKind.i64 (y0 + (1 : Int))

def kdd (y0 : Int) (y1 : List (Int × (Int × Int))) (y2 : List (Int × (Int × Int))) : List (Int × (Int × Int)) :=
  List.set y2 (Int.toNat y0)
  (Prod.fst (k7t y0 y1), Prod.fst (Prod.snd (k7t y0 y1)),
    Prod.snd (Prod.snd (k7t y0 y1)))

def ktu : k46 → List (Nat × SV)
  | (y0, _, _) => [(4, (.one ⟨false, [(.val (.int IntKind.i64 y0))]⟩)), (0, (.one ⟨false, [(.ref 0)]⟩)), (3, (.one ⟨false, [(.ref 1)]⟩))]

def kue : k46 → List (Nat × Entry)
  | (_, y1, y2) => [(0, (.row false 194 (CTy.pair (CTy.int IntKind.i64) (CTy.pair (CTy.int IntKind.i64) (CTy.int IntKind.i64))) y1)), (1, (.row true 172 (CTy.pair (CTy.int IntKind.i64) (CTy.pair (CTy.int IntKind.i64) (CTy.int IntKind.i64))) y2))]

def ktv : Nat → k46 → List (Nat × SV)
  | _, (_, _, _) => []

def ku4 : Nat → k46 → List (Nat × Entry)
  | _, (_, y1, y2) => [(0, (.row false 194 (CTy.pair (CTy.int IntKind.i64) (CTy.pair (CTy.int IntKind.i64) (CTy.int IntKind.i64))) y1)), (1, (.row true 172 (CTy.pair (CTy.int IntKind.i64) (CTy.pair (CTy.int IntKind.i64) (CTy.int IntKind.i64))) y2))]

def kcg : k46 → LT k46
  | (y0, y1, y2) => .ite (kar y0 y1) (.need [(kal y0), (kar y0 y1), (kdj y0 y1), (kal y0), (kdg y0 y2), (kdm y0 y2)] (.nrm ((kdb y0), y1, (kdd y0 y1 y2)) [(0, 0), (1, 1)])) (.ext 0 [(0, 0), (1, 1)])

def kjx (s : St) : Option k46 :=
  (match s.look 4 with
  | some ⟨none, (.one ⟨false, [(.val (.int IntKind.i64 y0))]⟩)⟩ =>
  (match s.look 0 with
  | some ⟨none, (.one ⟨false, [(.ref 0)]⟩)⟩ =>
  (match s.look 3 with
  | some ⟨none, (.one ⟨false, [(.ref 320)]⟩)⟩ =>
  (match s.ent 0 with
  | some (.row false 194 (CTy.pair (CTy.int IntKind.i64) (CTy.pair (CTy.int IntKind.i64) (CTy.int IntKind.i64))) y1) =>
  (match s.ent 320 with
  | some (.row true 172 (CTy.pair (CTy.int IntKind.i64) (CTy.pair (CTy.int IntKind.i64) (CTy.int IntKind.i64))) y2) =>
  some (y0, y1, y2)
  | _ => none)
  | _ => none)
  | _ => none)
  | _ => none)
  | _ => none)

def k2d : Lp k46 where
  h := ⟨[8, 9, 10, 11, 14, 15, 16, 17, 18, 19, 20, 21, 12, 13, 4], [0, 1], [], []⟩
  JL := ktu
  JE := kue
  XL := ktv
  XE := ku4
  q := fun j => match j with | _ => .exit 0
  tags := [0]
  lt := kcg
  fuel := fun (y0, y1, y2) => y0.natAbs + y1.length + y2.length
  fix := fun (_, y1, _) (y0, _, y2) => (y0, y1, y2)
  σ := [(0, 0), (1, 320)]
  rd := kjx

theorem ktc : LoopOk Tryz.prog (fun k => Nat.blt k Tryz.f102.ntmps) k2d.F (loopAt Tryz.f102 0) := by
  refine Lp.ok (tbl := [ks5]) (lf := []) hmix k2d (by kernel_rfl) (LOk.nil _) (fun _ => rfl) (fun _ _ => rfl) ?_ ?_ ?_ ?_ (fun _ => rfl) ?_
  · intro x; obtain ⟨y0, y1, y2⟩ := x; kernel_rfl
  · intro x; obtain ⟨y0, y1, y2⟩ := x; kernel_rfl
  · intro s x h
    have h : kjx s = some x := h
    unfold kjx at h
    repeat' split at h
    all_goals cases h
    exact ⟨absS_cons (by assumption) rfl (absS_cons (by assumption) rfl (absS_cons (by assumption) rfl (rfl))), absE_cons rfl (by assumption) rfl (absE_cons rfl (by assumption) rfl (rfl))⟩
  · intro x; obtain ⟨y0, y1, y2⟩ := x; kernel_rfl
  · intro x z; obtain ⟨y0, y1, y2⟩ := x; exact (And.intro rfl trivial)

def kib (x0 : List (Int × Int × Int)) : Int × List (Int × Int × Int) × List (Int × Int × Int) :=
  ((0 : Int), x0, List.replicate (Int.toNat (↑(List.length x0) : Int)) ((0 : Int), (0 : Int), (0 : Int)))

def kju (x0 : List (Int × Int × Int)) : List (Int × (Int × Int)) :=
  Prod.snd (Prod.snd (Prod.snd (Lp.res k2d (kib x0))))

def kjr (x0 : List (Int × Int × Int)) : Bool :=
  allT
  [leI (0 : Int) (↑(List.length x0) : Int), leI (↑(List.length x0) : Int) (↑(List.length x0) : Int),
    leI ((↑(24 : Nat) : Int) * (↑(List.length x0) : Int)) (281474976710656 : Int), leI (↑(List.length x0) : Int) (9223372036854775807 : Int),
    Lp.fin k2d (kib x0)]

def krc : List SV → List Entry → Option Out
  | [.one ⟨false, [.ref 0]⟩], [.row false 194 (.pair (.int .i64) (.pair (.int .i64) (.int .i64))) x0] => some ⟨(.one ⟨false, [(.ref 1)]⟩), [(.row false 194 (CTy.pair (CTy.int IntKind.i64) (CTy.pair (CTy.int IntKind.i64) (CTy.int IntKind.i64))) x0)], [(.row true 172 (CTy.pair (CTy.int IntKind.i64) (CTy.pair (CTy.int IntKind.i64) (CTy.int IntKind.i64))) (kju x0))], [(kjr x0)]⟩
  | _, _ => none

def ky7 : PF Tryz.prog := PF.ofG Tryz.prog [ks5] [k2d.F] hmix 102 Tryz.f102 Tryz.func102 (LOk.fnT (l := [loopAt Tryz.f102 0]) (by kernel_rfl) (.cons ktc (.nil _))) krc (by
  intro vs es r h; unfold krc at h; split at h
  · cases h; kernel_rfl
  · cases h)

abbrev k47 := Int × List (Int × (Int × Int)) × List (Int × (Int × Int))

def k7x (y0 : Int) (y1 : List (Int × (Int × Int))) : Int × Int × Int :=
  Option.getD y1[Int.toNat y0]? ((0 : Int), (0 : Int), (0 : Int))

def k7y (y0 : Int) (y2 : List (Int × (Int × Int))) : Int × Int × Int :=
  Option.getD y2[Int.toNat y0]? ((0 : Int), (0 : Int), (0 : Int))

def kas (y0 : Int) (y1 : List (Int × (Int × Int))) : Bool :=
  ltI y0 (↑(List.length y1) : Int)

def kan (y0 : Int) : Bool :=
  leI (0 : Int) y0

def kde (y0 : Int) (y1 : List (Int × (Int × Int))) : Bool :=
  ltN (Int.toNat y0) (List.length y1)

def kdi (y0 : Int) (y2 : List (Int × (Int × Int))) : Bool :=
  ltI y0 (↑(List.length y2) : Int)

def kdf (y0 : Int) (y2 : List (Int × (Int × Int))) : Bool :=
  ltN (Int.toNat y0) (List.length y2)

def kdl (y0 : Int) (y1 : List (Int × (Int × Int))) (y2 : List (Int × (Int × Int))) : Bool :=
  !khj (Prod.fst (k7x y0 y1)) (Prod.fst (Prod.snd (k7x y0 y1)))
    (Prod.snd (Prod.snd (k7x y0 y1))) (Prod.fst (k7y y0 y2))
    (Prod.fst (Prod.snd (k7y y0 y2))) (Prod.snd (Prod.snd (k7y y0 y2)))

def kdk (y0 : Int) : Int :=
  IntKind.wrap IntKind.i64 (y0 + (1 : Int))

def ku1 : k47 → List (Nat × SV)
  | (y0, _, _) => [(5, (.one ⟨false, [(.val (.int IntKind.i64 y0))]⟩)), (0, (.one ⟨false, [(.ref 0)]⟩)), (1, (.one ⟨false, [(.ref 1)]⟩))]

def kud : k47 → List (Nat × Entry)
  | (_, y1, y2) => [(0, (.row false 172 (CTy.pair (CTy.int IntKind.i64) (CTy.pair (CTy.int IntKind.i64) (CTy.int IntKind.i64))) y1)), (1, (.row false 172 (CTy.pair (CTy.int IntKind.i64) (CTy.pair (CTy.int IntKind.i64) (CTy.int IntKind.i64))) y2))]

def ku5 : Nat → k47 → List (Nat × SV)
  | 0, (_, _, _) => [(4, (.one ⟨false, [(.val (.bool false))]⟩))]
  | _, (_, _, _) => []

def ktx : Nat → k47 → List (Nat × Entry)
  | 0, (_, y1, y2) => [(0, (.row false 172 (CTy.pair (CTy.int IntKind.i64) (CTy.pair (CTy.int IntKind.i64) (CTy.int IntKind.i64))) y1)), (1, (.row false 172 (CTy.pair (CTy.int IntKind.i64) (CTy.pair (CTy.int IntKind.i64) (CTy.int IntKind.i64))) y2))]
  | _, (_, y1, y2) => [(0, (.row false 172 (CTy.pair (CTy.int IntKind.i64) (CTy.pair (CTy.int IntKind.i64) (CTy.int IntKind.i64))) y1)), (1, (.row false 172 (CTy.pair (CTy.int IntKind.i64) (CTy.pair (CTy.int IntKind.i64) (CTy.int IntKind.i64))) y2))]

def kcm : k47 → LT k47
  | (y0, y1, y2) => .ite (kas y0 y1) (.need [(kan y0), (kas y0 y1), (kde y0 y1), (kan y0), (kdi y0 y2), (kdf y0 y2)] (.ite (kdl y0 y1 y2) (.ext 0 [(0, 0), (1, 1)]) (.nrm ((kdk y0), y1, y2) [(0, 0), (1, 1)]))) (.ext 1 [(0, 0), (1, 1)])

def kjp (s : St) : Option k47 :=
  (match s.look 5 with
  | some ⟨none, (.one ⟨false, [(.val (.int IntKind.i64 y0))]⟩)⟩ =>
  (match s.look 0 with
  | some ⟨none, (.one ⟨false, [(.ref 0)]⟩)⟩ =>
  (match s.look 1 with
  | some ⟨none, (.one ⟨false, [(.ref 1)]⟩)⟩ =>
  (match s.ent 0 with
  | some (.row false 172 (CTy.pair (CTy.int IntKind.i64) (CTy.pair (CTy.int IntKind.i64) (CTy.int IntKind.i64))) y1) =>
  (match s.ent 1 with
  | some (.row false 172 (CTy.pair (CTy.int IntKind.i64) (CTy.pair (CTy.int IntKind.i64) (CTy.int IntKind.i64))) y2) =>
  some (y0, y1, y2)
  | _ => none)
  | _ => none)
  | _ => none)
  | _ => none)
  | _ => none)

def k26 : Lp k47 where
  h := ⟨[11, 12, 13, 14, 17, 18, 19, 20, 21, 22, 23, 24, 25, 26, 4, 15, 16, 5], [0, 1], [], []⟩
  JL := ku1
  JE := kud
  XL := ku5
  XE := ktx
  q := fun j => match j with | 0 => .ret | _ => .exit 0
  tags := [0, 1]
  lt := kcm
  fuel := fun (y0, y1, y2) => y0.natAbs + y1.length + y2.length
  fix := fun (_, y1, y2) (y0, _, _) => (y0, y1, y2)
  σ := [(0, 0), (1, 1)]
  rd := kjp

theorem kt2 : LoopOk Tryz.prog (fun k => Nat.blt k Tryz.f103.ntmps) k26.F (loopAt Tryz.f103 0) := by
  refine Lp.ok (tbl := [ks8]) (lf := []) hmix k26 (by kernel_rfl) (LOk.nil _) (fun _ => rfl) (fun j _ => by unfold k26; match j with | 0 => rfl | _ + 1 => rfl) ?_ ?_ ?_ ?_ (fun _ => rfl) ?_
  · intro x; obtain ⟨y0, y1, y2⟩ := x; kernel_rfl
  · intro x; obtain ⟨y0, y1, y2⟩ := x; kernel_rfl
  · intro s x h
    have h : kjp s = some x := h
    unfold kjp at h
    repeat' split at h
    all_goals cases h
    exact ⟨absS_cons (by assumption) rfl (absS_cons (by assumption) rfl (absS_cons (by assumption) rfl (rfl))), absE_cons rfl (by assumption) rfl (absE_cons rfl (by assumption) rfl (rfl))⟩
  · intro x; obtain ⟨y0, y1, y2⟩ := x; kernel_rfl
  · intro x z; obtain ⟨y0, y1, y2⟩ := x; exact (And.intro (And.intro trivial rfl) trivial)

def kid (x0 : List (Int × Int × Int)) (x1 : List (Int × Int × Int)) : Bool :=
  (↑(List.length x0) : Int) != (↑(List.length x1) : Int)

def ki9 (x0 : List (Int × Int × Int)) (x1 : List (Int × Int × Int)) : Int × List (Int × Int × Int) × List (Int × Int × Int) :=
  ((0 : Int), x0, x1)

def kjz (x0 : List (Int × Int × Int)) (x1 : List (Int × Int × Int)) : Bool :=
  bif kid x0 x1 then false
  else bif Nat.beq (Prod.fst (Lp.res k26 (ki9 x0 x1))) (0 : Nat) then false else true

def kjl (x0 : List (Int × Int × Int)) (x1 : List (Int × Int × Int)) : Bool :=
  allT [kid x0 x1 || Lp.fin k26 (ki9 x0 x1)]

def krg : List SV → List Entry → Option Out
  | [.one ⟨false, [.ref 0]⟩, .one ⟨false, [.ref 1]⟩], [.row false 172 (.pair (.int .i64) (.pair (.int .i64) (.int .i64))) x0, .row false 172 (.pair (.int .i64) (.pair (.int .i64) (.int .i64))) x1] => some ⟨(.one ⟨false, [(.val (.bool (kjz x0 x1)))]⟩), [(.row false 172 (CTy.pair (CTy.int IntKind.i64) (CTy.pair (CTy.int IntKind.i64) (CTy.int IntKind.i64))) x0), (.row false 172 (CTy.pair (CTy.int IntKind.i64) (CTy.pair (CTy.int IntKind.i64) (CTy.int IntKind.i64))) x1)], [], [(kjl x0 x1)]⟩
  | _, _ => none

def kxx : PF Tryz.prog := PF.ofG Tryz.prog [ks8] [k26.F] hmix 103 Tryz.f103 Tryz.func103 (LOk.fnT (l := [loopAt Tryz.f103 0]) (by kernel_rfl) (.cons kt2 (.nil _))) krg (by
  intro vs es r h; unfold krg at h; split at h
  · cases h; kernel_rfl
  · cases h)

abbrev k32 := Int × Int × List (Int × (Int × Int))

def k8m (y0 : Int) (y2 : List (Int × (Int × Int))) : Int × Int :=
  Prod.snd (Option.getD y2[Int.toNat y0]? ((0 : Int), (0 : Int), (0 : Int)))

def k4w (y0 : Int) (y1 : Int) (y2 : List (Int × (Int × Int))) : List (Int × Int × Int) :=
  List.set y2 (Int.toNat y0) (y1, Prod.fst (k8m y0 y2), Prod.snd (k8m y0 y2))

def k8n (y0 : Int) (y1 : Int) (y2 : List (Int × (Int × Int))) : Int × Int × Int :=
  Option.getD (k4w y0 y1 y2)[Int.toNat y0]? ((0 : Int), (0 : Int), (0 : Int))

def k8g (y1 : Int) : Int :=
  IntKind.wrap IntKind.i64 (y1 + (1 : Int))

def k50 (y0 : Int) (y1 : Int) (y2 : List (Int × (Int × Int))) : List (Int × Int × Int) :=
  List.set (k4w y0 y1 y2) (Int.toNat y0)
  (Prod.fst (k8n y0 y1 y2), k8g y1, Prod.snd (Prod.snd (k8n y0 y1 y2)))

def k8j (y1 : Int) : Int :=
  IntKind.wrap IntKind.i64 (k8g y1 + (1 : Int))

def k8l (y0 : Int) (y1 : Int) (y2 : List (Int × (Int × Int))) : Int × Int × Int :=
  Option.getD (k50 y0 y1 y2)[Int.toNat y0]? ((0 : Int), (0 : Int), (0 : Int))

def k98 (y0 : Int) (y2 : List (Int × (Int × Int))) : Bool :=
  ltI y0 (↑(List.length y2) : Int)

def k6t (y0 : Int) : Bool :=
  leI (0 : Int) y0

def kbu (y0 : Int) (y2 : List (Int × (Int × Int))) : Bool :=
  ltN (Int.toNat y0) (List.length y2)

def kbo (y0 : Int) (y1 : Int) (y2 : List (Int × (Int × Int))) : Bool :=
  ltI y0 (↑(List.length (k4w y0 y1 y2)) : Int)

def kbz (y0 : Int) (y1 : Int) (y2 : List (Int × (Int × Int))) : Bool :=
  ltN (Int.toNat y0) (List.length (k4w y0 y1 y2))

def kbx (y0 : Int) (y1 : Int) (y2 : List (Int × (Int × Int))) : Bool :=
  ltI y0 (↑(List.length (k50 y0 y1 y2)) : Int)

def kc5 (y0 : Int) (y1 : Int) (y2 : List (Int × (Int × Int))) : Bool :=
  ltN (Int.toNat y0) (List.length (k50 y0 y1 y2))

def kc6 (y0 : Int) : Int :=
  IntKind.wrap IntKind.i64 (y0 + (1 : Int))

def kc1 (y1 : Int) : Int :=
  IntKind.wrap IntKind.i64 (k8j y1 + (1 : Int))

def kbs (y0 : Int) (y1 : Int) (y2 : List (Int × (Int × Int))) : List (Int × (Int × Int)) :=
  List.set (k50 y0 y1 y2) (Int.toNat y0)
  (Prod.fst (k8l y0 y1 y2), Prod.fst (Prod.snd (k8l y0 y1 y2)), k8j y1)

def ksy : k32 → List (Nat × SV)
  | (y0, y1, _) => [(5, (.one ⟨false, [(.val (.int IntKind.i64 y0))]⟩)), (0, (.one ⟨false, [(.ref 0)]⟩)), (1, (.one ⟨false, [(.val (.int IntKind.i64 y1))]⟩))]

def kt3 : k32 → List (Nat × Entry)
  | (_, _, y2) => [(0, (.row true 172 (CTy.pair (CTy.int IntKind.i64) (CTy.pair (CTy.int IntKind.i64) (CTy.int IntKind.i64))) y2))]

def kt4 : Nat → k32 → List (Nat × SV)
  | _, (_, y1, _) => [(1, (.one ⟨false, [(.val (.int IntKind.i64 y1))]⟩))]

def ksp : Nat → k32 → List (Nat × Entry)
  | _, (_, _, y2) => [(0, (.row true 172 (CTy.pair (CTy.int IntKind.i64) (CTy.pair (CTy.int IntKind.i64) (CTy.int IntKind.i64))) y2))]

def kb8 : k32 → LT k32
  | (y0, y1, y2) => .ite (k98 y0 y2) (.need [(k6t y0), (k98 y0 y2), (kbu y0 y2)] (.need [(k6t y0), (kbo y0 y1 y2), (kbz y0 y1 y2)] (.need [(k6t y0), (kbx y0 y1 y2), (kc5 y0 y1 y2)] (.nrm ((kc6 y0), (kc1 y1), (kbs y0 y1 y2)) [(0, 0)])))) (.ext 0 [(0, 0)])

def ki5 (s : St) : Option k32 :=
  (match s.look 5 with
  | some ⟨none, (.one ⟨false, [(.val (.int IntKind.i64 y0))]⟩)⟩ =>
  (match s.look 0 with
  | some ⟨none, (.one ⟨false, [(.ref 0)]⟩)⟩ =>
  (match s.look 1 with
  | some ⟨none, (.one ⟨false, [(.val (.int IntKind.i64 y1))]⟩)⟩ =>
  (match s.ent 0 with
  | some (.row true 172 (CTy.pair (CTy.int IntKind.i64) (CTy.pair (CTy.int IntKind.i64) (CTy.int IntKind.i64))) y2) =>
  some (y0, y1, y2)
  | _ => none)
  | _ => none)
  | _ => none)
  | _ => none)

def k22 : Lp k32 where
  h := ⟨[6, 7, 8, 9, 12, 13, 14, 15, 16, 17, 18, 1, 19, 20, 21, 22, 23, 24, 25, 26, 27, 28, 29, 30, 31, 32, 10, 11, 5], [0], [], []⟩
  JL := ksy
  JE := kt3
  XL := kt4
  XE := ksp
  q := fun j => match j with | _ => .exit 0
  tags := [0]
  lt := kb8
  fuel := fun (y0, y1, y2) => y0.natAbs + y1.natAbs + y2.length
  fix := fun (_, _, _) (y0, y1, y2) => (y0, y1, y2)
  σ := [(0, 0)]
  rd := ki5

theorem kr5 : LoopOk Tryz.prog (fun k => Nat.blt k Tryz.f104.ntmps) k22.F (loopAt Tryz.f104 0) := by
  refine Lp.ok (tbl := []) (lf := []) hmix k22 (by kernel_rfl) (LOk.nil _) (fun _ => rfl) (fun _ _ => rfl) ?_ ?_ ?_ ?_ (fun _ => rfl) ?_
  · intro x; obtain ⟨y0, y1, y2⟩ := x; kernel_rfl
  · intro x; obtain ⟨y0, y1, y2⟩ := x; kernel_rfl
  · intro s x h
    have h : ki5 s = some x := h
    unfold ki5 at h
    repeat' split at h
    all_goals cases h
    exact ⟨absS_cons (by assumption) rfl (absS_cons (by assumption) rfl (absS_cons (by assumption) rfl (rfl))), absE_cons rfl (by assumption) rfl (rfl)⟩
  · intro x; obtain ⟨y0, y1, y2⟩ := x; kernel_rfl
  · intro x z; obtain ⟨y0, y1, y2⟩ := x; exact (And.intro rfl trivial)

def kd9 (x0 : Int) (x1 : List (Int × Int × Int)) : Int × Int × List (Int × Int × Int) :=
  ((0 : Int), x0, x1)

def kgt (x0 : Int) (x1 : List (Int × Int × Int)) : Int × List (Int × Int × Int) :=
  Prod.snd (Prod.snd (Lp.res k22 (kd9 x0 x1)))

def klz (x0 : Int) (x1 : List (Int × Int × Int)) : Int :=
  Prod.fst (kgt x0 x1)

def kma (x0 : Int) (x1 : List (Int × Int × Int)) : List (Int × (Int × Int)) :=
  Prod.snd (kgt x0 x1)

def klw (x0 : Int) (x1 : List (Int × Int × Int)) : Bool :=
  allT [Lp.fin k22 (kd9 x0 x1)]

def kq4 : List SV → List Entry → Option Out
  | [.one ⟨false, [.ref 0]⟩, .one ⟨false, [.val (.int .i64 x0)]⟩], [.row true 172 (.pair (.int .i64) (.pair (.int .i64) (.int .i64))) x1] => some ⟨(.one ⟨false, [(.val (.int IntKind.i64 (klz x0 x1)))]⟩), [(.row true 172 (CTy.pair (CTy.int IntKind.i64) (CTy.pair (CTy.int IntKind.i64) (CTy.int IntKind.i64))) (kma x0 x1))], [], [(klw x0 x1)]⟩
  | _, _ => none

def kvo : PF Tryz.prog := PF.ofG Tryz.prog [] [k22.F] hmix 104 Tryz.f104 Tryz.func104 (LOk.fnT (l := [loopAt Tryz.f104 0]) (by kernel_rfl) (.cons kr5 (.nil _))) kq4 (by
  intro vs es r h; unfold kq4 at h; split at h
  · cases h; kernel_rfl
  · cases h)

abbrev k31 := Int × Int × List (Int × (Int × Int))

def k6f (y0 : Int) (y2 : List (Int × (Int × Int))) : Int × Int × Int :=
  Option.getD y2[Int.toNat y0]? ((0 : Int), (0 : Int), (0 : Int))

def k8p (y1 : Int) : Int :=
  IntKind.wrap IntKind.i64 (y1 + (1 : Int))

def k8q (y1 : Int) : Int :=
  IntKind.wrap IntKind.i64 (k8p y1 + (1 : Int))

def k5t (y0 : Int) (y2 : List (Int × (Int × Int))) : Bool :=
  ltI y0 (↑(List.length y2) : Int)

def k6w (y0 : Int) : Bool :=
  leI (0 : Int) y0

def k73 (y0 : Int) (y2 : List (Int × (Int × Int))) : Bool :=
  ltN (Int.toNat y0) (List.length y2)

def kbn (y0 : Int) (y1 : Int) (y2 : List (Int × (Int × Int))) : Bool :=
  Prod.fst (k6f y0 y2) != y1

def k30  : Int :=
  (-1 : Int)

def kbt (y0 : Int) (y1 : Int) (y2 : List (Int × (Int × Int))) : Bool :=
  Prod.fst (Prod.snd (k6f y0 y2)) != k8p y1

def kc0 (y0 : Int) (y1 : Int) (y2 : List (Int × (Int × Int))) : Bool :=
  Prod.snd (Prod.snd (k6f y0 y2)) != k8q y1

def kby (y0 : Int) : Int :=
  IntKind.wrap IntKind.i64 (y0 + (1 : Int))

def kbq (y1 : Int) : Int :=
  IntKind.wrap IntKind.i64 (k8q y1 + (1 : Int))

def kt0 : k31 → List (Nat × SV)
  | (y0, y1, _) => [(5, (.one ⟨false, [(.val (.int IntKind.i64 y0))]⟩)), (0, (.one ⟨false, [(.ref 0)]⟩)), (1, (.one ⟨false, [(.val (.int IntKind.i64 y1))]⟩))]

def ktd : k31 → List (Nat × Entry)
  | (_, _, y2) => [(0, (.row false 172 (CTy.pair (CTy.int IntKind.i64) (CTy.pair (CTy.int IntKind.i64) (CTy.int IntKind.i64))) y2))]

def ksq : Nat → k31 → List (Nat × SV)
  | 0, (_, _, _) => [(4, (.one ⟨false, [(.val (.int IntKind.i64 (k30)))]⟩))]
  | 1, (_, _, _) => [(4, (.one ⟨false, [(.val (.int IntKind.i64 (k30)))]⟩))]
  | 2, (_, _, _) => [(4, (.one ⟨false, [(.val (.int IntKind.i64 (k30)))]⟩))]
  | _, (_, y1, _) => [(1, (.one ⟨false, [(.val (.int IntKind.i64 y1))]⟩))]

def kt7 : Nat → k31 → List (Nat × Entry)
  | 0, (_, _, y2) => [(0, (.row false 172 (CTy.pair (CTy.int IntKind.i64) (CTy.pair (CTy.int IntKind.i64) (CTy.int IntKind.i64))) y2))]
  | 1, (_, _, y2) => [(0, (.row false 172 (CTy.pair (CTy.int IntKind.i64) (CTy.pair (CTy.int IntKind.i64) (CTy.int IntKind.i64))) y2))]
  | 2, (_, _, y2) => [(0, (.row false 172 (CTy.pair (CTy.int IntKind.i64) (CTy.pair (CTy.int IntKind.i64) (CTy.int IntKind.i64))) y2))]
  | _, (_, _, y2) => [(0, (.row false 172 (CTy.pair (CTy.int IntKind.i64) (CTy.pair (CTy.int IntKind.i64) (CTy.int IntKind.i64))) y2))]

def kb9 : k31 → LT k31
  | (y0, y1, y2) => .ite (k5t y0 y2) (.need [(k6w y0), (k5t y0 y2), (k73 y0 y2)] (.ite (kbn y0 y1 y2) (.ext 0 [(0, 0)]) (.need [(k6w y0), (k5t y0 y2), (k73 y0 y2)] (.ite (kbt y0 y1 y2) (.ext 1 [(0, 0)]) (.need [(k6w y0), (k5t y0 y2), (k73 y0 y2)] (.ite (kc0 y0 y1 y2) (.ext 2 [(0, 0)]) (.nrm ((kby y0), (kbq y1), y2) [(0, 0)]))))))) (.ext 3 [(0, 0)])

def ki4 (s : St) : Option k31 :=
  (match s.look 5 with
  | some ⟨none, (.one ⟨false, [(.val (.int IntKind.i64 y0))]⟩)⟩ =>
  (match s.look 0 with
  | some ⟨none, (.one ⟨false, [(.ref 0)]⟩)⟩ =>
  (match s.look 1 with
  | some ⟨none, (.one ⟨false, [(.val (.int IntKind.i64 y1))]⟩)⟩ =>
  (match s.ent 0 with
  | some (.row false 172 (CTy.pair (CTy.int IntKind.i64) (CTy.pair (CTy.int IntKind.i64) (CTy.int IntKind.i64))) y2) =>
  some (y0, y1, y2)
  | _ => none)
  | _ => none)
  | _ => none)
  | _ => none)

def k1j : Lp k31 where
  h := ⟨[6, 7, 8, 9, 12, 13, 14, 15, 16, 17, 18, 4, 19, 20, 1, 21, 22, 23, 24, 25, 26, 27, 28, 29, 30, 31, 32, 33, 34, 35, 36, 37, 38, 10, 11, 5], [0], [], []⟩
  JL := kt0
  JE := ktd
  XL := ksq
  XE := kt7
  q := fun j => match j with | 0 => .ret | 1 => .ret | 2 => .ret | _ => .exit 0
  tags := [0, 1, 2, 3]
  lt := kb9
  fuel := fun (y0, y1, y2) => y0.natAbs + y1.natAbs + y2.length
  fix := fun (_, _, y2) (y0, y1, _) => (y0, y1, y2)
  σ := [(0, 0)]
  rd := ki4

theorem krl : LoopOk Tryz.prog (fun k => Nat.blt k Tryz.f105.ntmps) k1j.F (loopAt Tryz.f105 0) := by
  refine Lp.ok (tbl := []) (lf := []) hmix k1j (by kernel_rfl) (LOk.nil _) (fun _ => rfl) (fun j _ => by unfold k1j; match j with | 0 => rfl | 1 => rfl | 2 => rfl | _ + 3 => rfl) ?_ ?_ ?_ ?_ (fun _ => rfl) ?_
  · intro x; obtain ⟨y0, y1, y2⟩ := x; kernel_rfl
  · intro x; obtain ⟨y0, y1, y2⟩ := x; kernel_rfl
  · intro s x h
    have h : ki4 s = some x := h
    unfold ki4 at h
    repeat' split at h
    all_goals cases h
    exact ⟨absS_cons (by assumption) rfl (absS_cons (by assumption) rfl (absS_cons (by assumption) rfl (rfl))), absE_cons rfl (by assumption) rfl (rfl)⟩
  · intro x; obtain ⟨y0, y1, y2⟩ := x; kernel_rfl
  · intro x z; obtain ⟨y0, y1, y2⟩ := x; exact (And.intro (And.intro trivial (And.intro trivial (And.intro trivial rfl))) trivial)

def k8v (x0 : Int) (x1 : List (Int × Int × Int)) : Int × Int × List (Int × Int × Int) :=
  ((0 : Int), x0, x1)

def khl (x0 : Int) (x1 : List (Int × Int × Int)) : Int :=
  bif Nat.beq (Prod.fst (Lp.res k1j (k8v x0 x1))) (0 : Nat) then k30
  else
  bif Nat.beq (Prod.fst (Lp.res k1j (k8v x0 x1))) (1 : Nat) then k30
  else
    bif Nat.beq (Prod.fst (Lp.res k1j (k8v x0 x1))) (2 : Nat) then k30
    else Prod.fst (Prod.snd (Prod.snd (Lp.res k1j (k8v x0 x1))))

def km7 (x0 : Int) (x1 : List (Int × Int × Int)) : Bool :=
  allT [Lp.fin k1j (k8v x0 x1)]

def kpz : List SV → List Entry → Option Out
  | [.one ⟨false, [.ref 0]⟩, .one ⟨false, [.val (.int .i64 x0)]⟩], [.row false 172 (.pair (.int .i64) (.pair (.int .i64) (.int .i64))) x1] => some ⟨(.one ⟨false, [(.val (.int IntKind.i64 (khl x0 x1)))]⟩), [(.row false 172 (CTy.pair (CTy.int IntKind.i64) (CTy.pair (CTy.int IntKind.i64) (CTy.int IntKind.i64))) x1)], [], [(km7 x0 x1)]⟩
  | _, _ => none

def kw5 : PF Tryz.prog := PF.ofG Tryz.prog [] [k1j.F] hmix 105 Tryz.f105 Tryz.func105 (LOk.fnT (l := [loopAt Tryz.f105 0]) (by kernel_rfl) (.cons krl (.nil _))) kpz (by
  intro vs es r h; unfold kpz at h; split at h
  · cases h; kernel_rfl
  · cases h)

end Go.SX

namespace Go.SX
open Go.Proofs
set_option maxRecDepth 100000

/-- A block's state. -/
abbrev BS := Int × Int × Int

def nextB (k n : Int) (l : List Int) (s : BS) : BS := (k66 k n s.1 s.2.1 s.2.2 l, k65 k s.2.1 s.2.2 l, k60 k n s.1 s.2.2 l)
def valB (k n : Int) (l : List Int) (s : BS) : Int := k45 k n s.1 s.2.1 s.2.2 l

theorem k15z {k n a b c : Int} {s : ByteArray} {l : List Int} (hB : blockB k s n = true) (hP : possB k n a b c = true) (hA : bitsB (takesK k) l = true) :
    (klc k n a b c l, kl8 k b c l, kl7 k n a b c l) = nextB k n l (a, b, c) ∧ possB k n (nextB k n l (a, b, c)).1 (nextB k n l (a, b, c)).2.1 (nextB k n l (a, b, c)).2.2 = true := by
  obtain ⟨_, e1, e2, e3, _, _, e6⟩ := k150 hB hP hA
  exact ⟨by rw [e1, e2, e3]; rfl, e6⟩

end Go.SX

namespace Go.SX
open Go.Proofs
set_option maxRecDepth 100000

/-- A loop of few rounds, by what stays true. -/
theorem Lp.inv {X : Type} (p : Lp X) (I : Nat → X → Prop) (Q : Nat → X → Prop)
    (hs : ∀ k x, I (k + 1) x → (∃ j, (p.lt x).out = some (.inl j) ∧ Q j x) ∨ ∃ y, (p.lt x).out = some (.inr y) ∧ I k y)
    (he : ∀ x, I 0 x → ∃ j, (p.lt x).out = some (.inl j) ∧ Q j x) (N : Nat) (x : X) (hN : N ≤ 999) (h : I N x) :
    p.fin x = true ∧ ∃ j y, p.res x = (j, y) ∧ Q j y := by
  have key : ∀ (k : Nat) (x : X), I k x → ∃ j y, runL p.lt (k + 1) x = some (j, y) ∧ Q j y := by
    intro k
    induction k with
    | zero =>
      intro x h
      obtain ⟨j, h1, h2⟩ := he x h
      exact ⟨j, x, runL_end _ h1, h2⟩
    | succ k ih =>
      intro x h
      rcases hs k x h with ⟨j, h1, h2⟩ | ⟨y, h1, h2⟩
      · exact ⟨j, x, runL_end _ h1, h2⟩
      · obtain ⟨j, z, h3, h4⟩ := ih y h2
        exact ⟨j, z, by rw [runL_next _ h1]; exact h3, h4⟩
  obtain ⟨j, y, h1, h2⟩ := key N x h
  obtain ⟨r1, r2⟩ := p.run h1 (le_big (by omega))
  exact ⟨r1, j, y, r2, h2⟩

abbrev TM := Int × ByteArray × Int

theorem k15y {a b : ByteArray} : a.toList = b.toList ↔ a = b := by
  constructor
  · intro h
    rw [Go.Lib.toList_data, Go.Lib.toList_data] at h
    exact ByteArray.ext (Array.toList_inj.1 h)
  · intro h; rw [h]

theorem k14s (N : Nat) (hN : N ≤ 20) (k : Int) (h0 : 0 ≤ k) (hm : k ≤ 9223372036854775807) (hk : k < 10 ^ N) (s : ByteArray) (hs : s.size = 0) :
    k62.fin (k, s) = true ∧ ∃ j r, k62.res (k, s) = (j, r) ∧ r.2.size ≤ 20 := by
  refine k62.inv (fun m x => (0 ≤ x.1 ∧ x.1 < 10 ^ m) ∧ (m ≤ N ∧ x.1 ≤ 9223372036854775807) ∧ x.2.size ≤ N - m) (fun _ r => r.2.size ≤ 20) (fun m x hx => ?_) (fun x hx => ?_) N _ (by omega) ⟨⟨h0, hk⟩, ⟨Nat.le_refl _, hm⟩, by simp only; omega⟩
  · obtain ⟨y0, y1⟩ := x
    obtain ⟨⟨h1, h2⟩, ⟨hm, hm2⟩, hl⟩ := hx
    simp only at h1 h2 hl hm2
    by_cases hz : 0 < y0
    · refine .inr ⟨(Int.tdiv y0 10, kag y0 ++ y1), ?_, ⟨?_, ?_⟩, ⟨by omega, ?_⟩, ?_⟩
      · have t1 : ltI 0 y0 = true := ltI_t hz
        have hsz : (kag y0).size = 1 := by simp [kag, strOfNums_size]
        have t2 : leN ((kag y0).size + y1.size) 9223372036854775807 = true := leN_t (by omega)
        have hw : IntKind.i64.wrap (Int.tdiv y0 10) = Int.tdiv y0 10 := by
          rw [Int.tdiv_eq_ediv_of_nonneg h1]; exact wrap_i64 (by omega) (by omega)
        simp only [k62, klo, LT.out, kmp, kow, kth, ktq, ktf, t1, t2, hw, allT, cond_true]
        rfl
      · simp only; rw [Int.tdiv_eq_ediv_of_nonneg h1]; omega
      · simp only; rw [Int.tdiv_eq_ediv_of_nonneg h1]
        rw [Int.pow_succ] at h2; omega
      · simp only; rw [Int.tdiv_eq_ediv_of_nonneg h1]; omega
      · have hsz : (kag y0).size = 1 := by simp [kag, strOfNums_size]
        simp only [ByteArray.size_append, hsz]; omega
    · refine .inl ⟨0, ?_, by simp only; omega⟩
      simp [k62, klo, LT.out, kmp, show ltI 0 y0 = false from ltI_f (by omega)]
  · obtain ⟨y0, y1⟩ := x
    obtain ⟨⟨h1, h2⟩, ⟨hm, hm2⟩, hl⟩ := hx
    simp only at h1 h2 hl hm2
    have : y0 = 0 := by simp at h2; omega
    subst this
    exact ⟨0, by simp [k62, klo, LT.out, kmp], by simp only; omega⟩

theorem k15p (k : Int) (h : (leI 0 k && leI k 9223372036854775807) = true) : kna k = true := by
  simp only [Bool.and_eq_true, leI_iff] at h
  obtain ⟨w1, j, r, w2, w3⟩ := k14s 20 (by omega) k h.1 h.2 (by omega) ⟨#[]⟩ rfl
  simp only [kna, kro, w1, w2, allT, Bool.or_true, cond_true, Bool.or_eq_true]
  have : leN (ByteArray.size ⟨#[109]⟩ + r.2.size) 9223372036854775807 = true := leN_t (by have : (ByteArray.size ⟨#[109]⟩) = 1 := rfl; omega)
  simp [this]

def totT : List TM → Nat
  | [] => 0
  | t :: r => t.2.1.size + totT r

def eqTs (xs ys : List (Int × ByteArray × Int)) : Bool := decide (xs = ys)
theorem k146 (xs : List (Int × ByteArray × Int)) : eqTs xs xs = true := by simp [eqTs]

def keu (y1 : List (Int × (ByteArray × Int))) (b : Nat) : (List (Int × (ByteArray × Int))) → Nat ⊕ (List (Int × (ByteArray × Int)))
  | y2 => (.inr ((List.set y2 (b) (Prod.fst ((Option.getD y1[b]? ((0 : Int), ByteArray.empty, (0 : Int)))), Prod.fst (Prod.snd ((Option.getD y1[b]? ((0 : Int), ByteArray.empty, (0 : Int))))), Prod.snd (Prod.snd ((Option.getD y1[b]? ((0 : Int), ByteArray.empty, (0 : Int)))))))))

def kbp (y1 : List (Int × (ByteArray × Int))) (i : Nat) : (List (Int × (ByteArray × Int))) → k9s
  | y2 => ((i : Int), y1, y2)

def kpc : k9s → List (Int × (ByteArray × Int))
  | (_, _, y2) => y2

theorem k11g (y1 : List (Int × (ByteArray × Int))) (y2 : List (Int × (ByteArray × Int))) (hn : y1.length ≤ 9223372036854775807) (hl : y2.length = y1.length) :
    k55.fin ((0 : Int), y1, y2) = true ∧ k55.res ((0 : Int), y1, y2) = ((walkL (keu y1) 0 (List.range y1.length) 0 y2).1, (kbp y1) (walkL (keu y1) 0 (List.range y1.length) 0 y2).2.1 (walkL (keu y1) 0 (List.range y1.length) 0 y2).2.2) := by
  have key := k55.along (kbp y1) kpc (keu y1) 0 (fun _ a => a.length = y1.length) (List.range y1.length) y2 hl (by simp only [k55, kbp, List.length_range]; omega) (fun i b a hb hI => ?_) (fun a hI => ?_)
  · exact key
  · obtain y2 := a
    obtain ⟨rfl, hlt⟩ := range_get hb
    have hw : IntKind.i64.wrap ((b : Int) + 1) = ((b + 1 : Nat) : Int) := by rw [wrap_i64 (by omega) (by omega)]; omega
    have hdec : ltI (b : Int) (y1.length : Int) = true := ltI_t (by omega)
    have hnn : leI (0 : Int) (b : Int) = true := leI_t (by omega)
    have hltd : ltN b y1.length = true := ltN_t (by omega)
    refine ⟨?_, ?_, ?_, ?_⟩
    · simp [kdw, kgz, kh5, kkm, kkq, kk6, kkp, kks, kj0, k55, LT.nds, allT, kbp, hdec, hnn, hltd, hI]
    · simp [kdw, kgz, kh5, kkm, kkq, kk6, kkp, kks, kj0, k55, LT.each, kbp, kpc, hw, hI]
    · simp only [kdw, kgz, kh5, kkm, kkq, kk6, kkp, kks, kj0, k55, LT.fn, kbp, kpc, keu, Int.toNat_natCast, hdec, cond_true]
    · intro a' hf; simp only [keu, Sum.inr.injEq] at hf; subst hf; simpa using hI
  · obtain y2 := a
    simp [kdw, kgz, kh5, kkm, kkq, kk6, kkp, kks, kj0, k55, LT.out, kbp, List.length_range]

def kh4 (y1 : List (Int × (ByteArray × Int))) (y2 : List (Int × (ByteArray × Int))) (b : Nat) : (Unit) → Nat ⊕ (Unit)
  | _ => (bif ((!kq1 (Prod.fst ((Option.getD y1[b]? ((0 : Int), ByteArray.empty, (0 : Int))))) (Prod.fst (Prod.snd ((Option.getD y1[b]? ((0 : Int), ByteArray.empty, (0 : Int)))))) (Prod.snd (Prod.snd ((Option.getD y1[b]? ((0 : Int), ByteArray.empty, (0 : Int)))))) (Prod.fst ((Option.getD y2[b]? ((0 : Int), ByteArray.empty, (0 : Int))))) (Prod.fst (Prod.snd ((Option.getD y2[b]? ((0 : Int), ByteArray.empty, (0 : Int)))))) (Prod.snd (Prod.snd ((Option.getD y2[b]? ((0 : Int), ByteArray.empty, (0 : Int)))))))) then (.inl 0) else (.inr ()))

def kdy (y1 : List (Int × (ByteArray × Int))) (y2 : List (Int × (ByteArray × Int))) (i : Nat) : (Unit) → k9r
  | _ => ((i : Int), y1, y2)

def kp1 : k9r → Unit
  | (_, _, _) => ()

theorem k11h (y1 : List (Int × (ByteArray × Int))) (y2 : List (Int × (ByteArray × Int)))  (hn : y1.length ≤ 9223372036854775807) (he : y2.length = y1.length) :
    k43.fin ((0 : Int), y1, y2) = true ∧ k43.res ((0 : Int), y1, y2) = ((walkL (kh4 y1 y2) 1 (List.range y1.length) 0 ()).1, (kdy y1 y2) (walkL (kh4 y1 y2) 1 (List.range y1.length) 0 ()).2.1 (walkL (kh4 y1 y2) 1 (List.range y1.length) 0 ()).2.2) := by
  have key := k43.along (kdy y1 y2) kp1 (kh4 y1 y2) 1 (fun _ _ => True) (List.range y1.length) () (by trivial) (by simp only [k43, kdy, List.length_range]; omega) (fun i b a hb hI => ?_) (fun a hI => ?_)
  · exact key
  · obtain ⟨⟩ := a
    obtain ⟨rfl, hlt⟩ := range_get hb
    have hw : IntKind.i64.wrap ((b : Int) + 1) = ((b + 1 : Nat) : Int) := by rw [wrap_i64 (by omega) (by omega)]; omega
    have hdec : ltI (b : Int) (y1.length : Int) = true := ltI_t (by omega)
    have hnn : leI (0 : Int) (b : Int) = true := leI_t (by omega)
    have hltd : ltN b y1.length = true := ltN_t (by omega)
    refine ⟨?_, ?_, ?_, ?_⟩
    · simp [kdp, kds, kh7, kh6, kl1, kke, kkc, kkh, kkv, kit, k43, LT.nds, allT, kdy, hdec, hnn, hltd, he]
    · simp [kdp, kds, kh7, kh6, kl1, kke, kkc, kkh, kkv, kit, k43, LT.each, kdy, kp1, hw, he]
    · simp only [kdp, kds, kh7, kh6, kl1, kke, kkc, kkh, kkv, kit, k43, LT.fn, kdy, kp1, kh4, Int.toNat_natCast, hdec, cond_true]
    · exact fun _ _ => trivial
  · obtain ⟨⟩ := a
    simp [kdp, kds, kh7, kh6, kl1, kke, kkc, kkh, kkv, kit, k43, LT.out, kdy, List.length_range]

theorem k14o (xs : List (Int × ByteArray × Int)) (hn : leN xs.length 1048576 = true) : kr2 xs = xs ∧ kqr xs = true := by
  have hn := leN_iff.1 hn
  have hr : (List.replicate (Int.toNat (xs.length : Int)) ((0 : Int), (⟨#[]⟩ : ByteArray), (0 : Int))).length = xs.length := by simp
  obtain ⟨w1, w2⟩ := k11g xs (List.replicate (Int.toNat (xs.length : Int)) ((0 : Int), (⟨#[]⟩ : ByteArray), (0 : Int))) (by omega) hr
  have hc := walk_copy (xs := xs) (d := ((0 : Int), (⟨#[]⟩ : ByteArray), (0 : Int))) (g := fun x => x) (f := keu xs) (e := 0) (fun b a => rfl) hr
  rw [hc] at w2
  refine ⟨?_, ?_⟩
  · simp only [kpq, kr2, kqr, w2, kbp]; simp
  · simp only [kpq, kr2, kqr, w1, allT]; simp; omega

def kyt : List SV → List Entry → Option Out
  | [.one ⟨false, [.ref 0]⟩], [.row false 175 (.pair (.int .i64) (.pair (.str) (.int .i64))) x0] => some ⟨(.one ⟨false, [(.ref 1)]⟩), [(.row false 175 (CTy.pair (CTy.int IntKind.i64) (CTy.pair CTy.str (CTy.int IntKind.i64))) x0)], [(.row true 178 (CTy.pair (CTy.int IntKind.i64) (CTy.pair CTy.str (CTy.int IntKind.i64))) (x0))], [leN x0.length 1048576]⟩
  | _, _ => none

def kun : PF Tryz.prog := PF.alt k135 kyt (by
  intro args es o h hnd; unfold kyt at h; split at h
  · rename_i x0
    cases h
    have hnd := nd_fst hnd
    have hh := k14o x0 hnd
    obtain ⟨e0, en⟩ := hh
    exact altok rfl (nd_one en) rfl rfl (by simp only [e0] <;> rfl)
  · cases h)

theorem k14z (xs ys : List (Int × ByteArray × Int)) (hn : leN xs.length 9223372036854775807 = true) : kqx xs ys = eqTs xs ys ∧ kqu xs ys = true := by
  have hn := leN_iff.1 hn
  unfold eqTs
  have h3 : ∀ a b : Int × ByteArray × Int, (!kq1 a.1 a.2.1 a.2.2 b.1 b.2.1 b.2.2) = !decide (a = b) := fun a b => by
    obtain ⟨a1, a2, a3⟩ := a; obtain ⟨b1, b2, b3⟩ := b
    simp only [kq1, Prod.mk.injEq]
    by_cases h1 : a1 = b1 <;> by_cases h2 : a2 = b2 <;> by_cases h3 : a3 = b3 <;> simp [h1, h2, h3, k15y]
  by_cases hl : ys.length = xs.length
  · obtain ⟨w1, w2⟩ := k11h xs ys hn hl
    have ha := any_ne (d := ((0 : Int), ByteArray.empty, (0 : Int))) hl (P := fun b => !decide (Option.getD xs[b]? ((0 : Int), ByteArray.empty, (0 : Int)) = Option.getD ys[b]? ((0 : Int), ByteArray.empty, (0 : Int)))) (fun b => rfl)
    rw [walk_stop (P := fun b => !decide (Option.getD xs[b]? ((0 : Int), ByteArray.empty, (0 : Int)) = Option.getD ys[b]? ((0 : Int), ByteArray.empty, (0 : Int)))) (j := 0) (fun b => by simp only [kh4, h3]), ha] at w2
    simp only [kpo, kpi, kqx, kqu, w1, w2, allT]
    by_cases he : xs = ys
    · subst he; simp; decide
    · simp [he, hl]
  · have hne : xs ≠ ys := fun h => hl (by rw [h])
    simp [kpo, kpi, kqx, kqu, allT, hne]
    omega

def kyq : List SV → List Entry → Option Out
  | [.one ⟨false, [.ref 0]⟩, .one ⟨false, [.ref 1]⟩], [.row false 178 (.pair (.int .i64) (.pair (.str) (.int .i64))) x0, .row false 178 (.pair (.int .i64) (.pair (.str) (.int .i64))) x1] => some ⟨(.one ⟨false, [(.val (.bool (eqTs x0 x1)))]⟩), [(.row false 178 (CTy.pair (CTy.int IntKind.i64) (CTy.pair CTy.str (CTy.int IntKind.i64))) x0), (.row false 178 (CTy.pair (CTy.int IntKind.i64) (CTy.pair CTy.str (CTy.int IntKind.i64))) x1)], [], [leN x0.length 9223372036854775807]⟩
  | _, _ => none

def ku6 : PF Tryz.prog := PF.alt k130 kyq (by
  intro args es o h hnd; unfold kyq at h; split at h
  · rename_i x0 x1
    cases h
    have hnd := nd_fst hnd
    have hh := k14z x0 x1 hnd
    obtain ⟨e0, en⟩ := hh
    exact altok rfl (nd_one en) (by simp only [e0] <;> rfl) rfl rfl
  · cases h)

def eqIs (xs ys : List (Int × Int)) : Bool := decide (xs = ys)
theorem k15b (xs : List (Int × Int)) : eqIs xs xs = true := by simp [eqIs]

def k7z (y1 : List (Int × Int)) (b : Nat) : (List (Int × Int)) → Nat ⊕ (List (Int × Int))
  | y2 => (.inr ((List.set y2 (b) (Prod.fst ((Option.getD y1[b]? ((0 : Int), (0 : Int)))), Prod.snd ((Option.getD y1[b]? ((0 : Int), (0 : Int))))))))

def k5s (y1 : List (Int × Int)) (i : Nat) : (List (Int × Int)) → k3n
  | y2 => ((i : Int), y1, y2)

def kie : k3n → List (Int × Int)
  | (_, _, y2) => y2

theorem ktw (y1 : List (Int × Int)) (y2 : List (Int × Int)) (hn : y1.length ≤ 9223372036854775807) (hl : y2.length = y1.length) :
    k29.fin ((0 : Int), y1, y2) = true ∧ k29.res ((0 : Int), y1, y2) = ((walkL (k7z y1) 0 (List.range y1.length) 0 y2).1, (k5s y1) (walkL (k7z y1) 0 (List.range y1.length) 0 y2).2.1 (walkL (k7z y1) 0 (List.range y1.length) 0 y2).2.2) := by
  have key := k29.along (k5s y1) kie (k7z y1) 0 (fun _ a => a.length = y1.length) (List.range y1.length) y2 hl (by simp only [k29, k5s, List.length_range]; omega) (fun i b a hb hI => ?_) (fun a hI => ?_)
  · exact key
  · obtain y2 := a
    obtain ⟨rfl, hlt⟩ := range_get hb
    have hw : IntKind.i64.wrap ((b : Int) + 1) = ((b + 1 : Nat) : Int) := by rw [wrap_i64 (by omega) (by omega)]; omega
    have hdec : ltI (b : Int) (y1.length : Int) = true := ltI_t (by omega)
    have hnn : leI (0 : Int) (b : Int) = true := leI_t (by omega)
    have hltd : ltN b y1.length = true := ltN_t (by omega)
    refine ⟨?_, ?_, ?_, ?_⟩
    · simp [k95, k9w, ka0, kce, kcc, kcl, kcb, kcs, kbw, k29, LT.nds, allT, k5s, hdec, hnn, hltd, hI]
    · simp [k95, k9w, ka0, kce, kcc, kcl, kcb, kcs, kbw, k29, LT.each, k5s, kie, hw, hI]
    · simp only [k95, k9w, ka0, kce, kcc, kcl, kcb, kcs, kbw, k29, LT.fn, k5s, kie, k7z, Int.toNat_natCast, hdec, cond_true]
    · intro a' hf; simp only [k7z, Sum.inr.injEq] at hf; subst hf; simpa using hI
  · obtain y2 := a
    simp [k95, k9w, ka0, kce, kcc, kcl, kcb, kcs, kbw, k29, LT.out, k5s, List.length_range]

def ka2 (y1 : List (Int × Int)) (y2 : List (Int × Int)) (b : Nat) : (Unit) → Nat ⊕ (Unit)
  | _ => (bif ((!kg8 (Prod.fst ((Option.getD y1[b]? ((0 : Int), (0 : Int))))) (Prod.snd ((Option.getD y1[b]? ((0 : Int), (0 : Int))))) (Prod.fst ((Option.getD y2[b]? ((0 : Int), (0 : Int))))) (Prod.snd ((Option.getD y2[b]? ((0 : Int), (0 : Int))))))) then (.inl 0) else (.inr ()))

def k75 (y1 : List (Int × Int)) (y2 : List (Int × Int)) (i : Nat) : (Unit) → k3m
  | _ => ((i : Int), y1, y2)

def kiy : k3m → Unit
  | (_, _, _) => ()

theorem kuo (y1 : List (Int × Int)) (y2 : List (Int × Int))  (hn : y1.length ≤ 9223372036854775807) (he : y2.length = y1.length) :
    k1z.fin ((0 : Int), y1, y2) = true ∧ k1z.res ((0 : Int), y1, y2) = ((walkL (ka2 y1 y2) 1 (List.range y1.length) 0 ()).1, (k75 y1 y2) (walkL (ka2 y1 y2) 1 (List.range y1.length) 0 ()).2.1 (walkL (ka2 y1 y2) 1 (List.range y1.length) 0 ()).2.2) := by
  have key := k1z.along (k75 y1 y2) kiy (ka2 y1 y2) 1 (fun _ _ => True) (List.range y1.length) () (by trivial) (by simp only [k1z, k75, List.length_range]; omega) (fun i b a hb hI => ?_) (fun a hI => ?_)
  · exact key
  · obtain ⟨⟩ := a
    obtain ⟨rfl, hlt⟩ := range_get hb
    have hw : IntKind.i64.wrap ((b : Int) + 1) = ((b + 1 : Nat) : Int) := by rw [wrap_i64 (by omega) (by omega)]; omega
    have hdec : ltI (b : Int) (y1.length : Int) = true := ltI_t (by omega)
    have hnn : leI (0 : Int) (b : Int) = true := leI_t (by omega)
    have hltd : ltN b y1.length = true := ltN_t (by omega)
    refine ⟨?_, ?_, ?_, ?_⟩
    · simp [k96, k97, k9y, k9z, kcd, kcf, kcq, kcv, kco, kc7, k1z, LT.nds, allT, k75, hdec, hnn, hltd, he]
    · simp [k96, k97, k9y, k9z, kcd, kcf, kcq, kcv, kco, kc7, k1z, LT.each, k75, kiy, hw, he]
    · simp only [k96, k97, k9y, k9z, kcd, kcf, kcq, kcv, kco, kc7, k1z, LT.fn, k75, kiy, ka2, Int.toNat_natCast, hdec, cond_true]
    · exact fun _ _ => trivial
  · obtain ⟨⟩ := a
    simp [k96, k97, k9y, k9z, kcd, kcf, kcq, kcv, kco, kc7, k1z, LT.out, k75, List.length_range]

theorem k11o (xs : List (Int × Int)) (hn : leN xs.length 1048576 = true) : kic xs = xs ∧ ki7 xs = true := by
  have hn := leN_iff.1 hn
  have hr : (List.replicate (Int.toNat (xs.length : Int)) ((0 : Int), (0 : Int))).length = xs.length := by simp
  obtain ⟨w1, w2⟩ := ktw xs (List.replicate (Int.toNat (xs.length : Int)) ((0 : Int), (0 : Int))) (by omega) hr
  have hc := walk_copy (xs := xs) (d := ((0 : Int), (0 : Int))) (g := fun x => x) (f := k7z xs) (e := 0) (fun b a => rfl) hr
  rw [hc] at w2
  refine ⟨?_, ?_⟩
  · simp only [khk, kic, ki7, w2, k5s]; simp
  · simp only [khk, kic, ki7, w1, allT]; simp; omega

def kqn : List SV → List Entry → Option Out
  | [.one ⟨false, [.ref 0]⟩], [.row false 183 (.pair (.int .i64) (.int .i64)) x0] => some ⟨(.one ⟨false, [(.ref 1)]⟩), [(.row false 183 (CTy.pair (CTy.int IntKind.i64) (CTy.int IntKind.i64)) x0)], [(.row true 150 (CTy.pair (CTy.int IntKind.i64) (CTy.int IntKind.i64)) (x0))], [leN x0.length 1048576]⟩
  | _, _ => none

def kn1 : PF Tryz.prog := PF.alt kwr kqn (by
  intro args es o h hnd; unfold kqn at h; split at h
  · rename_i x0
    cases h
    have hnd := nd_fst hnd
    have hh := k11o x0 hnd
    obtain ⟨e0, en⟩ := hh
    exact altok rfl (nd_one en) rfl rfl (by simp only [e0] <;> rfl)
  · cases h)

theorem k11j (xs ys : List (Int × Int)) (hn : leN xs.length 9223372036854775807 = true) : ki8 xs ys = eqIs xs ys ∧ kia xs ys = true := by
  have hn := leN_iff.1 hn
  unfold eqIs
  have h3 : ∀ a b : Int × Int, (!kg8 a.1 a.2 b.1 b.2) = !decide (a = b) := fun a b => by
    obtain ⟨a1, a2⟩ := a; obtain ⟨b1, b2⟩ := b
    simp only [kg8, Prod.mk.injEq]
    by_cases h1 : a1 = b1 <;> by_cases h2 : a2 = b2 <;> simp [h1, h2]
  by_cases hl : ys.length = xs.length
  · obtain ⟨w1, w2⟩ := kuo xs ys hn hl
    have ha := any_ne (d := ((0 : Int), (0 : Int))) hl (P := fun b => !decide (Option.getD xs[b]? ((0 : Int), (0 : Int)) = Option.getD ys[b]? ((0 : Int), (0 : Int)))) (fun b => rfl)
    rw [walk_stop (P := fun b => !decide (Option.getD xs[b]? ((0 : Int), (0 : Int)) = Option.getD ys[b]? ((0 : Int), (0 : Int)))) (j := 0) (fun b => by simp only [ka2, h3]), ha] at w2
    simp only [khw, khu, ki8, kia, w1, w2, allT]
    by_cases he : xs = ys
    · subst he; simp; decide
    · simp [he, hl]
  · have hne : xs ≠ ys := fun h => hl (by rw [h])
    simp [khw, khu, ki8, kia, allT, hne]
    omega

def kqm : List SV → List Entry → Option Out
  | [.one ⟨false, [.ref 0]⟩, .one ⟨false, [.ref 1]⟩], [.row false 150 (.pair (.int .i64) (.int .i64)) x0, .row false 150 (.pair (.int .i64) (.int .i64)) x1] => some ⟨(.one ⟨false, [(.val (.bool (eqIs x0 x1)))]⟩), [(.row false 150 (CTy.pair (CTy.int IntKind.i64) (CTy.int IntKind.i64)) x0), (.row false 150 (CTy.pair (CTy.int IntKind.i64) (CTy.int IntKind.i64)) x1)], [], [leN x0.length 9223372036854775807]⟩
  | _, _ => none

def kms : PF Tryz.prog := PF.alt kx4 kqm (by
  intro args es o h hnd; unfold kqm at h; split at h
  · rename_i x0 x1
    cases h
    have hnd := nd_fst hnd
    have hh := k11j x0 x1 hnd
    obtain ⟨e0, en⟩ := hh
    exact altok rfl (nd_one en) (by simp only [e0] <;> rfl) rfl rfl
  · cases h)

def eqBs (xs ys : List (Int × Int × Int)) : Bool := decide (xs = ys)
theorem k144 (xs : List (Int × Int × Int)) : eqBs xs xs = true := by simp [eqBs]

def k8w (y1 : List (Int × (Int × Int))) (b : Nat) : (List (Int × (Int × Int))) → Nat ⊕ (List (Int × (Int × Int)))
  | y2 => (.inr ((List.set y2 (b) (Prod.fst ((Option.getD y1[b]? ((0 : Int), (0 : Int), (0 : Int)))), Prod.fst (Prod.snd ((Option.getD y1[b]? ((0 : Int), (0 : Int), (0 : Int))))), Prod.snd (Prod.snd ((Option.getD y1[b]? ((0 : Int), (0 : Int), (0 : Int)))))))))

def k5x (y1 : List (Int × (Int × Int))) (i : Nat) : (List (Int × (Int × Int))) → k46
  | y2 => ((i : Int), y1, y2)

def kjo : k46 → List (Int × (Int × Int))
  | (_, _, y2) => y2

theorem kvg (y1 : List (Int × (Int × Int))) (y2 : List (Int × (Int × Int))) (hn : y1.length ≤ 9223372036854775807) (hl : y2.length = y1.length) :
    k2d.fin ((0 : Int), y1, y2) = true ∧ k2d.res ((0 : Int), y1, y2) = ((walkL (k8w y1) 0 (List.range y1.length) 0 y2).1, (k5x y1) (walkL (k8w y1) 0 (List.range y1.length) 0 y2).2.1 (walkL (k8w y1) 0 (List.range y1.length) 0 y2).2.2) := by
  have key := k2d.along (k5x y1) kjo (k8w y1) 0 (fun _ a => a.length = y1.length) (List.range y1.length) y2 hl (by simp only [k2d, k5x, List.length_range]; omega) (fun i b a hb hI => ?_) (fun a hI => ?_)
  · exact key
  · obtain y2 := a
    obtain ⟨rfl, hlt⟩ := range_get hb
    have hw : IntKind.i64.wrap ((b : Int) + 1) = ((b + 1 : Nat) : Int) := by rw [wrap_i64 (by omega) (by omega)]; omega
    have hdec : ltI (b : Int) (y1.length : Int) = true := ltI_t (by omega)
    have hnn : leI (0 : Int) (b : Int) = true := leI_t (by omega)
    have hltd : ltN b y1.length = true := ltN_t (by omega)
    refine ⟨?_, ?_, ?_, ?_⟩
    · simp [k7t, kar, kal, kdj, kdg, kdm, kdb, kdd, kcg, k2d, LT.nds, allT, k5x, hdec, hnn, hltd, hI]
    · simp [k7t, kar, kal, kdj, kdg, kdm, kdb, kdd, kcg, k2d, LT.each, k5x, kjo, hw, hI]
    · simp only [k7t, kar, kal, kdj, kdg, kdm, kdb, kdd, kcg, k2d, LT.fn, k5x, kjo, k8w, Int.toNat_natCast, hdec, cond_true]
    · intro a' hf; simp only [k8w, Sum.inr.injEq] at hf; subst hf; simpa using hI
  · obtain y2 := a
    simp [k7t, kar, kal, kdj, kdg, kdm, kdb, kdd, kcg, k2d, LT.out, k5x, List.length_range]

def kap (y1 : List (Int × (Int × Int))) (y2 : List (Int × (Int × Int))) (b : Nat) : (Unit) → Nat ⊕ (Unit)
  | _ => (bif ((!khj (Prod.fst ((Option.getD y1[b]? ((0 : Int), (0 : Int), (0 : Int))))) (Prod.fst (Prod.snd ((Option.getD y1[b]? ((0 : Int), (0 : Int), (0 : Int)))))) (Prod.snd (Prod.snd ((Option.getD y1[b]? ((0 : Int), (0 : Int), (0 : Int)))))) (Prod.fst ((Option.getD y2[b]? ((0 : Int), (0 : Int), (0 : Int))))) (Prod.fst (Prod.snd ((Option.getD y2[b]? ((0 : Int), (0 : Int), (0 : Int)))))) (Prod.snd (Prod.snd ((Option.getD y2[b]? ((0 : Int), (0 : Int), (0 : Int)))))))) then (.inl 0) else (.inr ()))

def k7u (y1 : List (Int × (Int × Int))) (y2 : List (Int × (Int × Int))) (i : Nat) : (Unit) → k47
  | _ => ((i : Int), y1, y2)

def kjh : k47 → Unit
  | (_, _, _) => ()

theorem kvf (y1 : List (Int × (Int × Int))) (y2 : List (Int × (Int × Int)))  (hn : y1.length ≤ 9223372036854775807) (he : y2.length = y1.length) :
    k26.fin ((0 : Int), y1, y2) = true ∧ k26.res ((0 : Int), y1, y2) = ((walkL (kap y1 y2) 1 (List.range y1.length) 0 ()).1, (k7u y1 y2) (walkL (kap y1 y2) 1 (List.range y1.length) 0 ()).2.1 (walkL (kap y1 y2) 1 (List.range y1.length) 0 ()).2.2) := by
  have key := k26.along (k7u y1 y2) kjh (kap y1 y2) 1 (fun _ _ => True) (List.range y1.length) () (by trivial) (by simp only [k26, k7u, List.length_range]; omega) (fun i b a hb hI => ?_) (fun a hI => ?_)
  · exact key
  · obtain ⟨⟩ := a
    obtain ⟨rfl, hlt⟩ := range_get hb
    have hw : IntKind.i64.wrap ((b : Int) + 1) = ((b + 1 : Nat) : Int) := by rw [wrap_i64 (by omega) (by omega)]; omega
    have hdec : ltI (b : Int) (y1.length : Int) = true := ltI_t (by omega)
    have hnn : leI (0 : Int) (b : Int) = true := leI_t (by omega)
    have hltd : ltN b y1.length = true := ltN_t (by omega)
    refine ⟨?_, ?_, ?_, ?_⟩
    · simp [k7x, k7y, kas, kan, kde, kdi, kdf, kdl, kdk, kcm, k26, LT.nds, allT, k7u, hdec, hnn, hltd, he]
    · simp [k7x, k7y, kas, kan, kde, kdi, kdf, kdl, kdk, kcm, k26, LT.each, k7u, kjh, hw, he]
    · simp only [k7x, k7y, kas, kan, kde, kdi, kdf, kdl, kdk, kcm, k26, LT.fn, k7u, kjh, kap, Int.toNat_natCast, hdec, cond_true]
    · exact fun _ _ => trivial
  · obtain ⟨⟩ := a
    simp [k7x, k7y, kas, kan, kde, kdi, kdf, kdl, kdk, kcm, k26, LT.out, k7u, List.length_range]

theorem k126 (xs : List (Int × Int × Int)) (hn : leN xs.length 1048576 = true) : kju xs = xs ∧ kjr xs = true := by
  have hn := leN_iff.1 hn
  have hr : (List.replicate (Int.toNat (xs.length : Int)) ((0 : Int), (0 : Int), (0 : Int))).length = xs.length := by simp
  obtain ⟨w1, w2⟩ := kvg xs (List.replicate (Int.toNat (xs.length : Int)) ((0 : Int), (0 : Int), (0 : Int))) (by omega) hr
  have hc := walk_copy (xs := xs) (d := ((0 : Int), (0 : Int), (0 : Int))) (g := fun x => x) (f := k8w xs) (e := 0) (fun b a => rfl) hr
  rw [hc] at w2
  refine ⟨?_, ?_⟩
  · simp only [kib, kju, kjr, w2, k5x]; simp
  · simp only [kib, kju, kjr, w1, allT]; simp; omega

def kra : List SV → List Entry → Option Out
  | [.one ⟨false, [.ref 0]⟩], [.row false 194 (.pair (.int .i64) (.pair (.int .i64) (.int .i64))) x0] => some ⟨(.one ⟨false, [(.ref 1)]⟩), [(.row false 194 (CTy.pair (CTy.int IntKind.i64) (CTy.pair (CTy.int IntKind.i64) (CTy.int IntKind.i64))) x0)], [(.row true 172 (CTy.pair (CTy.int IntKind.i64) (CTy.pair (CTy.int IntKind.i64) (CTy.int IntKind.i64))) (x0))], [leN x0.length 1048576]⟩
  | _, _ => none

def kns : PF Tryz.prog := PF.alt ky7 kra (by
  intro args es o h hnd; unfold kra at h; split at h
  · rename_i x0
    cases h
    have hnd := nd_fst hnd
    have hh := k126 x0 hnd
    obtain ⟨e0, en⟩ := hh
    exact altok rfl (nd_one en) rfl rfl (by simp only [e0] <;> rfl)
  · cases h)

theorem k11z (xs ys : List (Int × Int × Int)) (hn : leN xs.length 9223372036854775807 = true) : kjz xs ys = eqBs xs ys ∧ kjl xs ys = true := by
  have hn := leN_iff.1 hn
  unfold eqBs
  have h3 : ∀ a b : Int × Int × Int, (!khj a.1 a.2.1 a.2.2 b.1 b.2.1 b.2.2) = !decide (a = b) := fun a b => by
    obtain ⟨a1, a2, a3⟩ := a; obtain ⟨b1, b2, b3⟩ := b
    simp only [khj, Prod.mk.injEq]
    by_cases h1 : a1 = b1 <;> by_cases h2 : a2 = b2 <;> by_cases h3 : a3 = b3 <;> simp [h1, h2, h3]
  by_cases hl : ys.length = xs.length
  · obtain ⟨w1, w2⟩ := kvf xs ys hn hl
    have ha := any_ne (d := ((0 : Int), (0 : Int), (0 : Int))) hl (P := fun b => !decide (Option.getD xs[b]? ((0 : Int), (0 : Int), (0 : Int)) = Option.getD ys[b]? ((0 : Int), (0 : Int), (0 : Int)))) (fun b => rfl)
    rw [walk_stop (P := fun b => !decide (Option.getD xs[b]? ((0 : Int), (0 : Int), (0 : Int)) = Option.getD ys[b]? ((0 : Int), (0 : Int), (0 : Int)))) (j := 0) (fun b => by simp only [kap, h3]), ha] at w2
    simp only [kid, ki9, kjz, kjl, w1, w2, allT]
    by_cases he : xs = ys
    · subst he; simp; decide
    · simp [he, hl]
  · have hne : xs ≠ ys := fun h => hl (by rw [h])
    simp [kid, ki9, kjz, kjl, allT, hne]
    omega

def krr : List SV → List Entry → Option Out
  | [.one ⟨false, [.ref 0]⟩, .one ⟨false, [.ref 1]⟩], [.row false 172 (.pair (.int .i64) (.pair (.int .i64) (.int .i64))) x0, .row false 172 (.pair (.int .i64) (.pair (.int .i64) (.int .i64))) x1] => some ⟨(.one ⟨false, [(.val (.bool (eqBs x0 x1)))]⟩), [(.row false 172 (CTy.pair (CTy.int IntKind.i64) (CTy.pair (CTy.int IntKind.i64) (CTy.int IntKind.i64))) x0), (.row false 172 (CTy.pair (CTy.int IntKind.i64) (CTy.pair (CTy.int IntKind.i64) (CTy.int IntKind.i64))) x1)], [], [leN x0.length 9223372036854775807]⟩
  | _, _ => none

def knt : PF Tryz.prog := PF.alt kxx krr (by
  intro args es o h hnd; unfold krr at h; split at h
  · rename_i x0 x1
    cases h
    have hnd := nd_fst hnd
    have hh := k11z x0 x1 hnd
    obtain ⟨e0, en⟩ := hh
    exact altok rfl (nd_one en) (by simp only [e0] <;> rfl) rfl rfl
  · cases h)

def upG {α : Type} (d : Nat) (mk : Int → α) (k : Int) (n : Nat) : List α := (List.range n).map fun (i : Nat) => mk (k + d * (i : Int))

theorem k13l {α : Type} (d : Nat) (mk : Int → α) (k : Int) (n : Nat) : (upG d mk k n).length = n := by simp [upG]

theorem k14q {α : Type} (d : Nat) (mk : Int → α) (k : Int) (n : Nat) : upG d mk k (n + 1) = mk k :: upG d mk (k + d) n := by
  unfold upG
  rw [List.range_succ_eq_map, List.map_cons, List.map_map]
  congr 1
  · simp
  · refine List.map_congr_left fun i _ => ?_
    simp only [Function.comp]
    congr 1
    simp [Int.mul_add]; omega

theorem kyj {α : Type} {d : Nat} {mk : Int → α} {f : Nat → Int × List α → Nat ⊕ (Int × List α)} {e : Nat}
    (hf : ∀ (b : Nat) (k : Int) (xs : List α), b < xs.length → 0 ≤ k → k + d ≤ 9223372036854775807 → f b (k, xs) = .inr (k + d, xs.set b (mk k))) :
    ∀ (ys pre : List α) (k : Int), 0 ≤ k → k + d * (ys.length : Int) ≤ 9223372036854775807 →
      walkL f e (List.range' pre.length ys.length) pre.length (k, pre ++ ys) = (e, pre.length + ys.length, (k + d * (ys.length : Int), pre ++ upG d mk k ys.length))
  | [], pre, k, _, _ => by simp [walkL, upG]
  | y :: ys, pre, k, h0, h1 => by
    have hd : (d : Int) * (((y :: ys).length : Nat) : Int) = d + d * (ys.length : Int) := by simp [Int.mul_add]; omega
    rw [hd] at h1
    have hp : 0 ≤ (d : Int) * (ys.length : Int) := Int.mul_nonneg (by omega) (by omega)
    have hs : (pre ++ y :: ys).set pre.length (mk k) = (pre ++ [mk k]) ++ ys := by rw [List.set_append_right _ _ (Nat.le_refl _)]; simp
    have ih := kyj (e := e) hf ys (pre ++ [mk k]) (k + d) (by omega) (by omega)
    rw [List.length_cons, List.range'_succ]
    simp only [walkL, hf pre.length k (pre ++ y :: ys) (by simp) h0 (by omega), hs]
    rw [List.length_append, List.length_singleton] at ih
    rw [ih, k14q]
    simp [Int.mul_add]
    omega

theorem k13k {α : Type} {d : Nat} {mk : Int → α} {f : α → Int → Nat ⊕ Int} {e : Nat} (hf : ∀ (k : Int), 0 ≤ k → k + d ≤ 9223372036854775807 → f (mk k) k = .inr (k + d)) :
    ∀ (n : Nat) (k : Int) (i : Nat), 0 ≤ k → k + d * (n : Int) ≤ 9223372036854775807 → walkL f e (upG d mk k n) i k = (e, i + n, k + d * (n : Int))
  | 0, k, i, _, _ => by simp [walkL, upG]
  | n + 1, k, i, h0, h1 => by
    have hd : (d : Int) * ((n + 1 : Nat) : Int) = d + d * (n : Int) := by simp [Int.mul_add]; omega
    rw [hd] at h1
    have hp : 0 ≤ (d : Int) * (n : Int) := Int.mul_nonneg (by omega) (by omega)
    rw [k14q]
    simp only [walkL, hf k h0 (by omega)]
    rw [k13k hf n (k + d) (i + 1) (by omega) (by omega), hd]
    simp only [Prod.mk.injEq, true_and]
    omega

def mkOk3 (d : Nat) (k : Int) (n : Nat) : Bool := leI 0 k && leI (k + d * (n : Int)) 9223372036854775807
theorem ks9 {d : Nat} {k : Int} {n : Nat} : mkOk3 d k n = true ↔ 0 ≤ k ∧ k + d * (n : Int) ≤ 9223372036854775807 := by simp [mkOk3]

def k5r  (b : Nat) : (Int × List (Int × (Int × Int))) → Nat ⊕ (Int × List (Int × (Int × Int)))
  | (y1, y2) => (.inr (((IntKind.wrap IntKind.i64 ((IntKind.wrap IntKind.i64 ((IntKind.wrap IntKind.i64 (y1 + (1 : Int))) + (1 : Int))) + (1 : Int)))), ((List.set ((List.set ((List.set y2 (b) (y1, Prod.fst ((Prod.snd (Option.getD y2[b]? ((0 : Int), (0 : Int), (0 : Int))))), Prod.snd ((Prod.snd (Option.getD y2[b]? ((0 : Int), (0 : Int), (0 : Int)))))))) (b) (Prod.fst ((Option.getD ((List.set y2 (b) (y1, Prod.fst ((Prod.snd (Option.getD y2[b]? ((0 : Int), (0 : Int), (0 : Int))))), Prod.snd ((Prod.snd (Option.getD y2[b]? ((0 : Int), (0 : Int), (0 : Int))))))))[b]? ((0 : Int), (0 : Int), (0 : Int)))), (IntKind.wrap IntKind.i64 (y1 + (1 : Int))), Prod.snd (Prod.snd ((Option.getD ((List.set y2 (b) (y1, Prod.fst ((Prod.snd (Option.getD y2[b]? ((0 : Int), (0 : Int), (0 : Int))))), Prod.snd ((Prod.snd (Option.getD y2[b]? ((0 : Int), (0 : Int), (0 : Int))))))))[b]? ((0 : Int), (0 : Int), (0 : Int)))))))) (b) (Prod.fst ((Option.getD ((List.set ((List.set y2 (b) (y1, Prod.fst ((Prod.snd (Option.getD y2[b]? ((0 : Int), (0 : Int), (0 : Int))))), Prod.snd ((Prod.snd (Option.getD y2[b]? ((0 : Int), (0 : Int), (0 : Int)))))))) (b) (Prod.fst ((Option.getD ((List.set y2 (b) (y1, Prod.fst ((Prod.snd (Option.getD y2[b]? ((0 : Int), (0 : Int), (0 : Int))))), Prod.snd ((Prod.snd (Option.getD y2[b]? ((0 : Int), (0 : Int), (0 : Int))))))))[b]? ((0 : Int), (0 : Int), (0 : Int)))), (IntKind.wrap IntKind.i64 (y1 + (1 : Int))), Prod.snd (Prod.snd ((Option.getD ((List.set y2 (b) (y1, Prod.fst ((Prod.snd (Option.getD y2[b]? ((0 : Int), (0 : Int), (0 : Int))))), Prod.snd ((Prod.snd (Option.getD y2[b]? ((0 : Int), (0 : Int), (0 : Int))))))))[b]? ((0 : Int), (0 : Int), (0 : Int))))))))[b]? ((0 : Int), (0 : Int), (0 : Int)))), Prod.fst (Prod.snd ((Option.getD ((List.set ((List.set y2 (b) (y1, Prod.fst ((Prod.snd (Option.getD y2[b]? ((0 : Int), (0 : Int), (0 : Int))))), Prod.snd ((Prod.snd (Option.getD y2[b]? ((0 : Int), (0 : Int), (0 : Int)))))))) (b) (Prod.fst ((Option.getD ((List.set y2 (b) (y1, Prod.fst ((Prod.snd (Option.getD y2[b]? ((0 : Int), (0 : Int), (0 : Int))))), Prod.snd ((Prod.snd (Option.getD y2[b]? ((0 : Int), (0 : Int), (0 : Int))))))))[b]? ((0 : Int), (0 : Int), (0 : Int)))), (IntKind.wrap IntKind.i64 (y1 + (1 : Int))), Prod.snd (Prod.snd ((Option.getD ((List.set y2 (b) (y1, Prod.fst ((Prod.snd (Option.getD y2[b]? ((0 : Int), (0 : Int), (0 : Int))))), Prod.snd ((Prod.snd (Option.getD y2[b]? ((0 : Int), (0 : Int), (0 : Int))))))))[b]? ((0 : Int), (0 : Int), (0 : Int))))))))[b]? ((0 : Int), (0 : Int), (0 : Int))))), (IntKind.wrap IntKind.i64 ((IntKind.wrap IntKind.i64 (y1 + (1 : Int))) + (1 : Int))))))))

def k3k  (i : Nat) : (Int × List (Int × (Int × Int))) → k32
  | (y1, y2) => ((i : Int), y1, y2)

def ki0 : k32 → Int × List (Int × (Int × Int))
  | (_, y1, y2) => (y1, y2)

theorem ktm  (y1 : Int) (y2 : List (Int × (Int × Int))) (n : Nat) (hl : y2.length = n) (hn : n ≤ 9223372036854775807)  :
    k22.fin ((0 : Int), y1, y2) = true ∧ k22.res ((0 : Int), y1, y2) = ((walkL (k5r) 0 (List.range n) 0 (y1, y2)).1, (k3k) (walkL (k5r) 0 (List.range n) 0 (y1, y2)).2.1 (walkL (k5r) 0 (List.range n) 0 (y1, y2)).2.2) := by
  have key := k22.along (k3k) ki0 (k5r) 0 (fun _ a => a.2.length = n) (List.range n) (y1, y2) hl (by simp only [k22, k3k, List.length_range]; omega) (fun i b a hb hI => ?_) (fun a hI => ?_)
  · exact key
  · obtain ⟨y1, y2⟩ := a
    obtain ⟨rfl, hlt⟩ := range_get hb
    have hI0 : y2.length = n := hI
    have hw : IntKind.i64.wrap ((b : Int) + 1) = ((b + 1 : Nat) : Int) := by rw [wrap_i64 (by omega) (by omega)]; omega
    have hdec : ltI (b : Int) (y2.length : Int) = true := ltI_t (by omega)
    have hnn : leI (0 : Int) (b : Int) = true := leI_t (by omega)
    have hltd : ltN b y2.length = true := ltN_t (by omega)
    refine ⟨?_, ?_, ?_, ?_⟩
    · simp [k8m, k4w, k8n, k8g, k50, k8j, k8l, k98, k6t, kbu, kbo, kbz, kbx, kc5, kc6, kc1, kbs, kb8, k22, LT.nds, allT, k3k, hdec, hnn, hltd]
    · simp [k8m, k4w, k8n, k8g, k50, k8j, k8l, k98, k6t, kbu, kbo, kbz, kbx, kc5, kc6, kc1, kbs, kb8, k22, LT.each, k3k, ki0, hw]
    · simp only [k8m, k4w, k8n, k8g, k50, k8j, k8l, k98, k6t, kbu, kbo, kbz, kbx, kc5, kc6, kc1, kbs, kb8, k22, LT.fn, k3k, ki0, k5r, Int.toNat_natCast, hdec, hnn, hltd, cond_true, Bool.cond_self]
    · intro a' hf; simp only [k5r, Sum.inr.injEq] at hf; subst hf; simp [hI0]
  · obtain ⟨y1, y2⟩ := a
    have hI0 : y2.length = n := hI
    simp [k8m, k4w, k8n, k8g, k50, k8j, k8l, k98, k6t, kbu, kbo, kbz, kbx, kc5, kc6, kc1, kbs, kb8, k22, LT.out, k3k, hI0, List.length_range]

def k6y  (b : Int × (Int × Int)) : (Int) → Nat ⊕ (Int)
  | y1 => (bif ((Prod.fst ((b)) != y1)) then (.inl 0) else (bif ((Prod.fst (Prod.snd ((b))) != (IntKind.wrap IntKind.i64 (y1 + (1 : Int))))) then (.inl 1) else (bif ((Prod.snd (Prod.snd ((b))) != (IntKind.wrap IntKind.i64 ((IntKind.wrap IntKind.i64 (y1 + (1 : Int))) + (1 : Int))))) then (.inl 2) else (.inr ((IntKind.wrap IntKind.i64 ((IntKind.wrap IntKind.i64 ((IntKind.wrap IntKind.i64 (y1 + (1 : Int))) + (1 : Int))) + (1 : Int))))))))

def k4t (y2 : List (Int × (Int × Int))) (i : Nat) : (Int) → k31
  | y1 => ((i : Int), y1, y2)

def ki3 : k31 → Int
  | (_, y1, _) => y1

theorem knz (y2 : List (Int × (Int × Int))) (y1 : Int) (hn : y2.length ≤ 9223372036854775807)  :
    k1j.fin ((0 : Int), y1, y2) = true ∧ k1j.res ((0 : Int), y1, y2) = ((walkL (k6y) 3 y2 0 y1).1, (k4t y2) (walkL (k6y) 3 y2 0 y1).2.1 (walkL (k6y) 3 y2 0 y1).2.2) := by
  have key := k1j.along (k4t y2) ki3 (k6y) 3 (fun _ _ => True) y2 y1 (by trivial) (by simp only [k1j, k4t]; omega) (fun i b a hb hI => ?_) (fun a hI => ?_)
  · exact key
  · obtain y1 := a
    have hlt := (List.getElem?_eq_some_iff.1 hb).1
    have hget : ∀ d, Option.getD y2[i]? d = b := fun d => by rw [hb]; rfl
    have hw := wrap64 hlt hn
    have hdec : ltI (i : Int) (y2.length : Int) = true := ltI_t (by omega)
    have hnn : leI (0 : Int) (i : Int) = true := leI_t (by omega)
    have hltd : ltN i y2.length = true := ltN_t hlt
    refine ⟨?_, ?_, ?_, ?_⟩
    · simp [k6f, k8p, k8q, k5t, k6w, k73, kbn, k30, kbt, kc0, kby, kbq, kb9, k1j, LT.nds, allT, k4t, hdec, hnn, hltd, hget]
    · simp [k6f, k8p, k8q, k5t, k6w, k73, kbn, k30, kbt, kc0, kby, kbq, kb9, k1j, LT.each, k4t, ki3, hw]
    · simp only [k6f, k8p, k8q, k5t, k6w, k73, kbn, k30, kbt, kc0, kby, kbq, kb9, k1j, LT.fn, k4t, ki3, k6y, Int.toNat_natCast, hdec, hnn, hltd, hget, cond_true, Bool.cond_self]
    · exact fun _ _ => trivial
  · obtain y1 := a
    simp [k6f, k8p, k8q, k5t, k6w, k73, kbn, k30, kbt, kc0, kby, kbq, kb9, k1j, LT.out, k4t]

def k4y  (b : Nat) : (Int × List (Int × Int)) → Nat ⊕ (Int × List (Int × Int))
  | (y1, y2) => (.inr (((IntKind.wrap IntKind.i64 ((IntKind.wrap IntKind.i64 (y1 + (1 : Int))) + (1 : Int)))), ((List.set ((List.set y2 (b) (y1, Prod.snd (Option.getD y2[b]? ((0 : Int), (0 : Int)))))) (b) (Prod.fst (Option.getD ((List.set y2 (b) (y1, Prod.snd (Option.getD y2[b]? ((0 : Int), (0 : Int))))))[b]? ((0 : Int), (0 : Int))), (IntKind.wrap IntKind.i64 (y1 + (1 : Int))))))))

def k4a  (i : Nat) : (Int × List (Int × Int)) → k2s
  | (y1, y2) => ((i : Int), y1, y2)

def kgw : k2s → Int × List (Int × Int)
  | (_, y1, y2) => (y1, y2)

theorem ksz  (y1 : Int) (y2 : List (Int × Int)) (n : Nat) (hl : y2.length = n) (hn : n ≤ 9223372036854775807)  :
    k1y.fin ((0 : Int), y1, y2) = true ∧ k1y.res ((0 : Int), y1, y2) = ((walkL (k4y) 0 (List.range n) 0 (y1, y2)).1, (k4a) (walkL (k4y) 0 (List.range n) 0 (y1, y2)).2.1 (walkL (k4y) 0 (List.range n) 0 (y1, y2)).2.2) := by
  have key := k1y.along (k4a) kgw (k4y) 0 (fun _ a => a.2.length = n) (List.range n) (y1, y2) hl (by simp only [k1y, k4a, List.length_range]; omega) (fun i b a hb hI => ?_) (fun a hI => ?_)
  · exact key
  · obtain ⟨y1, y2⟩ := a
    obtain ⟨rfl, hlt⟩ := range_get hb
    have hI0 : y2.length = n := hI
    have hw : IntKind.i64.wrap ((b : Int) + 1) = ((b + 1 : Nat) : Int) := by rw [wrap_i64 (by omega) (by omega)]; omega
    have hdec : ltI (b : Int) (y2.length : Int) = true := ltI_t (by omega)
    have hnn : leI (0 : Int) (b : Int) = true := leI_t (by omega)
    have hltd : ltN b y2.length = true := ltN_t (by omega)
    refine ⟨?_, ?_, ?_, ?_⟩
    · simp [k4b, k7s, k8o, k8i, kbd, kav, kay, kb6, kb3, kb5, ka8, k1y, LT.nds, allT, k4a, hdec, hnn, hltd]
    · simp [k4b, k7s, k8o, k8i, kbd, kav, kay, kb6, kb3, kb5, ka8, k1y, LT.each, k4a, kgw, hw]
    · simp only [k4b, k7s, k8o, k8i, kbd, kav, kay, kb6, kb3, kb5, ka8, k1y, LT.fn, k4a, kgw, k4y, Int.toNat_natCast, hdec, hnn, hltd, cond_true, Bool.cond_self]
    · intro a' hf; simp only [k4y, Sum.inr.injEq] at hf; subst hf; simp [hI0]
  · obtain ⟨y1, y2⟩ := a
    have hI0 : y2.length = n := hI
    simp [k4b, k7s, k8o, k8i, kbd, kav, kay, kb6, kb3, kb5, ka8, k1y, LT.out, k4a, hI0, List.length_range]

def kah  (b : Nat) : (Int × List (Int × (ByteArray × Int))) → Nat ⊕ (Int × List (Int × (ByteArray × Int)))
  | (y1, y2) => (.inr (((IntKind.wrap IntKind.i64 ((IntKind.wrap IntKind.i64 ((IntKind.wrap IntKind.i64 (y1 + (1 : Int))) + (1 : Int))) + (1 : Int)))), ((List.set ((List.set ((List.set y2 (b) (y1, Prod.fst ((Prod.snd (Option.getD y2[b]? ((0 : Int), ByteArray.empty, (0 : Int))))), Prod.snd ((Prod.snd (Option.getD y2[b]? ((0 : Int), ByteArray.empty, (0 : Int)))))))) (b) (Prod.fst ((Option.getD ((List.set y2 (b) (y1, Prod.fst ((Prod.snd (Option.getD y2[b]? ((0 : Int), ByteArray.empty, (0 : Int))))), Prod.snd ((Prod.snd (Option.getD y2[b]? ((0 : Int), ByteArray.empty, (0 : Int))))))))[b]? ((0 : Int), ByteArray.empty, (0 : Int)))), kl4 ((IntKind.wrap IntKind.i64 (y1 + (1 : Int)))), Prod.snd (Prod.snd ((Option.getD ((List.set y2 (b) (y1, Prod.fst ((Prod.snd (Option.getD y2[b]? ((0 : Int), ByteArray.empty, (0 : Int))))), Prod.snd ((Prod.snd (Option.getD y2[b]? ((0 : Int), ByteArray.empty, (0 : Int))))))))[b]? ((0 : Int), ByteArray.empty, (0 : Int)))))))) (b) (Prod.fst ((Option.getD ((List.set ((List.set y2 (b) (y1, Prod.fst ((Prod.snd (Option.getD y2[b]? ((0 : Int), ByteArray.empty, (0 : Int))))), Prod.snd ((Prod.snd (Option.getD y2[b]? ((0 : Int), ByteArray.empty, (0 : Int)))))))) (b) (Prod.fst ((Option.getD ((List.set y2 (b) (y1, Prod.fst ((Prod.snd (Option.getD y2[b]? ((0 : Int), ByteArray.empty, (0 : Int))))), Prod.snd ((Prod.snd (Option.getD y2[b]? ((0 : Int), ByteArray.empty, (0 : Int))))))))[b]? ((0 : Int), ByteArray.empty, (0 : Int)))), kl4 ((IntKind.wrap IntKind.i64 (y1 + (1 : Int)))), Prod.snd (Prod.snd ((Option.getD ((List.set y2 (b) (y1, Prod.fst ((Prod.snd (Option.getD y2[b]? ((0 : Int), ByteArray.empty, (0 : Int))))), Prod.snd ((Prod.snd (Option.getD y2[b]? ((0 : Int), ByteArray.empty, (0 : Int))))))))[b]? ((0 : Int), ByteArray.empty, (0 : Int))))))))[b]? ((0 : Int), ByteArray.empty, (0 : Int)))), Prod.fst (Prod.snd ((Option.getD ((List.set ((List.set y2 (b) (y1, Prod.fst ((Prod.snd (Option.getD y2[b]? ((0 : Int), ByteArray.empty, (0 : Int))))), Prod.snd ((Prod.snd (Option.getD y2[b]? ((0 : Int), ByteArray.empty, (0 : Int)))))))) (b) (Prod.fst ((Option.getD ((List.set y2 (b) (y1, Prod.fst ((Prod.snd (Option.getD y2[b]? ((0 : Int), ByteArray.empty, (0 : Int))))), Prod.snd ((Prod.snd (Option.getD y2[b]? ((0 : Int), ByteArray.empty, (0 : Int))))))))[b]? ((0 : Int), ByteArray.empty, (0 : Int)))), kl4 ((IntKind.wrap IntKind.i64 (y1 + (1 : Int)))), Prod.snd (Prod.snd ((Option.getD ((List.set y2 (b) (y1, Prod.fst ((Prod.snd (Option.getD y2[b]? ((0 : Int), ByteArray.empty, (0 : Int))))), Prod.snd ((Prod.snd (Option.getD y2[b]? ((0 : Int), ByteArray.empty, (0 : Int))))))))[b]? ((0 : Int), ByteArray.empty, (0 : Int))))))))[b]? ((0 : Int), ByteArray.empty, (0 : Int))))), (IntKind.wrap IntKind.i64 ((IntKind.wrap IntKind.i64 (y1 + (1 : Int))) + (1 : Int))))))))

def k9d  (i : Nat) : (Int × List (Int × (ByteArray × Int))) → k7f
  | (y1, y2) => ((i : Int), y1, y2)

def knq : k7f → Int × List (Int × (ByteArray × Int))
  | (_, y1, y2) => (y1, y2)

theorem kyz  (y1 : Int) (y2 : List (Int × (ByteArray × Int))) (n : Nat) (hl : y2.length = n) (hn : n ≤ 9223372036854775807) (h1 : 0 ≤ y1) (h2 : y1 + 3 * (n : Int) ≤ 9223372036854775807) :
    k3h.fin ((0 : Int), y1, y2) = true ∧ k3h.res ((0 : Int), y1, y2) = ((walkL (kah) 0 (List.range n) 0 (y1, y2)).1, (k9d) (walkL (kah) 0 (List.range n) 0 (y1, y2)).2.1 (walkL (kah) 0 (List.range n) 0 (y1, y2)).2.2) := by
  have key := k3h.along (k9d) knq (kah) 0 (fun i a => a.2.length = n ∧ 0 ≤ a.1 ∧ a.1 + 3 * ((n - i : Nat) : Int) ≤ 9223372036854775807) (List.range n) (y1, y2) ⟨hl, h1, by simpa using h2⟩ (by simp only [k3h, k9d, List.length_range]; omega) (fun i b a hb hI => ?_) (fun a hI => ?_)
  · exact key
  · obtain ⟨y1, y2⟩ := a
    obtain ⟨rfl, hlt⟩ := range_get hb
    have hI0 : y2.length = n := hI.1
    have hw : IntKind.i64.wrap ((b : Int) + 1) = ((b + 1 : Nat) : Int) := by rw [wrap_i64 (by omega) (by omega)]; omega
    have hdec : ltI (b : Int) (y2.length : Int) = true := ltI_t (by omega)
    have hnn : leI (0 : Int) (b : Int) = true := leI_t (by omega)
    have hltd : ltN b y2.length = true := ltN_t (by omega)
    refine ⟨?_, ?_, ?_, ?_⟩
    · have hk := hI.2
      simp only at hk
      have hw1 : IntKind.i64.wrap (y1 + 1) = y1 + 1 := wrap_i64 (by omega) (by omega)
      have h6 : kna (y1 + 1) = true := k15p (y1 + 1) ((Bool.and_eq_true _ _).mpr ⟨leI_t (by omega), leI_t (by omega)⟩)
      simp [kbl, ke3, k9m, kdz, k9j, ke0, kdv, kem, kck, khm, khn, khy, khc, khz, kho, khb, khv, kgi, kgl, k3h, LT.nds, allT, k9d, hdec, hnn, hltd, hw1, h6]
    · simp [kbl, ke3, k9m, kdz, k9j, ke0, kdv, kem, kck, khm, khn, khy, khc, khz, kho, khb, khv, kgi, kgl, k3h, LT.each, k9d, knq, hw]
    · simp only [kbl, ke3, k9m, kdz, k9j, ke0, kdv, kem, kck, khm, khn, khy, khc, khz, kho, khb, khv, kgi, kgl, k3h, LT.fn, k9d, knq, kah, Int.toNat_natCast, hdec, hnn, hltd, cond_true, Bool.cond_self]
    · have hk := hI.2
      simp only at hk
      intro a' hf; simp only [kah, Sum.inr.injEq] at hf
      subst hf
      refine ⟨by simp [hI0], ?_⟩
      simp only
      rw [wrap_i64 (x := y1 + 1) (by omega) (by omega), wrap_i64 (x := y1 + 1 + 1) (by omega) (by omega), wrap_i64 (x := y1 + 1 + 1 + 1) (by omega) (by omega)]
      omega
  · obtain ⟨y1, y2⟩ := a
    have hI0 : y2.length = n := hI.1
    simp [kbl, ke3, k9m, kdz, k9j, ke0, kdv, kem, kck, khm, khn, khy, khc, khz, kho, khb, khv, kgi, kgl, k3h, LT.out, k9d, hI0, List.length_range]

def mkB (k : Int) : Int × Int × Int := (k, k + 1, k + 2)
def mkI (k : Int) : Int × Int := (k, k + 1)

theorem k165 (b : Nat) (k : Int) (xs : List (Int × Int × Int)) (hb : b < xs.length) (h0 : 0 ≤ k) (h1 : k + (3 : Nat) ≤ 9223372036854775807) : k5r b (k, xs) = .inr (k + (3 : Nat), xs.set b (mkB k)) := by
  have w1 : IntKind.i64.wrap (k + 1) = k + 1 := wrap_i64 (by omega) (by omega)
  have w2 : IntKind.i64.wrap (k + 1 + 1) = k + 2 := by rw [wrap_i64 (by omega) (by omega)]; omega
  have w3 : IntKind.i64.wrap (k + 2 + 1) = k + 3 := by rw [wrap_i64 (by omega) (by omega)]; omega
  simp [k5r, mkB, w1, w2, w3, List.set_set, List.getElem?_set, hb]

theorem k167 (b : Nat) (k : Int) (xs : List (Int × Int)) (hb : b < xs.length) (h0 : 0 ≤ k) (h1 : k + (2 : Nat) ≤ 9223372036854775807) : k4y b (k, xs) = .inr (k + (2 : Nat), xs.set b (mkI k)) := by
  have w1 : IntKind.i64.wrap (k + 1) = k + 1 := wrap_i64 (by omega) (by omega)
  have w2 : IntKind.i64.wrap (k + 1 + 1) = k + 2 := by rw [wrap_i64 (by omega) (by omega)]; omega
  simp [k4y, mkI, w1, w2, List.set_set, List.getElem?_set, hb]

def mkT (k : Int) : TM := (k, kl4 (k + 1), k + 2)

theorem k162 (b : Nat) (k : Int) (xs : List TM) (hb : b < xs.length) (h0 : 0 ≤ k) (h1 : k + (3 : Nat) ≤ 9223372036854775807) : kah b (k, xs) = .inr (k + (3 : Nat), xs.set b (mkT k)) := by
  have w1 : IntKind.i64.wrap (k + 1) = k + 1 := wrap_i64 (by omega) (by omega)
  have w2 : IntKind.i64.wrap (k + 1 + 1) = k + 2 := by rw [wrap_i64 (by omega) (by omega)]; omega
  have w3 : IntKind.i64.wrap (k + 2 + 1) = k + 3 := by rw [wrap_i64 (by omega) (by omega)]; omega
  simp [kah, mkT, w1, w2, w3, List.set_set, List.getElem?_set, hb]

theorem k15w (k : Int) (xs : List (Int × Int × Int)) (h : (mkOk3 3 k xs.length && leN xs.length 9223372036854775807) = true) : klz k xs = k + 3 * (xs.length : Int) ∧ kma k xs = upG 3 mkB k xs.length ∧ klw k xs = true := by
  simp only [Bool.and_eq_true, leN_iff] at h
  obtain ⟨h0, h2⟩ := ks9.1 h.1
  obtain ⟨w1, w2⟩ := ktm k xs xs.length rfl h.2
  have hw := kyj (e := 0) k165 xs [] k h0 h2
  rw [List.length_nil, List.nil_append, ← List.range_eq_range'] at hw
  rw [hw] at w2
  refine ⟨?_, ?_, ?_⟩
  · simp only [klz, kd9, kgt, w2, k3k]; rfl
  · simp only [kma, kd9, kgt, w2, k3k]; rfl
  · simp only [klw, kd9, w1, allT, cond_true]

theorem k15u (k : Int) (xs : List (Int × Int)) (h : (mkOk3 2 k xs.length && leN xs.length 9223372036854775807) = true) : klf k xs = k + 2 * (xs.length : Int) ∧ klh k xs = true := by
  simp only [Bool.and_eq_true, leN_iff] at h
  obtain ⟨h0, h2⟩ := ks9.1 h.1
  obtain ⟨w1, w2⟩ := ksz k xs xs.length rfl h.2
  have hw := kyj (e := 0) k167 xs [] k h0 h2
  rw [List.length_nil, List.nil_append, ← List.range_eq_range'] at hw
  rw [hw] at w2
  refine ⟨?_, ?_⟩
  · simp only [klf, kf6, kjv, w2, k4a]; rfl
  · simp only [klh, kf6, w1, allT, cond_true]

theorem k15d (k : Int) (xs : List TM) (h : (mkOk3 3 k xs.length && leN xs.length 9223372036854775807) = true) : kri k xs = k + 3 * (xs.length : Int) ∧ krs k xs = true := by
  simp only [Bool.and_eq_true, leN_iff] at h
  obtain ⟨h0, h2⟩ := ks9.1 h.1
  obtain ⟨w1, w2⟩ := kyz k xs xs.length rfl h.2 h0 h2
  have hw := kyj (e := 0) k162 xs [] k h0 h2
  rw [List.length_nil, List.nil_append, ← List.range_eq_range'] at hw
  rw [hw] at w2
  refine ⟨?_, ?_⟩
  · simp only [kri, knj, kq6, w2, k9d]; rfl
  · simp only [krs, knj, w1, allT, cond_true]

def kq0 : List SV → List Entry → Option Out
  | [.one ⟨false, [.ref 0]⟩, .one ⟨false, [.val (.int .i64 x0)]⟩], [.row true 172 (.pair (.int .i64) (.pair (.int .i64) (.int .i64))) x1] => some ⟨(.one ⟨false, [(.val (.int IntKind.i64 (x0 + 3 * (x1.length : Int))))]⟩), [(.row true 172 (CTy.pair (CTy.int IntKind.i64) (CTy.pair (CTy.int IntKind.i64) (CTy.int IntKind.i64))) (upG 3 mkB x0 x1.length))], [], [mkOk3 3 x0 x1.length && leN x1.length 9223372036854775807]⟩
  | _, _ => none

def km3 : PF Tryz.prog := PF.alt kvo kq0 (by
  intro args es o h hnd; unfold kq0 at h; split at h
  · rename_i x0 x1
    cases h
    have hnd := nd_fst hnd
    have hh := k15w x0 x1 hnd
    obtain ⟨e0, e1, en⟩ := hh
    exact altok rfl (nd_one en) (by simp only [e0] <;> rfl) (by simp only [e1] <;> rfl) rfl
  · cases h)

def kou : List SV → List Entry → Option Out
  | [.one ⟨false, [.ref 0]⟩, .one ⟨false, [.val (.int .i64 x0)]⟩], [.row true 150 (.pair (.int .i64) (.int .i64)) x1] => some ⟨(.one ⟨false, [(.val (.int IntKind.i64 (x0 + 2 * (x1.length : Int))))]⟩), [(.row true 150 (CTy.pair (CTy.int IntKind.i64) (CTy.int IntKind.i64)) (klm x0 x1))], [], [mkOk3 2 x0 x1.length && leN x1.length 9223372036854775807]⟩
  | _, _ => none

def kln : PF Tryz.prog := PF.alt kvl kou (by
  intro args es o h hnd; unfold kou at h; split at h
  · rename_i x0 x1
    cases h
    have hnd := nd_fst hnd
    have hh := k15u x0 x1 hnd
    obtain ⟨e0, en⟩ := hh
    exact altok rfl (nd_one en) (by simp only [e0] <;> rfl) rfl rfl
  · cases h)

def kvu : List SV → List Entry → Option Out
  | [.one ⟨false, [.ref 0]⟩, .one ⟨false, [.val (.int .i64 x0)]⟩], [.row true 178 (.pair (.int .i64) (.pair (.str) (.int .i64))) x1] => some ⟨(.one ⟨false, [(.val (.int IntKind.i64 (x0 + 3 * (x1.length : Int))))]⟩), [(.row true 178 (CTy.pair (CTy.int IntKind.i64) (CTy.pair CTy.str (CTy.int IntKind.i64))) (kr8 x0 x1))], [], [mkOk3 3 x0 x1.length && leN x1.length 9223372036854775807]⟩
  | _, _ => none

def kr9 : PF Tryz.prog := PF.alt k129 kvu (by
  intro args es o h hnd; unfold kvu at h; split at h
  · rename_i x0 x1
    cases h
    have hnd := nd_fst hnd
    have hh := k15d x0 x1 hnd
    obtain ⟨e0, en⟩ := hh
    exact altok rfl (nd_one en) (by simp only [e0] <;> rfl) rfl rfl
  · cases h)

def heldB (k : Int) (xs : List (Int × Int × Int)) : Int := khl k xs

theorem k161 (k : Int) (h0 : 0 ≤ k) (h1 : k + (3 : Nat) ≤ 9223372036854775807) : k6y (mkB k) k = .inr (k + (3 : Nat)) := by
  have w1 : IntKind.i64.wrap (k + 1) = k + 1 := wrap_i64 (by omega) (by omega)
  have w2 : IntKind.i64.wrap (k + 1 + 1) = k + 2 := by rw [wrap_i64 (by omega) (by omega)]; omega
  have w3 : IntKind.i64.wrap (k + 2 + 1) = k + 3 := by rw [wrap_i64 (by omega) (by omega)]; omega
  simp [k6y, mkB, w1, w2, w3]

theorem k15v (k : Int) (n : Nat) (h : (mkOk3 3 k n && leN n 9223372036854775807) = true) : heldB k (upG 3 mkB k n) = k + 3 * (n : Int) := by
  simp only [Bool.and_eq_true, leN_iff] at h
  obtain ⟨h0, h2⟩ := ks9.1 h.1
  obtain ⟨w1, w2⟩ := knz (upG 3 mkB k n) k (by rw [k13l]; exact h.2)
  rw [k13k (e := 3) k161 n k 0 h0 h2] at w2
  simp only [heldB, khl, k8v, w2, k4t]
  rfl

theorem k15a (k : Int) (xs : List (Int × Int × Int)) (h : leN xs.length 9223372036854775807 = true) : khl k xs = heldB k xs ∧ km7 k xs = true := by
  obtain ⟨w1, w2⟩ := knz xs k (leN_iff.1 h)
  exact ⟨rfl, by simp only [km7, k8v, w1, allT, cond_true]⟩

def kq3 : List SV → List Entry → Option Out
  | [.one ⟨false, [.ref 0]⟩, .one ⟨false, [.val (.int .i64 x0)]⟩], [.row false 172 (.pair (.int .i64) (.pair (.int .i64) (.int .i64))) x1] => some ⟨(.one ⟨false, [(.val (.int IntKind.i64 (heldB x0 x1)))]⟩), [(.row false 172 (CTy.pair (CTy.int IntKind.i64) (CTy.pair (CTy.int IntKind.i64) (CTy.int IntKind.i64))) x1)], [], [leN x1.length 9223372036854775807]⟩
  | _, _ => none

def kme : PF Tryz.prog := PF.alt kw5 kq3 (by
  intro args es o h hnd; unfold kq3 at h; split at h
  · rename_i x0 x1
    cases h
    have hnd := nd_fst hnd
    have hh := k15a x0 x1 hnd
    obtain ⟨e0, en⟩ := hh
    exact altok rfl (nd_one en) (by simp only [e0] <;> rfl) rfl rfl
  · cases h)

def szL (k : Int) (n : Nat) : Int := bif ltI (k - n) 0 then -1 else k - n

theorem szI_ok (k : Int) (xs : List (Int × Int)) (h : (leN xs.length 9223372036854775807 && (leI (-1) k && leI k 1048576)) = true) : kmw k xs = szL k xs.length := by
  simp only [Bool.and_eq_true, leN_iff, leI_iff] at h
  simp only [kmw, km4, szL]
  rw [wrap_i64 (by omega) (by omega)]

theorem szB_ok (k : Int) (xs : List (Int × Int × Int)) (h : (leN xs.length 9223372036854775807 && (leI (-1) k && leI k 1048576)) = true) : knp k xs = szL k xs.length := by
  simp only [Bool.and_eq_true, leN_iff, leI_iff] at h
  simp only [knp, kn7, szL]
  rw [wrap_i64 (by omega) (by omega)]

def kqi : List SV → List Entry → Option Out
  | [.one ⟨false, [.ref 0]⟩, .one ⟨false, [.val (.int .i64 x0)]⟩], [.row false 183 (.pair (.int .i64) (.int .i64)) x1] => some ⟨(.one ⟨false, [(.val (.int IntKind.i64 (szL x0 x1.length)))]⟩), [(.row false 183 (CTy.pair (CTy.int IntKind.i64) (CTy.int IntKind.i64)) x1)], [], [leN x1.length 9223372036854775807 && (leI (-1) x0 && leI x0 1048576)]⟩
  | _, _ => none

def kn0 : PF Tryz.prog := PF.alt kwm kqi (by
  intro args es o h hnd; unfold kqi at h; split at h
  · rename_i x0 x1
    cases h
    have hnd := nd_fst hnd
    have hh := szI_ok x0 x1 hnd
    have e0 := hh
    exact altok rfl (fun _ h => by cases h) (by simp only [e0] <;> rfl) rfl rfl
  · cases h)

def krn : List SV → List Entry → Option Out
  | [.one ⟨false, [.ref 0]⟩, .one ⟨false, [.val (.int .i64 x0)]⟩], [.row false 194 (.pair (.int .i64) (.pair (.int .i64) (.int .i64))) x1] => some ⟨(.one ⟨false, [(.val (.int IntKind.i64 (szL x0 x1.length)))]⟩), [(.row false 194 (CTy.pair (CTy.int IntKind.i64) (CTy.pair (CTy.int IntKind.i64) (CTy.int IntKind.i64))) x1)], [], [leN x1.length 9223372036854775807 && (leI (-1) x0 && leI x0 1048576)]⟩
  | _, _ => none

def knw : PF Tryz.prog := PF.alt kxz krn (by
  intro args es o h hnd; unfold krn at h; split at h
  · rename_i x0 x1
    cases h
    have hnd := nd_fst hnd
    have hh := szB_ok x0 x1 hnd
    have e0 := hh
    exact altok rfl (fun _ h => by cases h) (by simp only [e0] <;> rfl) rfl rfl
  · cases h)

def szTGo : Int → List TM → Int
  | k, [] => k
  | k, t :: r => bif ltI (ked t.2.1 k) 0 then -1 else szTGo (ked t.2.1 k) r
def szTs (k : Int) (ts : List TM) : Int := bif ltI (k - ts.length) 0 then -1 else szTGo (k - ts.length) ts

theorem k156 {s : ByteArray} {k : Int} (hs : s.size ≤ 9223372036854775807) (hk : 0 ≤ k ∧ k ≤ 1048576) : ked s k = bif ltI (k - (s.size : Int)) 0 then -1 else k - (s.size : Int) := by
  have hw : IntKind.i64.wrap (k - (s.size : Int)) = k - (s.size : Int) := wrap_i64 (by omega) (by omega)
  simp only [ked, kui, hw]

def kd6  (b : Int × (ByteArray × Int)) : (Int) → Nat ⊕ (Int)
  | y1 => (bif ((ltI ((ked (Prod.fst (Prod.snd (b))) y1)) (0 : Int))) then (.inl 0) else (.inr (((ked (Prod.fst (Prod.snd (b))) y1)))))

def kc2 (y2 : List (Int × (ByteArray × Int))) (i : Nat) : (Int) → k9q
  | y1 => ((i : Int), y1, y2)

def kp5 : k9q → Int
  | (_, y1, _) => y1

theorem k11m (y2 : List (Int × (ByteArray × Int))) (y1 : Int) (hn : y2.length ≤ 9223372036854775807)  :
    k3g.fin ((0 : Int), y1, y2) = true ∧ k3g.res ((0 : Int), y1, y2) = ((walkL (kd6) 1 y2 0 y1).1, (kc2 y2) (walkL (kd6) 1 y2 0 y1).2.1 (walkL (kd6) 1 y2 0 y1).2.2) := by
  have key := k3g.along (kc2 y2) kp5 (kd6) 1 (fun _ _ => True) y2 y1 (by trivial) (by simp only [k3g, kc2]; omega) (fun i b a hb hI => ?_) (fun a hI => ?_)
  · exact key
  · obtain y1 := a
    have hlt := (List.getElem?_eq_some_iff.1 hb).1
    have hget : ∀ d, Option.getD y2[i]? d = b := fun d => by rw [hb]; rfl
    have hw := wrap64 hlt hn
    have hdec : ltI (i : Int) (y2.length : Int) = true := ltI_t (by omega)
    have hnn : leI (0 : Int) (i : Int) = true := leI_t (by omega)
    have hltd : ltN i y2.length = true := ltN_t hlt
    refine ⟨?_, ?_, ?_, ?_⟩
    · simp [kfj, kha, kkg, kki, kk7, kez, kkn, kk0, kj7, k3g, LT.nds, allT, kc2, hdec, hnn, hltd, hget]
    · simp [kfj, kha, kkg, kki, kk7, kez, kkn, kk0, kj7, k3g, LT.each, kc2, kp5, hw]
    · simp only [kfj, kha, kkg, kki, kk7, kez, kkn, kk0, kj7, k3g, LT.fn, kc2, kp5, kd6, Int.toNat_natCast, hdec, hnn, hltd, hget, cond_true, Bool.cond_self]
    · exact fun _ _ => trivial
  · obtain y1 := a
    simp [kfj, kha, kkg, kki, kk7, kez, kkn, kk0, kj7, k3g, LT.out, kc2]

theorem k14k : ∀ (r : List TM) (i : Nat) (k : Int), (bif Nat.beq (walkL kd6 1 r i k).1 0 then -1 else (walkL kd6 1 r i k).2.2) = szTGo k r
  | [], i, k => rfl
  | t :: r, i, k => by
    have hf : kd6 t k = bif ltI (ked t.2.1 k) 0 then .inl 0 else .inr (ked t.2.1 k) := rfl
    simp only [walkL, hf, szTGo]
    cases h : ltI (ked t.2.1 k) 0 with
    | true => rfl
    | false => simp only [cond_false]; exact k14k r (i + 1) _

theorem szT_ok (k : Int) (xs : List TM) (h : (leN xs.length 9223372036854775807 && (leI (-1) k && leI k 1048576)) = true) : kuy k xs = szTs k xs ∧ kv0 k xs = true := by
  simp only [Bool.and_eq_true, leN_iff, leI_iff] at h
  have hw : IntKind.i64.wrap (k - (xs.length : Int)) = k - (xs.length : Int) := wrap_i64 (by omega) (by omega)
  obtain ⟨w1, w2⟩ := k11m xs (k - (xs.length : Int)) h.1
  have hs := k14k xs 0 (k - (xs.length : Int))
  have e : kez = -1 := rfl
  simp only [kuy, kv0, kpk, kpj, hw, w1, w2, kc2, allT, Bool.or_true, cond_true, szTs, e, hs, and_self]

theorem k12v : ∀ (r : List TM) (k : Int), (∀ t ∈ r, t.2.1.size ≤ 9223372036854775807) → 0 ≤ k → k ≤ 1048576 → ltI (szTGo k r) 0 = false → szTGo k r = k - totT r ∧ (totT r : Int) ≤ k
  | [], k, _, h0, h1, _ => by simp [szTGo, totT]; omega
  | t :: r, k, hs, h0, h1, h => by
    have ht := k156 (k := k) (hs t (by simp)) ⟨h0, h1⟩
    simp only [szTGo] at h ⊢
    cases h2 : ltI (k - (t.2.1.size : Int)) 0 with
    | true => rw [ht, h2] at h; rw [cond_true] at h; exact absurd (show ltI (-1) 0 = false from h) (by decide)
    | false =>
      have h3 := ltI_not.1 h2
      rw [h2, cond_false] at ht
      rw [ht, h2, cond_false] at h
      obtain ⟨q1, q2⟩ := k12v r _ (fun t ht => hs t (by simp [ht])) h3 (by omega) h
      rw [ht, h2, cond_false, q1]
      simp only [totT]
      omega

theorem k14l {k : Int} {xs : List TM} (hs : ∀ t ∈ xs, t.2.1.size ≤ 9223372036854775807) (hk : k ≤ 1048576) (h : ltI (szTs k xs) 0 = false) : szTs k xs = k - xs.length - totT xs ∧ (xs.length : Int) + totT xs ≤ k := by
  simp only [szTs] at h ⊢
  cases h2 : ltI (k - (xs.length : Int)) 0 with
  | true => rw [h2] at h; simp at h
  | false =>
    have h3 := ltI_not.1 h2
    rw [h2, cond_false] at h
    obtain ⟨q1, q2⟩ := k12v xs _ hs h3 (by omega) h
    rw [cond_false, q1]
    omega

theorem k12y {k : Int} {n : Nat} (h : ltI (szL k n) 0 = false) : szL k n = k - n ∧ (n : Int) ≤ k := by
  simp only [szL] at h ⊢
  cases h2 : ltI (k - (n : Int)) 0 with
  | true => rw [h2] at h; simp at h
  | false => have := ltI_not.1 h2; rw [cond_false]; omega

def kyo : List SV → List Entry → Option Out
  | [.one ⟨false, [.ref 0]⟩, .one ⟨false, [.val (.int .i64 x0)]⟩], [.row false 175 (.pair (.int .i64) (.pair (.str) (.int .i64))) x1] => some ⟨(.one ⟨false, [(.val (.int IntKind.i64 (szTs x0 x1)))]⟩), [(.row false 175 (CTy.pair (CTy.int IntKind.i64) (CTy.pair CTy.str (CTy.int IntKind.i64))) x1)], [], [leN x1.length 9223372036854775807 && (leI (-1) x0 && leI x0 1048576)]⟩
  | _, _ => none

def kuc : PF Tryz.prog := PF.alt k132 kyo (by
  intro args es o h hnd; unfold kyo at h; split at h
  · rename_i x0 x1
    cases h
    have hnd := nd_fst hnd
    have hh := szT_ok x0 x1 hnd
    obtain ⟨e0, en⟩ := hh
    exact altok rfl (nd_one en) (by simp only [e0] <;> rfl) rfl rfl
  · cases h)

theorem k15c (xs : List (Int × Int × Int)) (h : (leN 1 xs.length && leN xs.length 1048576) = true) : kbg xs = true := by
  simp only [Bool.and_eq_true, leN_iff] at h
  simp [kbg, allT]
  omega

/-- slices.Clone at nil, at a slice of no elements; at any slice. -/
def k12a : List SV → List Entry → Option Out
  | [.one ⟨false, [.val (.slice none 0 0)]⟩], [] => some ⟨.one ⟨false, [.ref 0]⟩, [], [.row true 172 (.pair (.int .i64) (.pair (.int .i64) (.int .i64))) []], [true]⟩
  | _, _ => none
def k13y : PF Tryz.prog := PF.ofG Tryz.prog [PF.raw Tryz.prog] [] hmix 195 Tryz.f195 Tryz.func195 (fun c _ => LOk.nil c) k12a (by
  intro vs es r h; unfold k12a at h; split at h
  · cases h; kernel_rfl
  · cases h)
def k12c : List SV → List Entry → Option Out
  | [.one ⟨false, [.val (.slice (some _) 0 _)]⟩], [] => some ⟨.one ⟨false, [.ref 0]⟩, [], [.row true 172 (.pair (.int .i64) (.pair (.int .i64) (.int .i64))) []], [true]⟩
  | _, _ => none
def k13z : PF Tryz.prog := PF.ofG Tryz.prog [] [] hmix 195 Tryz.f195 Tryz.func195 (fun c _ => LOk.nil c) k12c (by
  intro vs es r h; unfold k12c at h; split at h
  · cases h; kernel_rfl
  · cases h)
def kkt : List SV → List Entry → Option Out
  | [.one ⟨false, [.ref 0]⟩], [.row false 172 (.pair (.int .i64) (.pair (.int .i64) (.int .i64))) x0] => some ⟨.one ⟨false, [.ref 1]⟩, [.row false 172 (.pair (.int .i64) (.pair (.int .i64) (.int .i64))) x0], [.row true 172 (.pair (.int .i64) (.pair (.int .i64) (.int .i64))) x0], [leN x0.length 1048576]⟩
  | _, _ => none
def kex : PF Tryz.prog where
  k := 195
  F := kkt
  ok := by
    intro args es o h hnd mem ρ w hp
    unfold kkt at h
    split at h
    · rename_i x0
      cases h
      have hl := hnd _ (List.mem_singleton.2 rfl)
      cases x0 with
      | nil =>
        exact (clone0 k13y k13z rfl rfl rfl (fun _ _ => rfl) (by simp) (by simp) hp).mono fun en w' ⟨ρ', h1, h2, h3⟩ => ⟨ρ', h1, h2, rfl, (by intro v hv; rw [List.mem_singleton.1 hv]; rfl), h3⟩
      | cons x xs => exact kqd.ok _ _ ⟨_, _, _, [kbg (x :: xs)]⟩ rfl (fun b hb => by rw [List.mem_singleton.1 hb]; exact k15c (x :: xs) ((Bool.and_eq_true _ _).mpr ⟨leN_t (Nat.succ_pos _), hl⟩)) mem ρ w hp
    · cases h

end Go.SX

namespace Go.SX
open Go.Proofs
set_option maxRecDepth 100000

abbrev IN := Int × Int
abbrev BS3 := Int × Int × Int

/-- What an instruction takes, gives, whether it fits. -/
def tkI (bs : List TM) (x : IN) : Int := k3l x.1 x.2 bs
def gvI (x : IN) : Int := k6b x.1
def fitI (i v o : Int) (bs : List TM) (x : IN) : Bool := kf9 i v o x.1 x.2 bs

theorem k15x (k : Int) : 0 ≤ kle k ∧ kle k ≤ 2 := by
  unfold kle
  generalize (bif k == 1 then k == 1 else bif k == 2 then k == 2 else k == 3) = b1
  generalize (bif k == 4 then k == 4 else bif k == 7 then k == 7 else bif k == 8 then k == 8 else k == 9) = b2
  cases b1 <;> cases b2 <;> decide

theorem tkI_in (bs : List TM) (x : IN) : 0 ≤ tkI bs x ∧ tkI bs x ≤ 2 := by
  have h := k15x (Prod.fst (Option.getD bs[Int.toNat x.2]? ((0 : Int), ByteArray.empty, (0 : Int))))
  unfold tkI k3l
  generalize k82 x.1 = b1
  generalize k86 x.1 = b2
  generalize kcw x.1 = b3
  generalize (x.1 == 4) = b4
  generalize (x.1 == 7) = b5
  cases b1 <;> cases b4 <;> cases b2 <;> cases b5 <;> cases b3 <;> simp only [cond_true, cond_false] <;> first | exact h | decide

theorem gvI_in (x : IN) : 0 ≤ gvI x ∧ gvI x ≤ 1 := by
  unfold gvI k6b
  generalize k82 x.1 = b1
  generalize k86 x.1 = b2
  generalize kcw x.1 = b3
  generalize (x.1 == 4) = b4
  generalize (x.1 == 7) = b5
  cases b1 <;> cases b4 <;> cases b2 <;> cases b5 <;> cases b3 <;> decide

theorem fit_nd {i v o : Int} {bs : List TM} {x : IN} (hl : bs.length ≤ 2000) (h : fitI i v o bs x = true) : kfg x.1 x.2 bs = true := by
  by_cases h7 : x.1 = 7
  · simp [fitI, kf9, h7, k1r, Bool.cond_eq_ite] at h
    have hw : IntKind.i64.wrap ((bs.length : Int) - 1) = bs.length - 1 := wrap_i64 (by omega) (by omega)
    rw [hw] at h
    have h1 : leI 0 x.2 = true := leI_t (by omega)
    have h2 : ltI x.2 (bs.length : Int) = true := ltI_t (by omega)
    have h3 : ltN x.2.toNat bs.length = true := ltN_t (by omega)
    simp [kfg, allT, h1, h2, h3]
  · simp [kfg, allT, h7]

theorem k14v {i v o : Int} {bs : List TM} {x : IN} (hi : 0 ≤ i ∧ i ≤ 20) (hv : 0 ≤ v ∧ v ≤ 20) (ho : 0 ≤ o ∧ o ≤ 20) (hl : bs.length ≤ 2000) :
    (bif ltI x.2 0 then true else leI (k3f i v o x.1 bs) x.2) = !fitI i v o bs x := by
  have w1 : IntKind.i64.wrap (i - 1) = i - 1 := wrap_i64 (by omega) (by omega)
  have w2 : IntKind.i64.wrap (v - 1) = v - 1 := wrap_i64 (by omega) (by omega)
  have w3 : IntKind.i64.wrap (o - 1) = o - 1 := wrap_i64 (by omega) (by omega)
  have w4 : IntKind.i64.wrap ((bs.length : Int) - 1) = bs.length - 1 := wrap_i64 (by omega) (by omega)
  have key : ∀ m : Int, (bif ltI x.2 0 then true else leI m x.2) = !(bif leI 0 x.2 then leI x.2 (m - 1) else false) := fun m => by
    by_cases h0 : x.2 < 0
    · have a1 : ltI x.2 0 = true := ltI_t h0
      have a2 : leI 0 x.2 = false := leI_f (by omega)
      simp [a1, a2]
    · have a1 : ltI x.2 0 = false := ltI_f (by omega)
      have a2 : leI 0 x.2 = true := leI_t (by omega)
      simp only [a1, a2, cond_false, cond_true]
      by_cases hm : m ≤ x.2
      · rw [leI_t hm, leI_f (by omega)]; rfl
      · rw [leI_f (by omega), leI_t (by omega)]; rfl
  rw [key]
  simp only [fitI, kf9, k3f, klj, k1r, w1, w2, w3, w4]
  generalize (bif x.1 == 2 then x.1 == 2 else x.1 == 10) = b2
  generalize (bif x.1 == 3 then x.1 == 3 else bif x.1 == 8 then x.1 == 8 else x.1 == 11) = b3
  generalize (bif x.1 == 4 then x.1 == 4 else bif x.1 == 5 then x.1 == 5 else x.1 == 6) = b4
  generalize (x.1 == 1) = b1
  generalize (x.1 == 7) = b5
  generalize (x.1 == 9) = b6
  have e0 : (bif leI 0 x.2 then leI x.2 (1 - 1) else false) = (x.2 == 0) := by
    by_cases h : x.2 = 0
    · rw [h]; rfl
    · have : (x.2 == 0) = false := by simpa using h
      rw [this]
      by_cases h0 : 0 ≤ x.2
      · rw [leI_t h0, leI_f (by omega)]; rfl
      · rw [leI_f (by omega)]; rfl
  have e1 : (bif leI 0 x.2 then leI x.2 (0 - 1) else false) = false := by
    by_cases h0 : 0 ≤ x.2
    · rw [leI_t h0, leI_f (by omega)]; rfl
    · rw [leI_f (by omega)]; rfl
  cases b1 <;> cases b2 <;> cases b3 <;> cases b4 <;> cases b5 <;> cases b6 <;> simp only [cond_true, cond_false, e0, e1] <;> rfl

/-- The heights behind instructions. -/
def hgt (i v o : Int) (bs : List TM) : List IN → Int → List Int → Option (Int × List Int)
  | [], n, acc => some (n, acc)
  | x :: r, n, acc => bif fitI i v o bs x && (leI (tkI bs x) n && leI (n - tkI bs x + gvI x) 40) then hgt i v o bs r (n - tkI bs x + gvI x) (acc ++ [n - tkI bs x + gvI x]) else none

theorem k15o {i v o : Int} {bs : List TM} : ∀ (st : List IN) (n : Int) (acc : List Int) (m : Int) (out : List Int), hgt i v o bs st n acc = some (m, out) → out.length = acc.length + st.length
  | [], n, acc, m, out, h => by simp only [hgt, Option.some.injEq, Prod.mk.injEq] at h; rw [← h.2]; simp
  | x :: r, n, acc, m, out, h => by
    simp only [hgt] at h
    cases hc : (fitI i v o bs x && (leI (tkI bs x) n && leI (n - tkI bs x + gvI x) 40)) with
    | false => rw [hc] at h; cases h
    | true =>
      rw [hc] at h
      have := k15o r _ _ _ _ h
      rw [this]; simp; omega

/-- A step of the heights, as the reference does it. -/
def k141 (i v o : Int) (bs : List TM) (b : IN) : Int × List Int → Nat ⊕ (Int × List Int)
  | (n, acc) => bif !kf9 i v o b.1 b.2 bs then .inl 0 else
      bif (bif ltI n (k3l b.1 b.2 bs) then true else ltI 40 (IntKind.i64.wrap (IntKind.i64.wrap (n - k3l b.1 b.2 bs) + k6b b.1))) then .inl 1 else
      .inr (IntKind.i64.wrap (IntKind.i64.wrap (n - k3l b.1 b.2 bs) + k6b b.1), acc ++ [IntKind.i64.wrap (IntKind.i64.wrap (n - k3l b.1 b.2 bs) + k6b b.1)])

theorem k15i {i v o : Int} {bs : List TM} {b : IN} {n : Int} {acc : List Int} (hn : 0 ≤ n ∧ n ≤ 40) :
    k141 i v o bs b (n, acc) = bif !fitI i v o bs b then .inl 0 else bif !(leI (tkI bs b) n && leI (n - tkI bs b + gvI b) 40) then .inl 1 else .inr (n - tkI bs b + gvI b, acc ++ [n - tkI bs b + gvI b]) := by
  have ht := tkI_in bs b
  have hg := gvI_in b
  have e1 : k3l b.1 b.2 bs = tkI bs b := rfl
  have e2 : k6b b.1 = gvI b := rfl
  have e3 : kf9 i v o b.1 b.2 bs = fitI i v o bs b := rfl
  have w1 : IntKind.i64.wrap (n - tkI bs b) = n - tkI bs b := wrap_i64 (by omega) (by omega)
  have w2 : IntKind.i64.wrap (n - tkI bs b + gvI b) = n - tkI bs b + gvI b := wrap_i64 (by omega) (by omega)
  simp only [k141, e1, e2, e3, w1, w2]
  cases fitI i v o bs b with
  | false => rfl
  | true =>
    have e4 : (bif ltI n (tkI bs b) then true else ltI 40 (n - tkI bs b + gvI b)) = !(leI (tkI bs b) n && leI (n - tkI bs b + gvI b) 40) := by
      by_cases h1 : n < tkI bs b
      · rw [ltI_t h1, leI_f (by omega)]; rfl
      · rw [ltI_f (by omega), leI_t (by omega)]
        by_cases h2 : 40 < n - tkI bs b + gvI b
        · rw [ltI_t h2, leI_f (by omega)]; rfl
        · rw [ltI_f (by omega), leI_t (by omega)]; rfl
    rw [e4]

/-- The heights by a walk. -/
theorem k140 {i v o : Int} {bs : List TM} {f : IN → Int × List Int → Nat ⊕ (Int × List Int)} {e : Nat}
    (hf : ∀ b n acc, 0 ≤ n ∧ n ≤ 40 → ((fitI i v o bs b && (leI (tkI bs b) n && leI (n - tkI bs b + gvI b) 40)) = true → f b (n, acc) = .inr (n - tkI bs b + gvI b, acc ++ [n - tkI bs b + gvI b])) ∧
      ((fitI i v o bs b && (leI (tkI bs b) n && leI (n - tkI bs b + gvI b) 40)) = false → ∃ j, j < e ∧ f b (n, acc) = .inl j)) :
    ∀ (r : List IN) (k : Nat) (n : Int) (acc : List Int), 0 ≤ n ∧ n ≤ 40 →
      (∀ m out, hgt i v o bs r n acc = some (m, out) → walkL f e r k (n, acc) = (e, k + r.length, (m, out)) ∧ 0 ≤ m ∧ m ≤ 40) ∧ (hgt i v o bs r n acc = none → (walkL f e r k (n, acc)).1 < e)
  | [], k, n, acc, hn => ⟨fun m out h => by simp only [hgt, Option.some.injEq, Prod.mk.injEq] at h; obtain ⟨rfl, rfl⟩ := h; exact ⟨rfl, hn⟩, fun h => by simp [hgt] at h⟩
  | b :: r, k, n, acc, hn => by
    have ht := tkI_in bs b
    have hg := gvI_in b
    cases hc : (fitI i v o bs b && (leI (tkI bs b) n && leI (n - tkI bs b + gvI b) 40)) with
    | true =>
      have h1 := (hf b n acc hn).1 hc
      have hb : 0 ≤ n - tkI bs b + gvI b ∧ n - tkI bs b + gvI b ≤ 40 := by simp only [Bool.and_eq_true, leI_iff] at hc; omega
      obtain ⟨g1, g2⟩ := k140 hf r (k + 1) _ (acc ++ [n - tkI bs b + gvI b]) hb
      simp only [hgt, hc, cond_true, walkL, h1]
      refine ⟨fun m out h => ?_, g2⟩
      obtain ⟨q1, q2⟩ := g1 m out h
      refine ⟨?_, q2⟩
      rw [q1]; simp; omega
    | false =>
      obtain ⟨j, hj, h1⟩ := (hf b n acc hn).2 hc
      simp only [hgt, hc, cond_false, walkL, h1]
      exact ⟨fun m out h => (by cases h), fun _ => hj⟩

def k9g (y2 : Int) (y3 : Int) (y4 : Int) (y6 : List (Int × (ByteArray × Int))) (b : Int × Int) : (Int × List Int) → Nat ⊕ (Int × List Int)
  | (y1, y5) => (bif ((!kf9 y2 y3 y4 (Prod.fst ((b))) (Prod.snd ((b))) y6)) then (.inl 0) else (bif ((bif ltI y1 ((k3l (Prod.fst ((b))) (Prod.snd ((b))) y6)) then true else ltI (40 : Int) ((IntKind.wrap IntKind.i64 (IntKind.wrap IntKind.i64 (y1 - (k3l (Prod.fst ((b))) (Prod.snd ((b))) y6)) + k6b (Prod.fst ((b)))))))) then (.inl 1) else (.inr ((((IntKind.wrap IntKind.i64 (IntKind.wrap IntKind.i64 (y1 - (k3l (Prod.fst ((b))) (Prod.snd ((b))) y6)) + k6b (Prod.fst ((b))))))), ((y5 ++ [(IntKind.wrap IntKind.i64 (IntKind.wrap IntKind.i64 (y1 - (k3l (Prod.fst ((b))) (Prod.snd ((b))) y6)) + k6b (Prod.fst ((b)))))]))))))

def k8t (y2 : Int) (y3 : Int) (y4 : Int) (y6 : List (Int × (ByteArray × Int))) (y7 : List (Int × Int)) (i : Nat) : (Int × List Int) → k6g
  | (y1, y5) => ((i : Int), y1, y2, y3, y4, y5, y6, y7)

def kmv : k6g → Int × List Int
  | (_, y1, _, _, _, y5, _, _) => (y1, y5)

theorem kyc (y2 : Int) (y3 : Int) (y4 : Int) (y6 : List (Int × (ByteArray × Int))) (y7 : List (Int × Int)) (y1 : Int) (y5 : List Int) (hn : y7.length ≤ 9223372036854775807) (hst : y7.length ≤ 2000) (hbs : y6.length ≤ 2000) (hin : (0 ≤ y1 ∧ y1 ≤ 40) ∧ y5.length = 0) :
    k2a.fin ((0 : Int), y1, y2, y3, y4, y5, y6, y7) = true ∧ k2a.res ((0 : Int), y1, y2, y3, y4, y5, y6, y7) = ((walkL (k9g y2 y3 y4 y6) 2 y7 0 (y1, y5)).1, (k8t y2 y3 y4 y6 y7) (walkL (k9g y2 y3 y4 y6) 2 y7 0 (y1, y5)).2.1 (walkL (k9g y2 y3 y4 y6) 2 y7 0 (y1, y5)).2.2) := by
  have key := k2a.along (k8t y2 y3 y4 y6 y7) kmv (k9g y2 y3 y4 y6) 2 (fun i a => (0 ≤ a.1 ∧ a.1 ≤ 40) ∧ a.2.length = i) y7 (y1, y5) hin (by simp only [k2a, k8t]; omega) (fun i b a hb hI => ?_) (fun a hI => ?_)
  · exact key
  · obtain ⟨y1, y5⟩ := a
    have hlt := (List.getElem?_eq_some_iff.1 hb).1
    have hget : ∀ d, Option.getD y7[i]? d = b := fun d => by rw [hb]; rfl
    have hw := wrap64 hlt hn
    have hdec : ltI (i : Int) (y7.length : Int) = true := ltI_t (by omega)
    have hnn : leI (0 : Int) (i : Int) = true := leI_t (by omega)
    have hltd : ltN i y7.length = true := ltN_t hlt
    refine ⟨?_, ?_, ?_, ?_⟩
    · have hg2 : k2t (i : Int) y7 = b := by simp only [k2t, Int.toNat_natCast]; exact hget _
      have hl := hI.2
      have h6 : leN (y5.length + 1) 9223372036854775807 = true := leN_t (by simp only at hl; omega)
      have h7 : leN ((y5.length + 1) * 8) 140737488355328 = true := leN_t (by simp only at hl; omega)
      have h8 : fitI y2 y3 y4 y6 b = true → kfg b.1 b.2 y6 = true := fit_nd hbs
      simp only [kbj, kgj, kfu, kgk, kjk, kjs, kjt, kf1, k2a, LT.nds, allT, k8t, hdec, hnn, hltd, hg2, List.length_singleton, h6, h7, Int.toNat_natCast, cond_true, cond_false]
      change (bif !fitI y2 y3 y4 y6 b then _ else _) = true
      cases hf : fitI y2 y3 y4 y6 b with
      | false => rfl
      | true => simp [h8 hf]
    · simp [k2t, kf4, k8r, kbj, kgj, kfu, kgk, kjk, kjy, kjs, kjt, kjm, kjn, ki6, kf1, k2a, LT.each, k8t, kmv, hw]
    · have hg2 : k2t (i : Int) y7 = b := by simp only [k2t, Int.toNat_natCast]; exact hget _
      simp only [kbj, kgk, kjy, kjm, kjn, ki6, kf4, k8r, kf1, k2a, LT.fn, k8t, kmv, k9g, Int.toNat_natCast, hdec, hg2, cond_true]
    · have hk := hI.1
      simp only at hk
      have hs := k15i (i := y2) (v := y3) (o := y4) (bs := y6) (b := b) (acc := y5) hk
      intro a' hf
      have hf : k141 y2 y3 y4 y6 b (y1, y5) = .inr a' := hf
      rw [hs] at hf
      have ht := tkI_in y6 b
      have hg := gvI_in b
      cases hq : fitI y2 y3 y4 y6 b with
      | false => rw [hq] at hf; cases hf
      | true =>
        cases hq2 : (leI (tkI y6 b) y1 && leI (y1 - tkI y6 b + gvI b) 40) with
        | false => rw [hq, hq2] at hf; cases hf
        | true =>
          rw [hq, hq2] at hf; cases hf
          simp only [Bool.and_eq_true, leI_iff] at hq2
          exact ⟨by simp only; omega, by have hl := hI.2; simp only at hl; simp [hl]⟩
  · obtain ⟨y1, y5⟩ := a
    simp [k2t, kf4, k8r, kbj, kgj, kfu, kgk, kjk, kjy, kjs, kjt, kjm, kjn, ki6, kf1, k2a, LT.out, k8t]

end Go.SX

namespace Go.SX
open Go.Proofs
set_option maxRecDepth 100000

/-- The heights' end. -/
def hgtOk (i v o : Int) (bs : List TM) (st : List IN) : Bool := match hgt i v o bs st 0 [] with | some (m, _) => m == 0 | none => false
def hgtL (i v o : Int) (bs : List TM) (st : List IN) : List Int := match hgt i v o bs st 0 [] with | some (_, out) => out | none => []
def blksB (bs : List TM) : Bool := bs.all fun t => blockB t.1 t.2.1 t.2.2
def rngC (i v o : Int) (bs : List TM) (st : List IN) : Bool := inR i 0 20 && (inR v 0 20 && (inR o 0 20 && (leN bs.length 2000 && leN st.length 2000)))
def codeB (i v o : Int) (bs : List TM) (st : List IN) : Bool := rngC i v o bs st && (blksB bs && hgtOk i v o bs st)
def tsOk (bs : List TM) : Bool := leN bs.length 9223372036854775807 && bs.all fun t => leN t.2.1.size 9223372036854775807

theorem k13e {bs : List TM} : tsOk bs = true ↔ bs.length ≤ 9223372036854775807 ∧ ∀ t ∈ bs, t.2.1.size ≤ 9223372036854775807 := by
  simp only [tsOk, Bool.and_eq_true, leN_iff, List.all_eq_true]

theorem kvs {i v o : Int} {bs : List TM} {st : List IN} : rngC i v o bs st = true ↔ (0 ≤ i ∧ i ≤ 20) ∧ (0 ≤ v ∧ v ≤ 20) ∧ (0 ≤ o ∧ o ≤ 20) ∧ bs.length ≤ 2000 ∧ st.length ≤ 2000 := by
  simp only [rngC, Bool.and_eq_true, ks3, leN_iff]

theorem specHts (i v o : Int) (bs : List TM) (st : List IN) (hst : st.length ≤ 2000) (hbs : bs.length ≤ 2000) :
    kng i v o bs st = hgtOk i v o bs st ∧ kqc i v o bs st = hgtL i v o bs st ∧ kno i v o bs st = true := by
  obtain ⟨w1, w2⟩ := kyc i v o bs st 0 [] (by omega) hst hbs ⟨⟨by omega, by omega⟩, rfl⟩
  have hw := k140 (i := i) (v := v) (o := o) (bs := bs) (f := k9g i v o bs) (e := 2) (fun b n acc hn => by
    have h := k15i (i := i) (v := v) (o := o) (bs := bs) (b := b) (n := n) (acc := acc) hn
    have h : k9g i v o bs b (n, acc) = _ := h
    rw [h]
    refine ⟨fun hc => ?_, fun hc => ?_⟩
    · simp only [Bool.and_eq_true] at hc
      simp [hc.1, hc.2.1, hc.2.2]
    · cases hq : fitI i v o bs b with
      | false => exact ⟨0, by omega, rfl⟩
      | true =>
        rw [hq, Bool.true_and] at hc
        exact ⟨1, by omega, by rw [hc]; rfl⟩) st 0 0 [] ⟨by omega, by omega⟩
  simp only [kng, kqc, kno, kiq, kox, kp3, kp4, w1, allT, cond_true]
  rw [w2]
  simp only [hgtOk, hgtL]
  cases hh : hgt i v o bs st 0 [] with
  | none =>
    have := hw.2 hh
    generalize walkL (k9g i v o bs) 2 st 0 (0, []) = r at this ⊢
    obtain ⟨j, k, a⟩ := r
    have : j = 0 ∨ j = 1 := by simp only at this; omega
    rcases this with rfl | rfl <;> simp [Nat.beq]
  | some r =>
    obtain ⟨m, out⟩ := r
    have := (hw.1 m out hh).1
    rw [this]
    simp [Nat.beq, k8t]

def k13x (i v o : Int) (bs : List TM) (b : IN) : Int × List Int → Nat ⊕ (Int × List Int)
  | (n, acc) => bif (bif ltI b.2 0 then true else leI (k3f i v o b.1 bs) b.2) then .inl 0 else
      bif ltI n (k18 b.1 b.2 bs) then .inl 1 else
      bif ltI 40 (IntKind.i64.wrap (n + IntKind.i64.wrap (k1n b.1 - k18 b.1 b.2 bs))) then .inl 2 else
      .inr (IntKind.i64.wrap (n + IntKind.i64.wrap (k1n b.1 - k18 b.1 b.2 bs)), acc ++ [IntKind.i64.wrap (n + IntKind.i64.wrap (k1n b.1 - k18 b.1 b.2 bs))])

theorem k15m {i v o : Int} {bs : List TM} {b : IN} {n : Int} {acc : List Int} (hr : (0 ≤ i ∧ i ≤ 20) ∧ (0 ≤ v ∧ v ≤ 20) ∧ 0 ≤ o ∧ o ≤ 20) (hl : bs.length ≤ 2000) (hn : 0 ≤ n ∧ n ≤ 40) :
    k13x i v o bs b (n, acc) = bif !fitI i v o bs b then .inl 0 else bif !leI (tkI bs b) n then .inl 1 else bif !leI (n - tkI bs b + gvI b) 40 then .inl 2 else .inr (n - tkI bs b + gvI b, acc ++ [n - tkI bs b + gvI b]) := by
  have ht := tkI_in bs b
  have hg := gvI_in b
  have e1 : k18 b.1 b.2 bs = tkI bs b := rfl
  have e2 : k1n b.1 = gvI b := rfl
  have w1 : IntKind.i64.wrap (gvI b - tkI bs b) = gvI b - tkI bs b := wrap_i64 (by omega) (by omega)
  have w2 : IntKind.i64.wrap (n + (gvI b - tkI bs b)) = n - tkI bs b + gvI b := by rw [wrap_i64 (by omega) (by omega)]; omega
  simp only [k13x, k14v hr.1 hr.2.1 hr.2.2 hl, e1, e2, w1, w2]
  have n1 : ltI n (tkI bs b) = !leI (tkI bs b) n := by
    by_cases h1 : n < tkI bs b
    · rw [ltI_t h1, leI_f (by omega)]; rfl
    · rw [ltI_f (by omega), leI_t (by omega)]; rfl
  have n2 : ltI 40 (n - tkI bs b + gvI b) = !leI (n - tkI bs b + gvI b) 40 := by
    by_cases h1 : 40 < n - tkI bs b + gvI b
    · rw [ltI_t h1, leI_f (by omega)]; rfl
    · rw [ltI_f (by omega), leI_t (by omega)]; rfl
  rw [n1, n2]

def k1u (y4 : Int) (y5 : Int) (y6 : Int) (y8 : List (Int × (ByteArray × Int))) (b : Int × Int) : (Int × List Int) → Nat ⊕ (Int × List Int)
  | (y2, y7) => (bif ((bif ltI (Prod.snd ((b))) (0 : Int) then true else leI (k3f y4 y5 y6 (Prod.fst ((b))) y8) (Prod.snd ((b))))) then (.inl 0) else (bif ((ltI y2 ((k18 (Prod.fst ((b))) (Prod.snd ((b))) y8)))) then (.inl 1) else (bif ((ltI (40 : Int) ((IntKind.wrap IntKind.i64 (y2 + IntKind.wrap IntKind.i64 (k1n (Prod.fst ((b))) - (k18 (Prod.fst ((b))) (Prod.snd ((b))) y8))))))) then (.inl 2) else (.inr ((((IntKind.wrap IntKind.i64 (y2 + IntKind.wrap IntKind.i64 (k1n (Prod.fst ((b))) - (k18 (Prod.fst ((b))) (Prod.snd ((b))) y8)))))), ((y7 ++ [(IntKind.wrap IntKind.i64 (y2 + IntKind.wrap IntKind.i64 (k1n (Prod.fst ((b))) - (k18 (Prod.fst ((b))) (Prod.snd ((b))) y8))))])))))))

def k1s (y3 : List (Int × Int)) (y4 : Int) (y5 : Int) (y6 : Int) (y8 : List (Int × (ByteArray × Int))) (i : Nat) : (Int × List Int) → k1g
  | (y2, y7) => ((i : Int), (↑(List.length y3) : Int), y2, y3, y4, y5, y6, y7, y8)

def k84 : k1g → Int × List Int
  | (_, _, y2, _, _, _, _, y7, _) => (y2, y7)

theorem klg (y3 : List (Int × Int)) (y4 : Int) (y5 : Int) (y6 : Int) (y8 : List (Int × (ByteArray × Int))) (y2 : Int) (y7 : List Int) (hn : y3.length ≤ 9223372036854775807) (hst : y3.length ≤ 2000) (hbs : y8.length ≤ 2000) (hr : (0 ≤ y4 ∧ y4 ≤ 20) ∧ (0 ≤ y5 ∧ y5 ≤ 20) ∧ 0 ≤ y6 ∧ y6 ≤ 20) (hin : (0 ≤ y2 ∧ y2 ≤ 40) ∧ y7.length = 0) :
    kj.fin ((0 : Int), (↑(List.length y3) : Int), y2, y3, y4, y5, y6, y7, y8) = true ∧ kj.res ((0 : Int), (↑(List.length y3) : Int), y2, y3, y4, y5, y6, y7, y8) = ((walkL (k1u y4 y5 y6 y8) 3 y3 0 (y2, y7)).1, (k1s y3 y4 y5 y6 y8) (walkL (k1u y4 y5 y6 y8) 3 y3 0 (y2, y7)).2.1 (walkL (k1u y4 y5 y6 y8) 3 y3 0 (y2, y7)).2.2) := by
  have key := kj.along (k1s y3 y4 y5 y6 y8) k84 (k1u y4 y5 y6 y8) 3 (fun i a => (0 ≤ a.1 ∧ a.1 ≤ 40) ∧ a.2.length = i) y3 (y2, y7) hin (by simp only [kj, k1s]; omega) (fun i b a hb hI => ?_) (fun a hI => ?_)
  · exact key
  · obtain ⟨y2, y7⟩ := a
    have hlt := (List.getElem?_eq_some_iff.1 hb).1
    have hget : ∀ d, Option.getD y3[i]? d = b := fun d => by rw [hb]; rfl
    have hw := wrap64 hlt hn
    have hdec : ltI (i : Int) (y3.length : Int) = true := ltI_t (by omega)
    have hnn : leI (0 : Int) (i : Int) = true := leI_t (by omega)
    have hltd : ltN i y3.length = true := ltN_t hlt
    refine ⟨?_, ?_, ?_, ?_⟩
    · have hg2 : ku (i : Int) y3 = b := by simp only [ku, Int.toNat_natCast]; exact hget _
      have hl := hI.2
      have h6 : leN (y7.length + 1) 9223372036854775807 = true := leN_t (by simp only at hl; omega)
      have h7 : leN ((y7.length + 1) * 8) 140737488355328 = true := leN_t (by simp only at hl; omega)
      have h8 : fitI y4 y5 y6 y8 b = true → k4h b.1 b.2 y8 = true := fit_nd hbs
      simp only [k36, k5o, k5l, k5j, k3b, k5k, k5p, k5m, k2y, kj, LT.nds, allT, k1s, hdec, hnn, hltd, hg2, List.length_singleton, h6, h7, Int.toNat_natCast, k14v hr.1 hr.2.1 hr.2.2 hbs, cond_true, cond_false]
      cases hf : fitI y4 y5 y6 y8 b with
      | false => rfl
      | true => simp [h8 hf]
    · simp [ku, k2z, k1t, k36, k5o, k5l, k5j, k3b, k5k, k5n, k5q, k5p, k5m, k56, k59, k5b, k2y, kj, LT.each, k1s, k84, hw]
    · have hg2 : ku (i : Int) y3 = b := by simp only [ku, Int.toNat_natCast]; exact hget _
      simp only [k36, k3b, k5n, k5q, k56, k59, k5b, k2z, k1t, k2y, kj, LT.fn, k1s, k84, k1u, Int.toNat_natCast, hdec, hg2, cond_true]
    · have hk := hI.1
      simp only at hk
      have hs := k15m (i := y4) (v := y5) (o := y6) (bs := y8) (b := b) (acc := y7) hr hbs hk
      intro a' hf
      have hf : k13x y4 y5 y6 y8 b (y2, y7) = .inr a' := hf
      rw [hs] at hf
      have ht := tkI_in y8 b
      have hg := gvI_in b
      cases hq : fitI y4 y5 y6 y8 b with
      | false => rw [hq] at hf; cases hf
      | true =>
        cases hq2 : leI (tkI y8 b) y2 with
        | false => rw [hq, hq2] at hf; cases hf
        | true =>
          cases hq3 : leI (y2 - tkI y8 b + gvI b) 40 with
          | false => rw [hq, hq2, hq3] at hf; cases hf
          | true =>
            rw [hq, hq2, hq3] at hf; cases hf
            have hq2 := leI_iff.1 hq2
            have hq3 := leI_iff.1 hq3
            exact ⟨by simp only; omega, by have hl := hI.2; simp only at hl; simp [hl]⟩
  · obtain ⟨y2, y7⟩ := a
    simp [ku, k2z, k1t, k36, k5o, k5l, k5j, k3b, k5k, k5n, k5q, k5p, k5m, k56, k59, k5b, k2y, kj, LT.out, k1s]

theorem implHts (i v o : Int) (bs : List TM) (st : List IN) (hr : (0 ≤ i ∧ i ≤ 20) ∧ (0 ≤ v ∧ v ≤ 20) ∧ 0 ≤ o ∧ o ≤ 20) (hst : st.length ≤ 2000) (hbs : bs.length ≤ 2000) :
    k6o i v o bs st = hgtOk i v o bs st ∧ ka3 i v o bs st = hgtL i v o bs st ∧ k6j i v o bs st = true := by
  obtain ⟨w1, w2⟩ := klg st i v o bs 0 [] (by omega) hst hbs hr ⟨⟨by omega, by omega⟩, rfl⟩
  have hw := k140 (i := i) (v := v) (o := o) (bs := bs) (f := k1u i v o bs) (e := 3) (fun b n acc hn => by
    have h := k15m (i := i) (v := v) (o := o) (bs := bs) (b := b) (n := n) (acc := acc) hr hbs hn
    have h : k1u i v o bs b (n, acc) = _ := h
    rw [h]
    refine ⟨fun hc => ?_, fun hc => ?_⟩
    · simp only [Bool.and_eq_true] at hc
      simp [hc.1, hc.2.1, hc.2.2]
    · cases hq : fitI i v o bs b with
      | false => exact ⟨0, by omega, rfl⟩
      | true =>
        rw [hq, Bool.true_and] at hc
        cases hq2 : leI (tkI bs b) n with
        | false => exact ⟨1, by omega, rfl⟩
        | true => rw [hq2, Bool.true_and] at hc; exact ⟨2, by omega, by rw [hc]; rfl⟩) st 0 0 [] ⟨by omega, by omega⟩
  simp only [k6o, ka3, k6j, k2p, k9i, k9f, k9l, k9b, w1, allT, cond_true]
  rw [w2]
  simp only [hgtOk, hgtL]
  cases hh : hgt i v o bs st 0 [] with
  | none =>
    have := hw.2 hh
    generalize walkL (k1u i v o bs) 3 st 0 (0, []) = r at this ⊢
    obtain ⟨j, k, a⟩ := r
    have : j = 0 ∨ j = 1 ∨ j = 2 := by simp only at this; omega
    rcases this with rfl | rfl | rfl <;> simp [Nat.beq]
  | some r =>
    obtain ⟨m, out⟩ := r
    have := (hw.1 m out hh).1
    rw [this]
    simp [Nat.beq, k1s]

def km9  (b : Int × (ByteArray × Int)) : (Unit) → Nat ⊕ (Unit)
  | _ => (bif ((!blockB (Prod.fst ((b))) (Prod.fst (Prod.snd ((b)))) (Prod.snd (Prod.snd ((b)))))) then (.inl 0) else (.inr ()))

def kev (y1 : Int) (y2 : Int) (y3 : Int) (y4 : List (Int × (ByteArray × Int))) (y5 : List (Int × Int)) (i : Nat) : (Unit) → kaz
  | _ => ((i : Int), y1, y2, y3, y4, y5)

def kq9 : kaz → Unit
  | (_, _, _, _, _, _) => ()

theorem k122 (y1 : Int) (y2 : Int) (y3 : Int) (y4 : List (Int × (ByteArray × Int))) (y5 : List (Int × Int))  (hn : y4.length ≤ 9223372036854775807) (hA : ∀ t ∈ y4, t.2.1.size ≤ 9223372036854775807) :
    k5g.fin ((0 : Int), y1, y2, y3, y4, y5) = true ∧ k5g.res ((0 : Int), y1, y2, y3, y4, y5) = ((walkL (km9) 1 y4 0 ()).1, (kev y1 y2 y3 y4 y5) (walkL (km9) 1 y4 0 ()).2.1 (walkL (km9) 1 y4 0 ()).2.2) := by
  have key := k5g.along (kev y1 y2 y3 y4 y5) kq9 (km9) 1 (fun _ _ => True) y4 () (by trivial) (by simp only [k5g, kev]; omega) (fun i b a hb hI => ?_) (fun a hI => ?_)
  · exact key
  · obtain ⟨⟩ := a
    have hlt := (List.getElem?_eq_some_iff.1 hb).1
    have hget : ∀ d, Option.getD y4[i]? d = b := fun d => by rw [hb]; rfl
    have hw := wrap64 hlt hn
    have hdec : ltI (i : Int) (y4.length : Int) = true := ltI_t (by omega)
    have hnn : leI (0 : Int) (i : Int) = true := leI_t (by omega)
    have hltd : ltN i y4.length = true := ltN_t hlt
    refine ⟨?_, ?_, ?_, ?_⟩
    · have hg2 : k9u (i : Int) y4 = b := by simp only [k9u, Int.toNat_natCast]; exact hget _
      have h6 : leN b.2.1.size 9223372036854775807 = true := leN_t (hA b (List.mem_of_getElem? hb))
      simp [kif, kon, kod, koh, km5, kop, kkw, k5g, LT.nds, allT, kev, hdec, hnn, hltd, hg2, h6]
    · simp [k9u, kif, kon, kod, koh, km5, kop, kkw, k5g, LT.each, kev, kq9, hw]
    · have hg2 : k9u (i : Int) y4 = b := by simp only [k9u, Int.toNat_natCast]; exact hget _
      simp only [kif, km5, kkw, k5g, LT.fn, kev, kq9, km9, Int.toNat_natCast, hdec, hg2, cond_true]
    · exact fun _ _ => trivial
  · obtain ⟨⟩ := a
    simp [k9u, kif, kon, kod, koh, km5, kop, kkw, k5g, LT.out, kev]

def k4z  (b : Int × (ByteArray × Int)) : (Unit) → Nat ⊕ (Unit)
  | _ => (bif ((kmu (Prod.fst ((b))) (Prod.fst (Prod.snd ((b)))) (Prod.snd (Prod.snd ((b)))))) then (.inl 0) else (.inr ()))

def k25 (y2 : List (Int × (ByteArray × Int))) (i : Nat) : (Unit) → k1o
  | _ => ((i : Int), (↑(List.length y2) : Int), y2)

def kaa : k1o → Unit
  | (_, _, _) => ()

theorem knb (y2 : List (Int × (ByteArray × Int)))  (hn : y2.length ≤ 9223372036854775807)  :
    kx.fin ((0 : Int), (↑(List.length y2) : Int), y2) = true ∧ kx.res ((0 : Int), (↑(List.length y2) : Int), y2) = ((walkL (k4z) 1 y2 0 ()).1, (k25 y2) (walkL (k4z) 1 y2 0 ()).2.1 (walkL (k4z) 1 y2 0 ()).2.2) := by
  have key := kx.along (k25 y2) kaa (k4z) 1 (fun _ _ => True) y2 () (by trivial) (by simp only [kx, k25]; omega) (fun i b a hb hI => ?_) (fun a hI => ?_)
  · exact key
  · obtain ⟨⟩ := a
    have hlt := (List.getElem?_eq_some_iff.1 hb).1
    have hget : ∀ d, Option.getD y2[i]? d = b := fun d => by rw [hb]; rfl
    have hw := wrap64 hlt hn
    have hdec : ltI (i : Int) (y2.length : Int) = true := ltI_t (by omega)
    have hnn : leI (0 : Int) (i : Int) = true := leI_t (by omega)
    have hltd : ltN i y2.length = true := ltN_t hlt
    refine ⟨?_, ?_, ?_, ?_⟩
    · simp [k2g, k4u, k4s, k53, k4x, k52, k4v, k4p, kx, LT.nds, allT, k25, hdec, hnn, hltd, hget]
    · simp [k2g, k4u, k4s, k53, k4x, k52, k4v, k4p, kx, LT.each, k25, kaa, hw]
    · simp only [k2g, k4u, k4s, k53, k4x, k52, k4v, k4p, kx, LT.fn, k25, kaa, k4z, Int.toNat_natCast, hdec, hnn, hltd, hget, cond_true, Bool.cond_self]
    · exact fun _ _ => trivial
  · obtain ⟨⟩ := a
    simp [k2g, k4u, k4s, k53, k4x, k52, k4v, k4p, kx, LT.out, k25]

theorem k14p (bs : List TM) : (bs.any fun t => !blockB t.1 t.2.1 t.2.2) = !blksB bs := by simp [blksB, List.all_eq_not_any_not]

theorem k14y (i v o : Int) (bs : List TM) (st : List IN) : kjj i v o bs st = !rngC i v o bs st := by
  have e1 : ∀ x : Int, k1r x 0 20 = inR x 0 20 := fun x => by simp only [k1r, inR_eq]
  have e2 : ∀ n : Nat, ltI 2000 (n : Int) = !leN n 2000 := fun n => by
    by_cases h : n ≤ 2000
    · rw [leN_t h, ltI_f (by omega)]; rfl
    · rw [leN_f (by omega), ltI_t (by omega)]; rfl
  simp only [kjj, rngC, e1, e2]
  cases inR i 0 20 <;> cases inR v 0 20 <;> cases inR o 0 20 <;> cases leN bs.length 2000 <;> cases leN st.length 2000 <;> rfl

theorem specCodeB (i v o : Int) (bs : List TM) (st : List IN) (h : tsOk bs = true) : kwk i v o bs st = codeB i v o bs st ∧ kvw i v o bs st = true := by
  obtain ⟨hn, hA⟩ := k13e.1 h
  simp only [kwk, kvw, k14y, codeB]
  cases hr : rngC i v o bs st with
  | false => simp [allT]
  | true =>
    obtain ⟨h1, h2, h3, h4, h5⟩ := kvs.1 hr
    obtain ⟨q1, q2, q3⟩ := specHts i v o bs st h5 h4
    obtain ⟨w1, w2⟩ := k122 i v o bs st hn hA
    rw [walk_stop (P := fun t => !blockB t.1 t.2.1 t.2.2) (j := 0) (fun t => rfl), k14p] at w2
    simp only [kuz, kuh, w1, w2, q1, q3, allT]
    cases blksB bs <;> simp [Nat.beq]

theorem implCodeB (i v o : Int) (bs : List TM) (st : List IN) : kwh i v o bs st = codeB i v o bs st ∧ kwj i v o bs st = true := by
  have e0 : kom i v o bs st = kjj i v o bs st := by simp only [kom, kjj, k9e, k1r]
  simp only [kwh, kwj, e0, k14y, codeB]
  cases hr : rngC i v o bs st with
  | false => simp [allT]
  | true =>
    obtain ⟨h1, h2, h3, h4, h5⟩ := kvs.1 hr
    obtain ⟨q1, q2, q3⟩ := implHts i v o bs st ⟨h1, h2, h3⟩ h5 h4
    obtain ⟨w1, w2⟩ := knb bs (by omega)
    rw [walk_stop (P := fun t => !blockB t.1 t.2.1 t.2.2) (j := 0) (fun t => rfl), k14p] at w2
    simp only [k7e, kaw, kch, kcp, k8d, w1, w2, q1, q3, allT]
    cases blksB bs with
    | true => simp [Nat.beq, show leI 0 (-1) = false from rfl]
    | false => simp [Nat.beq, k25]; intro h; omega

def k113 : List SV → List Entry → Option Out
  | [.one ⟨true, [.val (.int .i64 x0), .val (.int .i64 x1), .val (.int .i64 x2), .ref 0, .ref 1]⟩], [.row false 178 (.pair (.int .i64) (.pair (.str) (.int .i64))) x3, .row false 150 (.pair (.int .i64) (.int .i64)) x4] => some ⟨(.one ⟨false, [(.val (.bool (codeB x0 x1 x2 x3 x4)))]⟩), [(.row false 178 (CTy.pair (CTy.int IntKind.i64) (CTy.pair CTy.str (CTy.int IntKind.i64))) x3), (.row false 150 (CTy.pair (CTy.int IntKind.i64) (CTy.int IntKind.i64)) x4)], [], [tsOk x3]⟩
  | _, _ => none

def kw7 : PF Tryz.prog := PF.alt k13m k113 (by
  intro args es o h hnd; unfold k113 at h; split at h
  · rename_i x0 x1 x2 x3 x4
    cases h
    have hnd := nd_fst hnd
    have hh := specCodeB x0 x1 x2 x3 x4 hnd
    obtain ⟨e0, en⟩ := hh
    exact altok rfl (nd_one en) (by simp only [e0] <;> rfl) rfl rfl
  · cases h)

def k10s : List SV → List Entry → Option Out
  | [.one ⟨true, [.val (.int .i64 x0), .val (.int .i64 x1), .val (.int .i64 x2), .ref 0, .ref 1]⟩], [.row false 178 (.pair (.int .i64) (.pair (.str) (.int .i64))) x3, .row false 150 (.pair (.int .i64) (.int .i64)) x4] => some ⟨(.one ⟨false, [(.val (.bool (codeB x0 x1 x2 x3 x4)))]⟩), [(.row false 178 (CTy.pair (CTy.int IntKind.i64) (CTy.pair CTy.str (CTy.int IntKind.i64))) x3), (.row false 150 (CTy.pair (CTy.int IntKind.i64) (CTy.int IntKind.i64)) x4)], [], []⟩
  | _, _ => none

def kvy : PF Tryz.prog := PF.alt k13p k10s (by
  intro args es o h hnd; unfold k10s at h; split at h
  · rename_i x0 x1 x2 x3 x4
    cases h
    have hh := implCodeB x0 x1 x2 x3 x4
    obtain ⟨e0, en⟩ := hh
    exact altok rfl (nd_one en) (by simp only [e0] <;> rfl) rfl rfl
  · cases h)

end Go.SX

namespace Go.SX
open Go.Proofs
set_option maxRecDepth 100000

def termAt (bs : List TM) (k : Nat) : TM := Option.getD bs[k]? ((0 : Int), ByteArray.empty, (0 : Int))
def stAt (ss : List BS3) (k : Nat) : BS3 := Option.getD ss[k]? ((0 : Int), (0 : Int), (0 : Int))
def possAt (bs : List TM) (ss : List BS3) (k : Nat) : Bool := possB (termAt bs k).1 (termAt bs k).2.2 (stAt ss k).1 (stAt ss k).2.1 (stAt ss k).2.2
/-- A memory suits a code. -/
def suitB (v : Int) (bs : List TM) (xs : List Int) (ss : List BS3) : Bool := ((ss.length : Int) == (bs.length : Int)) && (bitsB v xs && (List.range bs.length).all fun k => possAt bs ss k)

def kj5 (y4 : List (Int × (ByteArray × Int))) (y7 : List (Int × (Int × Int))) (b : Nat) : (Unit) → Nat ⊕ (Unit)
  | _ => (bif ((!k2e (Prod.fst ((Option.getD y4[b]? ((0 : Int), ByteArray.empty, (0 : Int))))) (Prod.snd (Prod.snd ((Option.getD y4[b]? ((0 : Int), ByteArray.empty, (0 : Int)))))) (Prod.fst ((Option.getD y7[b]? ((0 : Int), (0 : Int), (0 : Int))))) (Prod.fst (Prod.snd ((Option.getD y7[b]? ((0 : Int), (0 : Int), (0 : Int)))))) (Prod.snd (Prod.snd ((Option.getD y7[b]? ((0 : Int), (0 : Int), (0 : Int)))))))) then (.inl 0) else (.inr ()))

def kcn (y1 : Int) (y2 : Int) (y3 : Int) (y4 : List (Int × (ByteArray × Int))) (y5 : List (Int × Int)) (y6 : List Int) (y7 : List (Int × (Int × Int))) (i : Nat) : (Unit) → k8e
  | _ => ((i : Int), y1, y2, y3, y4, y5, y6, y7)

def kok : k8e → Unit
  | (_, _, _, _, _, _, _, _) => ()

theorem k10a (y1 : Int) (y2 : Int) (y3 : Int) (y4 : List (Int × (ByteArray × Int))) (y5 : List (Int × Int)) (y6 : List Int) (y7 : List (Int × (Int × Int)))  (hn : y4.length ≤ 9223372036854775807) (he : y7.length = y4.length) :
    k3e.fin ((0 : Int), y1, y2, y3, y4, y5, y6, y7) = true ∧ k3e.res ((0 : Int), y1, y2, y3, y4, y5, y6, y7) = ((walkL (kj5 y4 y7) 1 (List.range y4.length) 0 ()).1, (kcn y1 y2 y3 y4 y5 y6 y7) (walkL (kj5 y4 y7) 1 (List.range y4.length) 0 ()).2.1 (walkL (kj5 y4 y7) 1 (List.range y4.length) 0 ()).2.2) := by
  have key := k3e.along (kcn y1 y2 y3 y4 y5 y6 y7) kok (kj5 y4 y7) 1 (fun _ _ => True) (List.range y4.length) () (by trivial) (by simp only [k3e, kcn, List.length_range]; omega) (fun i b a hb hI => ?_) (fun a hI => ?_)
  · exact key
  · obtain ⟨⟩ := a
    obtain ⟨rfl, hlt⟩ := range_get hb
    have hw : IntKind.i64.wrap ((b : Int) + 1) = ((b + 1 : Nat) : Int) := by rw [wrap_i64 (by omega) (by omega)]; omega
    have hdec : ltI (b : Int) (y4.length : Int) = true := ltI_t (by omega)
    have hnn : leI (0 : Int) (b : Int) = true := leI_t (by omega)
    have hltd : ltN b y4.length = true := ltN_t (by omega)
    refine ⟨?_, ?_, ?_, ?_⟩
    · simp [ker, kcr, kfn, kfo, kiz, kj6, kik, kja, kil, khs, k3e, LT.nds, allT, kcn, hdec, hnn, hltd, he]
    · simp [ker, kcr, kfn, kfo, kiz, kj6, kik, kja, kil, khs, k3e, LT.each, kcn, kok, hw, he]
    · simp only [ker, kcr, kfn, kfo, kiz, kj6, kik, kja, kil, khs, k3e, LT.fn, kcn, kok, kj5, Int.toNat_natCast, hdec, cond_true]
    · exact fun _ _ => trivial
  · obtain ⟨⟩ := a
    simp [ker, kcr, kfn, kfo, kiz, kj6, kik, kja, kil, khs, k3e, LT.out, kcn, List.length_range]

def k3c (y2 : List (Int × (ByteArray × Int))) (y4 : List (Int × (Int × Int))) (b : Nat) : (Unit) → Nat ⊕ (Unit)
  | _ => (bif ((!kh8 (Prod.fst ((Option.getD y2[b]? ((0 : Int), ByteArray.empty, (0 : Int))))) (Prod.snd (Prod.snd ((Option.getD y2[b]? ((0 : Int), ByteArray.empty, (0 : Int)))))) (Prod.fst ((Option.getD y4[b]? ((0 : Int), (0 : Int), (0 : Int))))) (Prod.fst (Prod.snd ((Option.getD y4[b]? ((0 : Int), (0 : Int), (0 : Int)))))) (Prod.snd (Prod.snd ((Option.getD y4[b]? ((0 : Int), (0 : Int), (0 : Int)))))))) then (.inl 0) else (.inr ()))

def k21 (y2 : List (Int × (ByteArray × Int))) (y3 : List Int) (y4 : List (Int × (Int × Int))) (i : Nat) : (Unit) → k1f
  | _ => ((i : Int), (↑(List.length y2) : Int), y2, y3, y4)

def k87 : k1f → Unit
  | (_, _, _, _, _) => ()

theorem klk (y2 : List (Int × (ByteArray × Int))) (y3 : List Int) (y4 : List (Int × (Int × Int)))  (hn : y2.length ≤ 9223372036854775807) (he : y4.length = y2.length) :
    kv.fin ((0 : Int), (↑(List.length y2) : Int), y2, y3, y4) = true ∧ kv.res ((0 : Int), (↑(List.length y2) : Int), y2, y3, y4) = ((walkL (k3c y2 y4) 1 (List.range y2.length) 0 ()).1, (k21 y2 y3 y4) (walkL (k3c y2 y4) 1 (List.range y2.length) 0 ()).2.1 (walkL (k3c y2 y4) 1 (List.range y2.length) 0 ()).2.2) := by
  have key := kv.along (k21 y2 y3 y4) k87 (k3c y2 y4) 1 (fun _ _ => True) (List.range y2.length) () (by trivial) (by simp only [kv, k21, List.length_range]; omega) (fun i b a hb hI => ?_) (fun a hI => ?_)
  · exact key
  · obtain ⟨⟩ := a
    obtain ⟨rfl, hlt⟩ := range_get hb
    have hw : IntKind.i64.wrap ((b : Int) + 1) = ((b + 1 : Nat) : Int) := by rw [wrap_i64 (by omega) (by omega)]; omega
    have hdec : ltI (b : Int) (y2.length : Int) = true := ltI_t (by omega)
    have hnn : leI (0 : Int) (b : Int) = true := leI_t (by omega)
    have hltd : ltN b y2.length = true := ltN_t (by omega)
    refine ⟨?_, ?_, ?_, ?_⟩
    · simp [k2f, k20, k3a, k2k, k33, k39, k34, k38, k37, k35, k2w, kv, LT.nds, allT, k21, hdec, hnn, hltd, he]
    · simp [k2f, k20, k3a, k2k, k33, k39, k34, k38, k37, k35, k2w, kv, LT.each, k21, k87, hw, he]
    · simp only [k2f, k20, k3a, k2k, k33, k39, k34, k38, k37, k35, k2w, kv, LT.fn, k21, k87, k3c, Int.toNat_natCast, hdec, cond_true]
    · exact fun _ _ => trivial
  · obtain ⟨⟩ := a
    simp [k2f, k20, k3a, k2k, k33, k39, k34, k38, k37, k35, k2w, kv, LT.out, k21, List.length_range]

theorem k14r {α : Type} {g h : α → Bool} : ∀ (l : List α), (∀ k ∈ l, g k = h k) → (l.any fun b => !g b) = !l.all h
  | [], _ => rfl
  | a :: l, hg => by
    rw [List.any_cons, List.all_cons, hg a (by simp), k14r l (fun k hk => hg k (by simp [hk]))]
    cases h a <;> simp

theorem specSuits (i v o : Int) (bs : List TM) (st : List IN) (xs : List Int) (ss : List BS3) (h : (leN xs.length 9223372036854775807 && leN bs.length 9223372036854775807) = true) :
    kpv i v o bs st xs ss = suitB v bs xs ss ∧ kpm i v o bs st xs ss = true := by
  simp only [Bool.and_eq_true] at h
  have hn := leN_iff.1 h.2
  by_cases hl : ss.length = bs.length
  · obtain ⟨w1, w2⟩ := k10a i v o bs st xs ss hn hl
    rw [walk_stop (P := fun k => !possAt bs ss k) (j := 0) (fun k => rfl), k14r (g := possAt bs ss) (h := possAt bs ss) _ (fun k _ => rfl)] at w2
    have a0 : kgc bs ss = false := by simp [kgc, hl]
    simp only [kpv, kpm, kr6, a0, w1, w2, h.1, allT, suitB, hl]
    cases bitsB v xs <;> cases (List.range bs.length).all (possAt bs ss) <;> simp [Nat.beq]
  · have hl2 : ¬ ((ss.length : Int) = (bs.length : Int)) := by omega
    have a0 : kgc bs ss = true := by simp [kgc, hl2]
    have e : ((ss.length : Int) == (bs.length : Int)) = false := by simpa using hl2
    simp [kpv, kpm, a0, allT, suitB, e]

theorem implSuits (v : Int) (bs : List TM) (xs : List Int) (ss : List BS3) (h : (leN xs.length 9223372036854775807 && (leN bs.length 9223372036854775807 && blksB bs)) = true) :
    k6l v xs ss bs = suitB v bs xs ss ∧ k6n v xs ss bs = true := by
  simp only [Bool.and_eq_true] at h
  have hn := leN_iff.1 h.2.1
  have hB : ∀ t ∈ bs, blockB t.1 t.2.1 t.2.2 = true := List.all_eq_true.1 h.2.2
  by_cases hl : ss.length = bs.length
  · obtain ⟨w1, w2⟩ := klk bs xs ss hn hl
    rw [walk_stop (P := fun k => !kh8 (termAt bs k).1 (termAt bs k).2.2 (stAt ss k).1 (stAt ss k).2.1 (stAt ss k).2.2) (j := 0) (fun k => rfl),
      k14r (g := fun k => kh8 (termAt bs k).1 (termAt bs k).2.2 (stAt ss k).1 (stAt ss k).2.1 (stAt ss k).2.2) (h := possAt bs ss) _ (fun k hk => by
        have hk : k < bs.length := List.mem_range.1 hk
        have hg : termAt bs k = bs[k] := by simp only [termAt, List.getElem?_eq_getElem hk]; rfl
        have := hB _ (List.getElem_mem hk)
        rw [← hg] at this
        exact k164 (k11x this).1)] at w2
    have a0 : k2m v xs ss bs = !bitsB v xs := by simp only [k2m, hl]; cases bitsB v xs <;> simp
    simp only [k6l, k6n, k99, a0, w1, w2, h.1, allT, suitB, hl]
    cases bitsB v xs <;> cases (List.range bs.length).all (possAt bs ss) <;> simp [Nat.beq]
  · have hl2 : ¬ ((ss.length : Int) = (bs.length : Int)) := by omega
    have a0 : k2m v xs ss bs = true := by simp only [k2m]; cases bitsB v xs <;> simp [hl2]
    have e : ((ss.length : Int) == (bs.length : Int)) = false := by simpa using hl2
    simp [k6l, k6n, a0, allT, suitB, e, h.1]

def kxr : List SV → List Entry → Option Out
  | [.one ⟨true, [.val (.int .i64 x0), .val (.int .i64 x1), .val (.int .i64 x2), .ref 0, .ref 1]⟩, .one ⟨true, [.ref 2, .ref 3]⟩], [.row false 178 (.pair (.int .i64) (.pair (.str) (.int .i64))) x3, .row false 150 (.pair (.int .i64) (.int .i64)) x4, .row false 2 (.int .i64) x5, .row false 172 (.pair (.int .i64) (.pair (.int .i64) (.int .i64))) x6] => some ⟨(.one ⟨false, [(.val (.bool (suitB x1 x3 x5 x6)))]⟩), [(.row false 178 (CTy.pair (CTy.int IntKind.i64) (CTy.pair CTy.str (CTy.int IntKind.i64))) x3), (.row false 150 (CTy.pair (CTy.int IntKind.i64) (CTy.int IntKind.i64)) x4), (.row false 2 (CTy.int IntKind.i64) x5), (.row false 172 (CTy.pair (CTy.int IntKind.i64) (CTy.pair (CTy.int IntKind.i64) (CTy.int IntKind.i64))) x6)], [], [leN x5.length 9223372036854775807 && leN x3.length 9223372036854775807]⟩
  | _, _ => none

def kst : PF Tryz.prog := PF.alt k12j kxr (by
  intro args es o h hnd; unfold kxr at h; split at h
  · rename_i x0 x1 x2 x3 x4 x5 x6
    cases h
    have hnd := nd_fst hnd
    have hh := specSuits x0 x1 x2 x3 x4 x5 x6 hnd
    obtain ⟨e0, en⟩ := hh
    exact altok rfl (nd_one en) (by simp only [e0] <;> rfl) rfl rfl
  · cases h)

def keo : List SV → List Entry → Option Out
  | [.one ⟨true, [.ref 0, .ref 1]⟩, .one ⟨false, [.val (.int .i64 x0)]⟩, .one ⟨false, [.ref 2]⟩], [.row false 2 (.int .i64) x1, .row false 172 (.pair (.int .i64) (.pair (.int .i64) (.int .i64))) x2, .row false 178 (.pair (.int .i64) (.pair (.str) (.int .i64))) x3] => some ⟨(.one ⟨false, [(.val (.bool (suitB x0 x3 x1 x2)))]⟩), [(.row false 2 (CTy.int IntKind.i64) x1), (.row false 172 (CTy.pair (CTy.int IntKind.i64) (CTy.pair (CTy.int IntKind.i64) (CTy.int IntKind.i64))) x2), (.row false 178 (CTy.pair (CTy.int IntKind.i64) (CTy.pair CTy.str (CTy.int IntKind.i64))) x3)], [], [leN x1.length 9223372036854775807 && (leN x3.length 9223372036854775807 && blksB x3)]⟩
  | _, _ => none

def ka1 : PF Tryz.prog := PF.alt kmh keo (by
  intro args es o h hnd; unfold keo at h; split at h
  · rename_i x0 x1 x2 x3
    cases h
    have hnd := nd_fst hnd
    have hh := implSuits x0 x3 x1 x2 hnd
    obtain ⟨e0, en⟩ := hh
    exact altok rfl (nd_one en) (by simp only [e0] <;> rfl) rfl rfl
  · cases h)

end Go.SX

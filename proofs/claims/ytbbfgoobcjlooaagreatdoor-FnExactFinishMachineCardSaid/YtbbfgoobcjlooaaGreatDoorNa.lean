/- What functions of the program come to, and what that says in plain words: part 1. -/
import Derived.Test.YtbbfgoobcjlooaaGreatDoorTXh
import Derived.Test.YtbbfgoobcjlooaaGreatDoorProg
set_option linter.unusedSimpArgs false
set_option linter.unusedVariables false
namespace Go.SX
open Go.Proofs
set_option maxRecDepth 100000
theorem hmix : Tryz.prog.follows .mixedOrders = true := by kernel_rfl

def kum (x0 : Int) (x1 : List Int) : Int :=
  IntKind.wrap IntKind.i64 (x0 - (↑(List.length x1) : Int))

def kvq (x0 : Int) (x1 : List Int) : Int :=
  bif ltI (kum x0 x1) (0 : Int) then (-1 : Int) else kum x0 x1

def k104 : List SV → List Entry → Option Out
  | [.one ⟨false, [.ref 0]⟩, .one ⟨false, [.val (.int .i64 x0)]⟩], [.row false 2 (.int .i64) x1] => some ⟨(.one ⟨false, [(.val (.int IntKind.i64 (kvq x0 x1)))]⟩), [(.row false 2 (CTy.int IntKind.i64) x1)], [], []⟩
  | _, _ => none

def k14y : PF Tryz.prog := PF.ofG Tryz.prog [] [] hmix 86 Tryz.f86 Tryz.func86 (fun c _ => LOk.nil c) k104 (by
  intro vs es r h; unfold k104 at h; split at h
  · cases h; kernel_rfl
  · cases h)

def k1u (x0 : Int) (x1 : Int) (x2 : Int) : Bool :=
  bif leI x1 x0 then leI x0 x2 else false

def k14l : List SV → List Entry → Option Out
  | [.one ⟨false, [.val (.int .i64 x0)]⟩, .one ⟨false, [.val (.int .i64 x1)]⟩, .one ⟨false, [.val (.int .i64 x2)]⟩], [] => some ⟨(.one ⟨false, [(.val (.bool (k1u x0 x1 x2)))]⟩), [], [], []⟩
  | _, _ => none

def khu : PF Tryz.prog := PF.ofG Tryz.prog [] [] hmix 153 Tryz.f153 Tryz.func153 (fun c _ => LOk.nil c) k14l (by
  intro vs es r h; unfold k14l at h; split at h
  · cases h; kernel_rfl
  · cases h)

def kyh (x0 : List Int) : Bool :=
  allT [leN ((0 : Nat) + List.length x0) (9223372036854775807 : Nat), leN (((0 : Nat) + List.length x0) * (8 : Nat)) (140737488355328 : Nat)]

def k13e : List SV → List Entry → Option Out
  | [.one ⟨false, [.ref 0]⟩], [.row false 2 (.int .i64) x0] => some ⟨(.one ⟨false, [(.ref 1)]⟩), [(.row false 2 (CTy.int IntKind.i64) x0)], [(.row true 2 (CTy.int IntKind.i64) x0)], [(kyh x0)]⟩
  | _, _ => none

def k163 : PF Tryz.prog := PF.ofG Tryz.prog [] [] hmix 173 Tryz.f173 Tryz.func173 (fun c _ => LOk.nil c) k13e (by
  intro vs es r h; unfold k13e at h; split at h
  · cases h; kernel_rfl
  · cases h)

abbrev kal := Int × List Int × List Int

def khm (y0 : Int) (y1 : List Int) : Bool :=
  ltI y0 (↑(List.length y1) : Int)

def khk (y0 : Int) : Bool :=
  leI (0 : Int) y0

def kkd (y0 : Int) (y1 : List Int) : Bool :=
  ltN (Int.toNat y0) (List.length y1)

def kkk (y0 : Int) (y2 : List Int) : Bool :=
  ltI y0 (↑(List.length y2) : Int)

def kkm (y0 : Int) (y2 : List Int) : Bool :=
  ltN (Int.toNat y0) (List.length y2)

def kkb (y0 : Int) : Int :=
  IntKind.wrap IntKind.i64 (y0 + (1 : Int))

def kk4 (y0 : Int) (y1 : List Int) (y2 : List Int) : List Int :=
  List.set y2 (Int.toNat y0) (Option.getD y1[Int.toNat y0]? (0 : Int))

def k11b : kal → List (Nat × SV)
  | (y0, _, _) => [(4, (.one ⟨false, [(.val (.int IntKind.i64 y0))]⟩)), (0, (.one ⟨false, [(.ref 0)]⟩)), (3, (.one ⟨false, [(.ref 1)]⟩))]

def k116 : kal → List (Nat × Entry)
  | (_, y1, y2) => [(0, (.row false 2 (CTy.int IntKind.i64) y1)), (1, (.row true 2 (CTy.int IntKind.i64) y2))]

def k11j : Nat → kal → List (Nat × SV)
  | _, (_, _, _) => []

def k12a : Nat → kal → List (Nat × Entry)
  | _, (_, y1, y2) => [(0, (.row false 2 (CTy.int IntKind.i64) y1)), (1, (.row true 2 (CTy.int IntKind.i64) y2))]

def kj8 : kal → LT kal
  | (y0, y1, y2) => .ite (khm y0 y1) (.need [(khk y0), (khm y0 y1), (kkd y0 y1), (khk y0), (kkk y0 y2), (kkm y0 y2)] (.nrm ((kkb y0), y1, (kk4 y0 y1 y2)) [(0, 0), (1, 1)])) (.ext 0 [(0, 0), (1, 1)])

def kr0 (s : St) : Option kal :=
  (match s.look 4 with
  | some ⟨none, (.one ⟨false, [(.val (.int IntKind.i64 y0))]⟩)⟩ =>
  (match s.look 0 with
  | some ⟨none, (.one ⟨false, [(.ref 0)]⟩)⟩ =>
  (match s.look 3 with
  | some ⟨none, (.one ⟨false, [(.ref 320)]⟩)⟩ =>
  (match s.ent 0 with
  | some (.row false 2 (CTy.int IntKind.i64) y1) =>
  (match s.ent 320 with
  | some (.row true 2 (CTy.int IntKind.i64) y2) =>
  some (y0, y1, y2)
  | _ => none)
  | _ => none)
  | _ => none)
  | _ => none)
  | _ => none)

def k50 : Lp kal where
  h := ⟨[8, 9, 10, 11, 14, 15, 16, 17, 18, 19, 20, 12, 13, 4], [0, 1], [], []⟩
  JL := k11b
  JE := k116
  XL := k11j
  XE := k12a
  q := fun j => match j with | _ => .exit 0
  tags := [0]
  lt := kj8
  fuel := fun (y0, y1, y2) => y0.natAbs + y1.length + y2.length
  fix := fun (_, y1, _) (y0, _, y2) => (y0, y1, y2)
  σ := [(0, 0), (1, 320)]
  rd := kr0

theorem kza : LoopOk Tryz.prog (fun k => Nat.blt k Tryz.f29.ntmps) k50.F (loopAt Tryz.f29 0) := by
  refine Lp.ok (tbl := []) (lf := []) hmix k50 (by kernel_rfl) (LOk.nil _) (fun _ => rfl) (fun _ _ => rfl) ?_ ?_ ?_ ?_ (fun _ => rfl) ?_
  · intro x; obtain ⟨y0, y1, y2⟩ := x; kernel_rfl
  · intro x; obtain ⟨y0, y1, y2⟩ := x; kernel_rfl
  · intro s x h
    have h : kr0 s = some x := h
    unfold kr0 at h
    repeat' split at h
    all_goals cases h
    exact ⟨absS_cons (by assumption) rfl (absS_cons (by assumption) rfl (absS_cons (by assumption) rfl (rfl))), absE_cons rfl (by assumption) rfl (absE_cons rfl (by assumption) rfl (rfl))⟩
  · intro x; obtain ⟨y0, y1, y2⟩ := x; kernel_rfl
  · intro x z; obtain ⟨y0, y1, y2⟩ := x; exact (And.intro rfl trivial)

def kqo (x0 : List Int) : Int × List Int × List Int :=
  ((0 : Int), x0, List.replicate (Int.toNat (↑(List.length x0) : Int)) (0 : Int))

def ksl (x0 : List Int) : List Int :=
  Prod.snd (Prod.snd (Prod.snd (Lp.res k50 (kqo x0))))

def ksk (x0 : List Int) : Bool :=
  allT
  [leI (0 : Int) (↑(List.length x0) : Int), leI (↑(List.length x0) : Int) (↑(List.length x0) : Int),
    leI ((↑(8 : Nat) : Int) * (↑(List.length x0) : Int)) (281474976710656 : Int), leI (↑(List.length x0) : Int) (9223372036854775807 : Int),
    Lp.fin k50 (kqo x0)]

def kzx : List SV → List Entry → Option Out
  | [.one ⟨false, [.ref 0]⟩], [.row false 2 (.int .i64) x0] => some ⟨(.one ⟨false, [(.ref 1)]⟩), [(.row false 2 (CTy.int IntKind.i64) x0)], [(.row true 2 (CTy.int IntKind.i64) (ksl x0))], [(ksk x0)]⟩
  | _, _ => none

def k152 : PF Tryz.prog := PF.ofG Tryz.prog [] [k50.F] hmix 29 Tryz.f29 Tryz.func29 (LOk.fnT (l := [loopAt Tryz.f29 0]) (by kernel_rfl) (.cons kza (.nil _))) kzx (by
  intro vs es r h; unfold kzx at h; split at h
  · cases h; kernel_rfl
  · cases h)

def k3n (x0 : Int) (x1 : Int) (x2 : Int) : Bool :=
  bif leI x1 x0 then leI x0 x2 else false

def k13a : List SV → List Entry → Option Out
  | [.one ⟨false, [.val (.int .i64 x0)]⟩, .one ⟨false, [.val (.int .i64 x1)]⟩, .one ⟨false, [.val (.int .i64 x2)]⟩], [] => some ⟨(.one ⟨false, [(.val (.bool (k3n x0 x1 x2)))]⟩), [], [], []⟩
  | _, _ => none

def ksx : PF Tryz.prog := PF.ofG Tryz.prog [] [] hmix 158 Tryz.f158 Tryz.func158 (fun c _ => LOk.nil c) k13a (by
  intro vs es r h; unfold k13a at h; split at h
  · cases h; kernel_rfl
  · cases h)

def kg4 (x0 : List Int) : Bool :=
  allT
  [ltN (0 : Nat) (List.length x0), false || leN ((0 : Nat) + List.length x0) (9223372036854775807 : Nat),
    false || leN (((0 : Nat) + List.length x0) * (8 : Nat)) (140737488355328 : Nat)]

def kpd : List SV → List Entry → Option Out
  | [.one ⟨false, [.ref 0]⟩], [.row false 2 (.int .i64) x0] => some ⟨(.one ⟨false, [(.ref 1)]⟩), [(.row false 2 (CTy.int IntKind.i64) x0)], [(.row true 2 (CTy.int IntKind.i64) x0)], [(kg4 x0)]⟩
  | _, _ => none

def kvt : PF Tryz.prog := PF.ofG Tryz.prog [] [] hmix 194 Tryz.f194 Tryz.func194 (fun c _ => LOk.nil c) kpd (by
  intro vs es r h; unfold kpd at h; split at h
  · cases h; kernel_rfl
  · cases h)

abbrev kap := Int × List Int × List Int

def khl (y0 : Int) (y1 : List Int) : Bool :=
  ltI y0 (↑(List.length y1) : Int)

def khn (y0 : Int) : Bool :=
  leI (0 : Int) y0

def kkr (y0 : Int) (y1 : List Int) : Bool :=
  ltN (Int.toNat y0) (List.length y1)

def kk5 (y0 : Int) (y2 : List Int) : Bool :=
  ltI y0 (↑(List.length y2) : Int)

def kks (y0 : Int) (y2 : List Int) : Bool :=
  ltN (Int.toNat y0) (List.length y2)

def kkl (y0 : Int) (y1 : List Int) (y2 : List Int) : Bool :=
  Option.getD y1[Int.toNat y0]? (0 : Int) != Option.getD y2[Int.toNat y0]? (0 : Int)

def kki (y0 : Int) : Int :=
  IntKind.wrap IntKind.i64 (y0 + (1 : Int))

def k129 : kap → List (Nat × SV)
  | (y0, _, _) => [(5, (.one ⟨false, [(.val (.int IntKind.i64 y0))]⟩)), (0, (.one ⟨false, [(.ref 0)]⟩)), (1, (.one ⟨false, [(.ref 1)]⟩))]

def k118 : kap → List (Nat × Entry)
  | (_, y1, y2) => [(0, (.row false 2 (CTy.int IntKind.i64) y1)), (1, (.row false 2 (CTy.int IntKind.i64) y2))]

def k11k : Nat → kap → List (Nat × SV)
  | 0, (_, _, _) => [(4, (.one ⟨false, [(.val (.bool false))]⟩))]
  | _, (_, _, _) => []

def k11u : Nat → kap → List (Nat × Entry)
  | 0, (_, y1, y2) => [(0, (.row false 2 (CTy.int IntKind.i64) y1)), (1, (.row false 2 (CTy.int IntKind.i64) y2))]
  | _, (_, y1, y2) => [(0, (.row false 2 (CTy.int IntKind.i64) y1)), (1, (.row false 2 (CTy.int IntKind.i64) y2))]

def kje : kap → LT kap
  | (y0, y1, y2) => .ite (khl y0 y1) (.need [(khn y0), (khl y0 y1), (kkr y0 y1), (khn y0), (kk5 y0 y2), (kks y0 y2)] (.ite (kkl y0 y1 y2) (.ext 0 [(0, 0), (1, 1)]) (.nrm ((kki y0), y1, y2) [(0, 0), (1, 1)]))) (.ext 1 [(0, 0), (1, 1)])

def krb (s : St) : Option kap :=
  (match s.look 5 with
  | some ⟨none, (.one ⟨false, [(.val (.int IntKind.i64 y0))]⟩)⟩ =>
  (match s.look 0 with
  | some ⟨none, (.one ⟨false, [(.ref 0)]⟩)⟩ =>
  (match s.look 1 with
  | some ⟨none, (.one ⟨false, [(.ref 1)]⟩)⟩ =>
  (match s.ent 0 with
  | some (.row false 2 (CTy.int IntKind.i64) y1) =>
  (match s.ent 1 with
  | some (.row false 2 (CTy.int IntKind.i64) y2) =>
  some (y0, y1, y2)
  | _ => none)
  | _ => none)
  | _ => none)
  | _ => none)
  | _ => none)

def k48 : Lp kap where
  h := ⟨[11, 12, 13, 14, 17, 18, 19, 20, 21, 22, 23, 24, 25, 4, 15, 16, 5], [0, 1], [], []⟩
  JL := k129
  JE := k118
  XL := k11k
  XE := k11u
  q := fun j => match j with | 0 => .ret | _ => .exit 0
  tags := [0, 1]
  lt := kje
  fuel := fun (y0, y1, y2) => y0.natAbs + y1.length + y2.length
  fix := fun (_, y1, y2) (y0, _, _) => (y0, y1, y2)
  σ := [(0, 0), (1, 1)]
  rd := krb

theorem kzl : LoopOk Tryz.prog (fun k => Nat.blt k Tryz.f31.ntmps) k48.F (loopAt Tryz.f31 0) := by
  refine Lp.ok (tbl := []) (lf := []) hmix k48 (by kernel_rfl) (LOk.nil _) (fun _ => rfl) (fun j _ => by unfold k48; match j with | 0 => rfl | _ + 1 => rfl) ?_ ?_ ?_ ?_ (fun _ => rfl) ?_
  · intro x; obtain ⟨y0, y1, y2⟩ := x; kernel_rfl
  · intro x; obtain ⟨y0, y1, y2⟩ := x; kernel_rfl
  · intro s x h
    have h : krb s = some x := h
    unfold krb at h
    repeat' split at h
    all_goals cases h
    exact ⟨absS_cons (by assumption) rfl (absS_cons (by assumption) rfl (absS_cons (by assumption) rfl (rfl))), absE_cons rfl (by assumption) rfl (absE_cons rfl (by assumption) rfl (rfl))⟩
  · intro x; obtain ⟨y0, y1, y2⟩ := x; kernel_rfl
  · intro x z; obtain ⟨y0, y1, y2⟩ := x; exact (And.intro (And.intro trivial rfl) trivial)

def kr8 (x0 : List Int) (x1 : List Int) : Bool :=
  (↑(List.length x0) : Int) != (↑(List.length x1) : Int)

def kqj (x0 : List Int) (x1 : List Int) : Int × List Int × List Int :=
  ((0 : Int), x0, x1)

def kso (x0 : List Int) (x1 : List Int) : Bool :=
  bif kr8 x0 x1 then false else bif Nat.beq (Prod.fst (Lp.res k48 (kqj x0 x1))) (0 : Nat) then false else true

def ksm (x0 : List Int) (x1 : List Int) : Bool :=
  allT [kr8 x0 x1 || Lp.fin k48 (kqj x0 x1)]

def k10b : List SV → List Entry → Option Out
  | [.one ⟨false, [.ref 0]⟩, .one ⟨false, [.ref 1]⟩], [.row false 2 (.int .i64) x0, .row false 2 (.int .i64) x1] => some ⟨(.one ⟨false, [(.val (.bool (kso x0 x1)))]⟩), [(.row false 2 (CTy.int IntKind.i64) x0), (.row false 2 (CTy.int IntKind.i64) x1)], [], [(ksm x0 x1)]⟩
  | _, _ => none

def k150 : PF Tryz.prog := PF.ofG Tryz.prog [] [k48.F] hmix 31 Tryz.f31 Tryz.func31 (LOk.fnT (l := [loopAt Tryz.f31 0]) (by kernel_rfl) (.cons kzl (.nil _))) k10b (by
  intro vs es r h; unfold k10b at h; split at h
  · cases h; kernel_rfl
  · cases h)

abbrev k7z := Int × Int × List Int

def kfs (y0 : Int) (y2 : List Int) : Bool :=
  ltI y0 (↑(List.length y2) : Int)

def kia (y0 : Int) : Bool :=
  leI (0 : Int) y0

def kih (y0 : Int) (y2 : List Int) : Bool :=
  ltN (Int.toNat y0) (List.length y2)

def ki5 (y0 : Int) : Int :=
  IntKind.wrap IntKind.i64 (y0 + (1 : Int))

def kim (y1 : Int) : Int :=
  IntKind.wrap IntKind.i64 (y1 + (1 : Int))

def khq (y0 : Int) (y1 : Int) (y2 : List Int) : List Int :=
  List.set y2 (Int.toNat y0) y1

def kzb : k7z → List (Nat × SV)
  | (y0, y1, _) => [(5, (.one ⟨false, [(.val (.int IntKind.i64 y0))]⟩)), (0, (.one ⟨false, [(.ref 0)]⟩)), (1, (.one ⟨false, [(.val (.int IntKind.i64 y1))]⟩))]

def kzc : k7z → List (Nat × Entry)
  | (_, _, y2) => [(0, (.row true 2 (CTy.int IntKind.i64) y2))]

def kzj : Nat → k7z → List (Nat × SV)
  | _, (_, y1, _) => [(1, (.one ⟨false, [(.val (.int IntKind.i64 y1))]⟩))]

def kzn : Nat → k7z → List (Nat × Entry)
  | _, (_, _, y2) => [(0, (.row true 2 (CTy.int IntKind.i64) y2))]

def kh3 : k7z → LT k7z
  | (y0, y1, y2) => .ite (kfs y0 y2) (.need [(kia y0), (kfs y0 y2), (kih y0 y2)] (.nrm ((ki5 y0), (kim y1), (khq y0 y1 y2)) [(0, 0)])) (.ext 0 [(0, 0)])

def kow (s : St) : Option k7z :=
  (match s.look 5 with
  | some ⟨none, (.one ⟨false, [(.val (.int IntKind.i64 y0))]⟩)⟩ =>
  (match s.look 0 with
  | some ⟨none, (.one ⟨false, [(.ref 0)]⟩)⟩ =>
  (match s.look 1 with
  | some ⟨none, (.one ⟨false, [(.val (.int IntKind.i64 y1))]⟩)⟩ =>
  (match s.ent 0 with
  | some (.row true 2 (CTy.int IntKind.i64) y2) =>
  some (y0, y1, y2)
  | _ => none)
  | _ => none)
  | _ => none)
  | _ => none)

def k3i : Lp k7z where
  h := ⟨[6, 7, 8, 9, 12, 13, 14, 15, 16, 17, 1, 10, 11, 5], [0], [], []⟩
  JL := kzb
  JE := kzc
  XL := kzj
  XE := kzn
  q := fun j => match j with | _ => .exit 0
  tags := [0]
  lt := kh3
  fuel := fun (y0, y1, y2) => y0.natAbs + y1.natAbs + y2.length
  fix := fun (_, _, _) (y0, y1, y2) => (y0, y1, y2)
  σ := [(0, 0)]
  rd := kow

theorem ky5 : LoopOk Tryz.prog (fun k => Nat.blt k Tryz.f34.ntmps) k3i.F (loopAt Tryz.f34 0) := by
  refine Lp.ok (tbl := []) (lf := []) hmix k3i (by kernel_rfl) (LOk.nil _) (fun _ => rfl) (fun _ _ => rfl) ?_ ?_ ?_ ?_ (fun _ => rfl) ?_
  · intro x; obtain ⟨y0, y1, y2⟩ := x; kernel_rfl
  · intro x; obtain ⟨y0, y1, y2⟩ := x; kernel_rfl
  · intro s x h
    have h : kow s = some x := h
    unfold kow at h
    repeat' split at h
    all_goals cases h
    exact ⟨absS_cons (by assumption) rfl (absS_cons (by assumption) rfl (absS_cons (by assumption) rfl (rfl))), absE_cons rfl (by assumption) rfl (rfl)⟩
  · intro x; obtain ⟨y0, y1, y2⟩ := x; kernel_rfl
  · intro x z; obtain ⟨y0, y1, y2⟩ := x; exact (And.intro rfl trivial)

def kk9 (x0 : Int) (x1 : List Int) : Int × Int × List Int :=
  ((0 : Int), x0, x1)

def kk7 (x0 : Int) (x1 : List Int) : Int × List Int :=
  Prod.snd (Prod.snd (Lp.res k3i (kk9 x0 x1)))

def km9 (x0 : Int) (x1 : List Int) : Int :=
  Prod.fst (kk7 x0 x1)

def kmi (x0 : Int) (x1 : List Int) : List Int :=
  Prod.snd (kk7 x0 x1)

def kmy (x0 : Int) (x1 : List Int) : Bool :=
  allT [Lp.fin k3i (kk9 x0 x1)]

def ky4 : List SV → List Entry → Option Out
  | [.one ⟨false, [.ref 0]⟩, .one ⟨false, [.val (.int .i64 x0)]⟩], [.row true 2 (.int .i64) x1] => some ⟨(.one ⟨false, [(.val (.int IntKind.i64 (km9 x0 x1)))]⟩), [(.row true 2 (CTy.int IntKind.i64) (kmi x0 x1))], [], [(kmy x0 x1)]⟩
  | _, _ => none

def k13v : PF Tryz.prog := PF.ofG Tryz.prog [] [k3i.F] hmix 34 Tryz.f34 Tryz.func34 (LOk.fnT (l := [loopAt Tryz.f34 0]) (by kernel_rfl) (.cons ky5 (.nil _))) ky4 (by
  intro vs es r h; unfold ky4 at h; split at h
  · cases h; kernel_rfl
  · cases h)

abbrev k7n := Int × Int × List Int

def kfm (y0 : Int) (y2 : List Int) : Bool :=
  ltI y0 (↑(List.length y2) : Int)

def khp (y0 : Int) : Bool :=
  leI (0 : Int) y0

def khs (y0 : Int) (y2 : List Int) : Bool :=
  ltN (Int.toNat y0) (List.length y2)

def khr (y0 : Int) (y1 : Int) (y2 : List Int) : Bool :=
  Option.getD y2[Int.toNat y0]? (0 : Int) != y1

def kg1  : Int :=
  (-1 : Int)

def khw (y0 : Int) : Int :=
  IntKind.wrap IntKind.i64 (y0 + (1 : Int))

def ki3 (y1 : Int) : Int :=
  IntKind.wrap IntKind.i64 (y1 + (1 : Int))

def kzi : k7n → List (Nat × SV)
  | (y0, y1, _) => [(5, (.one ⟨false, [(.val (.int IntKind.i64 y0))]⟩)), (0, (.one ⟨false, [(.ref 0)]⟩)), (1, (.one ⟨false, [(.val (.int IntKind.i64 y1))]⟩))]

def kzo : k7n → List (Nat × Entry)
  | (_, _, y2) => [(0, (.row false 2 (CTy.int IntKind.i64) y2))]

def kzd : Nat → k7n → List (Nat × SV)
  | 0, (_, _, _) => [(4, (.one ⟨false, [(.val (.int IntKind.i64 (kg1)))]⟩))]
  | _, (_, y1, _) => [(1, (.one ⟨false, [(.val (.int IntKind.i64 y1))]⟩))]

def kzh : Nat → k7n → List (Nat × Entry)
  | 0, (_, _, y2) => [(0, (.row false 2 (CTy.int IntKind.i64) y2))]
  | _, (_, _, y2) => [(0, (.row false 2 (CTy.int IntKind.i64) y2))]

def kh2 : k7n → LT k7n
  | (y0, y1, y2) => .ite (kfm y0 y2) (.need [(khp y0), (kfm y0 y2), (khs y0 y2)] (.ite (khr y0 y1 y2) (.ext 0 [(0, 0)]) (.nrm ((khw y0), (ki3 y1), y2) [(0, 0)]))) (.ext 1 [(0, 0)])

def kp2 (s : St) : Option k7n :=
  (match s.look 5 with
  | some ⟨none, (.one ⟨false, [(.val (.int IntKind.i64 y0))]⟩)⟩ =>
  (match s.look 0 with
  | some ⟨none, (.one ⟨false, [(.ref 0)]⟩)⟩ =>
  (match s.look 1 with
  | some ⟨none, (.one ⟨false, [(.val (.int IntKind.i64 y1))]⟩)⟩ =>
  (match s.ent 0 with
  | some (.row false 2 (CTy.int IntKind.i64) y2) =>
  some (y0, y1, y2)
  | _ => none)
  | _ => none)
  | _ => none)
  | _ => none)

def k30 : Lp k7n where
  h := ⟨[6, 7, 8, 9, 12, 13, 14, 15, 16, 17, 4, 18, 19, 1, 10, 11, 5], [0], [], []⟩
  JL := kzi
  JE := kzo
  XL := kzd
  XE := kzh
  q := fun j => match j with | 0 => .ret | _ => .exit 0
  tags := [0, 1]
  lt := kh2
  fuel := fun (y0, y1, y2) => y0.natAbs + y1.natAbs + y2.length
  fix := fun (_, _, y2) (y0, y1, _) => (y0, y1, y2)
  σ := [(0, 0)]
  rd := kp2

theorem ky8 : LoopOk Tryz.prog (fun k => Nat.blt k Tryz.f35.ntmps) k30.F (loopAt Tryz.f35 0) := by
  refine Lp.ok (tbl := []) (lf := []) hmix k30 (by kernel_rfl) (LOk.nil _) (fun _ => rfl) (fun j _ => by unfold k30; match j with | 0 => rfl | _ + 1 => rfl) ?_ ?_ ?_ ?_ (fun _ => rfl) ?_
  · intro x; obtain ⟨y0, y1, y2⟩ := x; kernel_rfl
  · intro x; obtain ⟨y0, y1, y2⟩ := x; kernel_rfl
  · intro s x h
    have h : kp2 s = some x := h
    unfold kp2 at h
    repeat' split at h
    all_goals cases h
    exact ⟨absS_cons (by assumption) rfl (absS_cons (by assumption) rfl (absS_cons (by assumption) rfl (rfl))), absE_cons rfl (by assumption) rfl (rfl)⟩
  · intro x; obtain ⟨y0, y1, y2⟩ := x; kernel_rfl
  · intro x z; obtain ⟨y0, y1, y2⟩ := x; exact (And.intro (And.intro trivial rfl) trivial)

def kl0 (x0 : Int) (x1 : List Int) : Int × Int × List Int :=
  ((0 : Int), x0, x1)

def kms (x0 : Int) (x1 : List Int) : Int :=
  bif Nat.beq (Prod.fst (Lp.res k30 (kl0 x0 x1))) (0 : Nat) then kg1
  else Prod.fst (Prod.snd (Prod.snd (Lp.res k30 (kl0 x0 x1))))

def kpk (x0 : Int) (x1 : List Int) : Bool :=
  allT [Lp.fin k30 (kl0 x0 x1)]

def kxz : List SV → List Entry → Option Out
  | [.one ⟨false, [.ref 0]⟩, .one ⟨false, [.val (.int .i64 x0)]⟩], [.row false 2 (.int .i64) x1] => some ⟨(.one ⟨false, [(.val (.int IntKind.i64 (kms x0 x1)))]⟩), [(.row false 2 (CTy.int IntKind.i64) x1)], [], [(kpk x0 x1)]⟩
  | _, _ => none

def k144 : PF Tryz.prog := PF.ofG Tryz.prog [] [k30.F] hmix 35 Tryz.f35 Tryz.func35 (LOk.fnT (l := [loopAt Tryz.f35 0]) (by kernel_rfl) (.cons ky8 (.nil _))) kxz (by
  intro vs es r h; unfold kxz at h; split at h
  · cases h; kernel_rfl
  · cases h)

end Go.SX

namespace Go.SX
open Go.Proofs
set_option maxRecDepth 100000

def blk (p : Int) : Int := Int.tdiv p 3
def inR (a lo hi : Int) : Bool := leI lo a && leI a hi
def eqL (xs ys : List Int) : Bool := decide (xs = ys)

theorem k16b (xs : List Int) : eqL xs xs = true := by simp [eqL]

theorem kux {a lo hi : Int} : inR a lo hi = true ↔ lo ≤ a ∧ a ≤ hi := by simp [inR]

theorem inR_eq (a lo hi : Int) : (bif leI lo a then leI a hi else false) = inR a lo hi := by
  unfold inR; cases leI lo a <;> rfl

def kfw (y1 : List Int) (b : Nat) : (List Int) → Nat ⊕ (List Int)
  | y2 => (.inr ((List.set y2 (b) (Option.getD y1[b]? (0 : Int)))))

def kcg (y1 : List Int) (i : Nat) : (List Int) → kal
  | y2 => ((i : Int), y1, y2)

def kra : kal → List Int
  | (_, _, y2) => y2

theorem k12e (y1 : List Int) (y2 : List Int) (hn : y1.length ≤ 9223372036854775807) (hl : y2.length = y1.length) :
    k50.fin ((0 : Int), y1, y2) = true ∧ k50.res ((0 : Int), y1, y2) = ((walkL (kfw y1) 0 (List.range y1.length) 0 y2).1, (kcg y1) (walkL (kfw y1) 0 (List.range y1.length) 0 y2).2.1 (walkL (kfw y1) 0 (List.range y1.length) 0 y2).2.2) := by
  have key := k50.along (kcg y1) kra (kfw y1) 0 (fun _ a => a.length = y1.length) (List.range y1.length) y2 hl (by simp only [k50, kcg, List.length_range]; omega) (fun i b a hb hI => ?_) (fun a hI => ?_)
  · exact key
  · obtain y2 := a
    obtain ⟨rfl, hlt⟩ := range_get hb
    have hw : IntKind.i64.wrap ((b : Int) + 1) = ((b + 1 : Nat) : Int) := by rw [wrap_i64 (by omega) (by omega)]; omega
    have hdec : ltI (b : Int) (y1.length : Int) = true := ltI_t (by omega)
    have hnn : leI (0 : Int) (b : Int) = true := leI_t (by omega)
    have hltd : ltN b y1.length = true := ltN_t (by omega)
    refine ⟨?_, ?_, ?_, ?_⟩
    · simp [khm, khk, kkd, kkk, kkm, kkb, kk4, kj8, k50, LT.nds, allT, kcg, hdec, hnn, hltd, hI]
    · simp [khm, khk, kkd, kkk, kkm, kkb, kk4, kj8, k50, LT.each, kcg, kra, hw, hI]
    · simp only [khm, khk, kkd, kkk, kkm, kkb, kk4, kj8, k50, LT.fn, kcg, kra, kfw, Int.toNat_natCast, hdec, cond_true]
    · intro a' hf; simp only [kfw, Sum.inr.injEq] at hf; subst hf; simpa using hI
  · obtain y2 := a
    simp [khm, khk, kkd, kkk, kkm, kkb, kk4, kj8, k50, LT.out, kcg, List.length_range]

def kkc (y1 : List Int) (y2 : List Int) (b : Nat) : (Unit) → Nat ⊕ (Unit)
  | _ => (bif ((Option.getD y1[b]? (0 : Int) != Option.getD y2[b]? (0 : Int))) then (.inl 0) else (.inr ()))

def ker (y1 : List Int) (y2 : List Int) (i : Nat) : (Unit) → kap
  | _ => ((i : Int), y1, y2)

def kr2 : kap → Unit
  | (_, _, _) => ()

theorem k12v (y1 : List Int) (y2 : List Int)  (hn : y1.length ≤ 9223372036854775807) (he : y2.length = y1.length) :
    k48.fin ((0 : Int), y1, y2) = true ∧ k48.res ((0 : Int), y1, y2) = ((walkL (kkc y1 y2) 1 (List.range y1.length) 0 ()).1, (ker y1 y2) (walkL (kkc y1 y2) 1 (List.range y1.length) 0 ()).2.1 (walkL (kkc y1 y2) 1 (List.range y1.length) 0 ()).2.2) := by
  have key := k48.along (ker y1 y2) kr2 (kkc y1 y2) 1 (fun _ _ => True) (List.range y1.length) () (by trivial) (by simp only [k48, ker, List.length_range]; omega) (fun i b a hb hI => ?_) (fun a hI => ?_)
  · exact key
  · obtain ⟨⟩ := a
    obtain ⟨rfl, hlt⟩ := range_get hb
    have hw : IntKind.i64.wrap ((b : Int) + 1) = ((b + 1 : Nat) : Int) := by rw [wrap_i64 (by omega) (by omega)]; omega
    have hdec : ltI (b : Int) (y1.length : Int) = true := ltI_t (by omega)
    have hnn : leI (0 : Int) (b : Int) = true := leI_t (by omega)
    have hltd : ltN b y1.length = true := ltN_t (by omega)
    refine ⟨?_, ?_, ?_, ?_⟩
    · simp [khl, khn, kkr, kk5, kks, kkl, kki, kje, k48, LT.nds, allT, ker, hdec, hnn, hltd, he]
    · simp [khl, khn, kkr, kk5, kks, kkl, kki, kje, k48, LT.each, ker, kr2, hw, he]
    · simp only [khl, khn, kkr, kk5, kks, kkl, kki, kje, k48, LT.fn, ker, kr2, kkc, Int.toNat_natCast, hdec, cond_true]
    · exact fun _ _ => trivial
  · obtain ⟨⟩ := a
    simp [khl, khn, kkr, kk5, kks, kkl, kki, kje, k48, LT.out, ker, List.length_range]

def kdf  (b : Nat) : (Int × List Int) → Nat ⊕ (Int × List Int)
  | (y1, y2) => (.inr (((IntKind.wrap IntKind.i64 (y1 + (1 : Int)))), ((List.set y2 (b) y1))))

def k8e  (i : Nat) : (Int × List Int) → k7z
  | (y1, y2) => ((i : Int), y1, y2)

def kp7 : k7z → Int × List Int
  | (_, y1, y2) => (y1, y2)

theorem k10d  (y1 : Int) (y2 : List Int) (n : Nat) (hl : y2.length = n) (hn : n ≤ 9223372036854775807)  :
    k3i.fin ((0 : Int), y1, y2) = true ∧ k3i.res ((0 : Int), y1, y2) = ((walkL (kdf) 0 (List.range n) 0 (y1, y2)).1, (k8e) (walkL (kdf) 0 (List.range n) 0 (y1, y2)).2.1 (walkL (kdf) 0 (List.range n) 0 (y1, y2)).2.2) := by
  have key := k3i.along (k8e) kp7 (kdf) 0 (fun _ a => a.2.length = n) (List.range n) (y1, y2) hl (by simp only [k3i, k8e, List.length_range]; omega) (fun i b a hb hI => ?_) (fun a hI => ?_)
  · exact key
  · obtain ⟨y1, y2⟩ := a
    obtain ⟨rfl, hlt⟩ := range_get hb
    have hI0 : y2.length = n := hI
    have hw : IntKind.i64.wrap ((b : Int) + 1) = ((b + 1 : Nat) : Int) := by rw [wrap_i64 (by omega) (by omega)]; omega
    have hdec : ltI (b : Int) (y2.length : Int) = true := ltI_t (by omega)
    have hnn : leI (0 : Int) (b : Int) = true := leI_t (by omega)
    have hltd : ltN b y2.length = true := ltN_t (by omega)
    refine ⟨?_, ?_, ?_, ?_⟩
    · simp [kfs, kia, kih, ki5, kim, khq, kh3, k3i, LT.nds, allT, k8e, hdec, hnn, hltd]
    · simp [kfs, kia, kih, ki5, kim, khq, kh3, k3i, LT.each, k8e, kp7, hw]
    · simp only [kfs, kia, kih, ki5, kim, khq, kh3, k3i, LT.fn, k8e, kp7, kdf, Int.toNat_natCast, hdec, hnn, hltd, cond_true, Bool.cond_self]
    · intro a' hf; simp only [kdf, Sum.inr.injEq] at hf; subst hf; simp [hI0]
  · obtain ⟨y1, y2⟩ := a
    have hI0 : y2.length = n := hI
    simp [kfs, kia, kih, ki5, kim, khq, kh3, k3i, LT.out, k8e, hI0, List.length_range]

def kfi  (b : Int) : (Int) → Nat ⊕ (Int)
  | y1 => (bif ((b != y1)) then (.inl 0) else (.inr ((IntKind.wrap IntKind.i64 (y1 + (1 : Int))))))

def kat (y2 : List Int) (i : Nat) : (Int) → k7n
  | y1 => ((i : Int), y1, y2)

def koz : k7n → Int
  | (_, y1, _) => y1

theorem kup (y2 : List Int) (y1 : Int) (hn : y2.length ≤ 9223372036854775807)  :
    k30.fin ((0 : Int), y1, y2) = true ∧ k30.res ((0 : Int), y1, y2) = ((walkL (kfi) 1 y2 0 y1).1, (kat y2) (walkL (kfi) 1 y2 0 y1).2.1 (walkL (kfi) 1 y2 0 y1).2.2) := by
  have key := k30.along (kat y2) koz (kfi) 1 (fun _ _ => True) y2 y1 (by trivial) (by simp only [k30, kat]; omega) (fun i b a hb hI => ?_) (fun a hI => ?_)
  · exact key
  · obtain y1 := a
    have hlt := (List.getElem?_eq_some_iff.1 hb).1
    have hget : ∀ d, Option.getD y2[i]? d = b := fun d => by rw [hb]; rfl
    have hw := wrap64 hlt hn
    have hdec : ltI (i : Int) (y2.length : Int) = true := ltI_t (by omega)
    have hnn : leI (0 : Int) (i : Int) = true := leI_t (by omega)
    have hltd : ltN i y2.length = true := ltN_t hlt
    refine ⟨?_, ?_, ?_, ?_⟩
    · simp [kfm, khp, khs, khr, kg1, khw, ki3, kh2, k30, LT.nds, allT, kat, hdec, hnn, hltd, hget]
    · simp [kfm, khp, khs, khr, kg1, khw, ki3, kh2, k30, LT.each, kat, koz, hw]
    · simp only [kfm, khp, khs, khr, kg1, khw, ki3, kh2, k30, LT.fn, kat, koz, kfi, Int.toNat_natCast, hdec, hnn, hltd, hget, cond_true, Bool.cond_self]
    · exact fun _ _ => trivial
  · obtain y1 := a
    simp [kfm, khp, khs, khr, kg1, khw, ki3, kh2, k30, LT.out, kat]

theorem k17p (xs : List Int) (hn : leN xs.length 1048576 = true) : ksl xs = xs ∧ ksk xs = true := by
  have hn := leN_iff.1 hn
  have hr : (List.replicate (Int.toNat (xs.length : Int)) (0 : Int)).length = xs.length := by simp
  obtain ⟨w1, w2⟩ := k12e xs (List.replicate (Int.toNat (xs.length : Int)) (0 : Int)) (by omega) hr
  have hc := walk_copy (xs := xs) (d := (0 : Int)) (g := fun x => x) (f := kfw xs) (e := 0) (fun b a => rfl) hr
  rw [hc] at w2
  refine ⟨?_, ?_⟩
  · simp only [kqo, ksl, ksk, w2, kcg]; simp
  · simp only [kqo, ksl, ksk, w1, allT]; simp; omega

def k103 : List SV → List Entry → Option Out
  | [.one ⟨false, [.ref 0]⟩], [.row false 2 (.int .i64) x0] => some ⟨(.one ⟨false, [(.ref 1)]⟩), [(.row false 2 (CTy.int IntKind.i64) x0)], [(.row true 2 (CTy.int IntKind.i64) (x0))], [leN x0.length 1048576]⟩
  | _, _ => none

def kg2 : PF Tryz.prog := PF.alt k152 k103 (by
  intro args es o h hnd; unfold k103 at h; split at h
  · rename_i x0
    cases h
    have hnd := nd_fst hnd
    have hh := k17p x0 hnd
    obtain ⟨e0, en⟩ := hh
    exact altok rfl (nd_one en) rfl rfl (by simp only [e0] <;> rfl)
  · cases h)

theorem k17q (xs ys : List Int) (hn : leN xs.length 9223372036854775807 = true) : kso xs ys = eqL xs ys ∧ ksm xs ys = true := by
  have hn := leN_iff.1 hn
  unfold eqL
  by_cases hl : ys.length = xs.length
  · obtain ⟨w1, w2⟩ := k12v xs ys hn hl
    have ha := any_ne (d := (0 : Int)) hl (P := fun b => Option.getD xs[b]? 0 != Option.getD ys[b]? 0) (fun b => by simp [bne, BEq.beq])
    rw [walk_stop (P := fun b => Option.getD xs[b]? 0 != Option.getD ys[b]? 0) (j := 0) (fun b => rfl), ha] at w2
    simp only [kr8, kqj, kso, ksm, w1, w2, allT]
    by_cases he : xs = ys
    · subst he; simp; decide
    · simp [he, hl]
  · have hne : xs ≠ ys := fun h => hl (by rw [h])
    simp [kr8, kqj, kso, ksm, allT, hne]
    omega

def k10a : List SV → List Entry → Option Out
  | [.one ⟨false, [.ref 0]⟩, .one ⟨false, [.ref 1]⟩], [.row false 2 (.int .i64) x0, .row false 2 (.int .i64) x1] => some ⟨(.one ⟨false, [(.val (.bool (eqL x0 x1)))]⟩), [(.row false 2 (CTy.int IntKind.i64) x0), (.row false 2 (CTy.int IntKind.i64) x1)], [], [leN x0.length 9223372036854775807]⟩
  | _, _ => none

def kg5 : PF Tryz.prog := PF.alt k150 k10a (by
  intro args es o h hnd; unfold k10a at h; split at h
  · rename_i x0 x1
    cases h
    have hnd := nd_fst hnd
    have hh := k17q x0 x1 hnd
    obtain ⟨e0, en⟩ := hh
    exact altok rfl (nd_one en) (by simp only [e0] <;> rfl) rfl rfl
  · cases h)

/-- Numbers that a list is marked with stay numbers. -/
def mkOk (k : Int) (n : Nat) : Bool := leI 0 k && leI (k + n) 9223372036854775807

theorem k10s {k : Int} {n : Nat} : mkOk k n = true ↔ 0 ≤ k ∧ k + n ≤ 9223372036854775807 := by simp [mkOk]

theorem k16n (k : Int) (xs : List Int) (h : mkOk k xs.length = true) : km9 k xs = k + xs.length ∧ kmi k xs = upFrom k xs.length ∧ kmy k xs = true := by
  obtain ⟨h0, h1⟩ := k10s.1 h
  obtain ⟨w1, w2⟩ := k10d k xs xs.length rfl (by omega)
  rw [walk_mark (f := kdf) (fun b k xs => rfl) h0 h1] at w2
  refine ⟨?_, ?_, ?_⟩
  · simp only [kk9, kk7, km9, kmi, kmy, w2, k8e]
  · simp only [kk9, kk7, km9, kmi, kmy, w2, k8e]
  · simp only [kk9, kk7, km9, kmi, kmy, w1, allT, cond_true]

def ky3 : List SV → List Entry → Option Out
  | [.one ⟨false, [.ref 0]⟩, .one ⟨false, [.val (.int .i64 x0)]⟩], [.row true 2 (.int .i64) x1] => some ⟨(.one ⟨false, [(.val (.int IntKind.i64 (x0 + (x1.length : Int))))]⟩), [(.row true 2 (CTy.int IntKind.i64) (upFrom x0 x1.length))], [], [mkOk x0 x1.length]⟩
  | _, _ => none

def kd9 : PF Tryz.prog := PF.alt k13v ky3 (by
  intro args es o h hnd; unfold ky3 at h; split at h
  · rename_i x0 x1
    cases h
    have hnd := nd_fst hnd
    have hh := k16n x0 x1 hnd
    obtain ⟨e0, e1, en⟩ := hh
    exact altok rfl (nd_one en) (by simp only [e0] <;> rfl) (by simp only [e1] <;> rfl) rfl
  · cases h)

/-- What a marked list is found to be. -/
def heldV (k : Int) (xs : List Int) : Int := kms k xs

theorem k16c (k : Int) (n : Nat) (h : mkOk k n = true) : heldV k (upFrom k n) = k + n := by
  obtain ⟨h0, h1⟩ := k10s.1 h
  obtain ⟨w1, w2⟩ := kup (upFrom k n) k (by rw [upFrom_length]; omega)
  rw [walk_held (f := kfi) (fun b k => rfl) h0 h1] at w2
  simp only [heldV, kl0, kms, kpk, w2, kat]
  rfl

theorem k16w (k : Int) (xs : List Int) (h : leN xs.length 9223372036854775807 = true) : kms k xs = heldV k xs ∧ kpk k xs = true := by
  obtain ⟨w1, w2⟩ := kup xs k (leN_iff.1 h)
  exact ⟨rfl, by simp only [kl0, kms, kpk, w1, allT, cond_true]⟩

def kxw : List SV → List Entry → Option Out
  | [.one ⟨false, [.ref 0]⟩, .one ⟨false, [.val (.int .i64 x0)]⟩], [.row false 2 (.int .i64) x1] => some ⟨(.one ⟨false, [(.val (.int IntKind.i64 (heldV x0 x1)))]⟩), [(.row false 2 (CTy.int IntKind.i64) x1)], [], [leN x1.length 9223372036854775807]⟩
  | _, _ => none

def kt6 : PF Tryz.prog := PF.alt k144 kxw (by
  intro args es o h hnd; unfold kxw at h; split at h
  · rename_i x0 x1
    cases h
    have hnd := nd_fst hnd
    have hh := k16w x0 x1 hnd
    obtain ⟨e0, en⟩ := hh
    exact altok rfl (nd_one en) (by simp only [e0] <;> rfl) rfl rfl
  · cases h)

def szV (k : Int) (xs : List Int) : Int := bif ltI (k - xs.length) 0 then -1 else k - xs.length

theorem k17k (k : Int) (xs : List Int) (h : (leN xs.length 9223372036854775807 && (leI (-1) k && leI k 1048576)) = true) : kvq k xs = szV k xs := by
  simp only [Bool.and_eq_true, leN_iff, leI_iff] at h
  simp only [kum, kvq, szV]
  rw [wrap_i64 (by omega) (by omega)]

def k100 : List SV → List Entry → Option Out
  | [.one ⟨false, [.ref 0]⟩, .one ⟨false, [.val (.int .i64 x0)]⟩], [.row false 2 (.int .i64) x1] => some ⟨(.one ⟨false, [(.val (.int IntKind.i64 (szV x0 x1)))]⟩), [(.row false 2 (CTy.int IntKind.i64) x1)], [], [leN x1.length 9223372036854775807 && (leI (-1) x0 && leI x0 1048576)]⟩
  | _, _ => none

def kw3 : PF Tryz.prog := PF.alt k14y k100 (by
  intro args es o h hnd; unfold k100 at h; split at h
  · rename_i x0 x1
    cases h
    have hnd := nd_fst hnd
    have hh := k17k x0 x1 hnd
    have e0 := hh
    exact altok rfl (fun _ h => by cases h) (by simp only [e0] <;> rfl) rfl rfl
  · cases h)

theorem k184 (xs : List Int) (h : (leN 1 xs.length && leN xs.length 1048576) = true) : kg4 xs = true := by
  simp only [Bool.and_eq_true, leN_iff] at h
  simp [kg4, allT]
  omega

/-- slices.Clone at nil, at a slice of no elements; at any slice. -/
def k15a : List SV → List Entry → Option Out
  | [.one ⟨false, [.val (.slice none 0 0)]⟩], [] => some ⟨.one ⟨false, [.ref 0]⟩, [], [.row true 2 (.int .i64) []], [true]⟩
  | _, _ => none
def k16o : PF Tryz.prog := PF.ofG Tryz.prog [PF.raw Tryz.prog] [] hmix 194 Tryz.f194 Tryz.func194 (fun c _ => LOk.nil c) k15a (by
  intro vs es r h; unfold k15a at h; split at h
  · cases h; kernel_rfl
  · cases h)
def k15e : List SV → List Entry → Option Out
  | [.one ⟨false, [.val (.slice (some _) 0 _)]⟩], [] => some ⟨.one ⟨false, [.ref 0]⟩, [], [.row true 2 (.int .i64) []], [true]⟩
  | _, _ => none
def k16t : PF Tryz.prog := PF.ofG Tryz.prog [] [] hmix 194 Tryz.f194 Tryz.func194 (fun c _ => LOk.nil c) k15e (by
  intro vs es r h; unfold k15e at h; split at h
  · cases h; kernel_rfl
  · cases h)
def kph : List SV → List Entry → Option Out
  | [.one ⟨false, [.ref 0]⟩], [.row false 2 (.int .i64) x0] => some ⟨.one ⟨false, [.ref 1]⟩, [.row false 2 (.int .i64) x0], [.row true 2 (.int .i64) x0], [leN x0.length 1048576]⟩
  | _, _ => none
def kak : PF Tryz.prog where
  k := 194
  F := kph
  ok := by
    intro args es o h hnd mem ρ w hp
    unfold kph at h
    split at h
    · rename_i x0
      cases h
      have hl := hnd _ (List.mem_singleton.2 rfl)
      cases x0 with
      | nil =>
        exact (clone0 k16o k16t rfl rfl rfl (fun _ _ => rfl) (by simp) (by simp) hp).mono fun en w' ⟨ρ', h1, h2, h3⟩ => ⟨ρ', h1, h2, rfl, (by intro v hv; rw [List.mem_singleton.1 hv]; rfl), h3⟩
      | cons x xs => exact kvt.ok _ _ ⟨_, _, _, [kg4 (x :: xs)]⟩ rfl (fun b hb => by rw [List.mem_singleton.1 hb]; exact k184 (x :: xs) ((Bool.and_eq_true _ _).mpr ⟨leN_t (Nat.succ_pos _), hl⟩)) mem ρ w hp
    · cases h

theorem own_ok (xs : List Int) (h : leN xs.length 1048576 = true) : kyh xs = true := by
  have h := leN_iff.1 h
  simp [kyh, allT]
  omega

def k13q : List SV → List Entry → Option Out
  | [.one ⟨false, [.ref 0]⟩], [.row false 2 (.int .i64) x0] => some ⟨(.one ⟨false, [(.ref 1)]⟩), [(.row false 2 (CTy.int IntKind.i64) x0)], [(.row true 2 (CTy.int IntKind.i64) x0)], [leN x0.length 1048576]⟩
  | _, _ => none

def kji : PF Tryz.prog := PF.alt k163 k13q (by
  intro args es o h hnd; unfold k13q at h; split at h
  · rename_i x0
    cases h
    have hnd := nd_fst hnd
    have hh := own_ok x0 hnd
    have en := hh
    exact altok rfl (nd_one en) rfl rfl rfl
  · cases h)

end Go.SX

namespace Go.SX
open Go.Proofs
set_option maxRecDepth 100000

def ko0 (x0 : Int) : Bool :=
  bif leI (97 : Int) x0 then leI x0 (122 : Int) else false

def kz4 : List SV → List Entry → Option Out
  | [.one ⟨false, [.val (.int .u8 x0)]⟩], [] => some ⟨(.one ⟨false, [(.val (.bool (ko0 x0)))]⟩), [], [], []⟩
  | _, _ => none

def kuq : PF Tryz.prog := PF.ofG Tryz.prog [] [] hmix 277 Tryz.f277 Tryz.func277 (fun c _ => LOk.nil c) kz4 (by
  intro vs es r h; unfold kz4 at h; split at h
  · cases h; kernel_rfl
  · cases h)

def kvp (x0 : Int) : Bool :=
  bif leI (48 : Int) x0 then leI x0 (57 : Int) else false

def kzy : List SV → List Entry → Option Out
  | [.one ⟨false, [.val (.int .u8 x0)]⟩], [] => some ⟨(.one ⟨false, [(.val (.bool (kvp x0)))]⟩), [], [], []⟩
  | _, _ => none

def k155 : PF Tryz.prog := PF.ofG Tryz.prog [] [] hmix 280 Tryz.f280 Tryz.func280 (fun c _ => LOk.nil c) kzy (by
  intro vs es r h; unfold kzy at h; split at h
  · cases h; kernel_rfl
  · cases h)

def ksr (x0 : Int) : Bool :=
  bif bif ko0 x0 then true else kvp x0 then true else x0 == (95 : Int)

def k108 : List SV → List Entry → Option Out
  | [.one ⟨false, [.val (.int .u8 x0)]⟩], [] => some ⟨(.one ⟨false, [(.val (.bool (ksr x0)))]⟩), [], [], []⟩
  | _, _ => none

def k107 : PF Tryz.prog := PF.ofG Tryz.prog [kuq, k155] [] hmix 276 Tryz.f276 Tryz.func276 (fun c _ => LOk.nil c) k108 (by
  intro vs es r h; unfold k108 at h; split at h
  · cases h; kernel_rfl
  · cases h)

abbrev kf3 := Int × ByteArray

def kn1 (y0 : Int) (y1 : ByteArray) : Bool :=
  ltI y0 (↑(ByteArray.size y1) : Int)

def kxy (y0 : Int) : Bool :=
  leI (0 : Int) y0

def kta (y0 : Int) (y1 : ByteArray) : Bool :=
  !ksr (↑(UInt8.toNat (Option.getD y1[Int.toNat y0]? (0 : UInt8))) : Int)

def ky0 (y0 : Int) : Int :=
  IntKind.wrap IntKind.i64 (y0 + (1 : Int))

def k131 : kf3 → List (Nat × SV)
  | (y0, y1) => [(3, (.one ⟨false, [(.val (.int IntKind.i64 y0))]⟩)), (0, (.one ⟨false, [(.val (.string y1))]⟩))]

def k12j : kf3 → List (Nat × Entry)
  | (_, _) => []

def k12t : Nat → kf3 → List (Nat × SV)
  | 0, (_, _) => [(2, (.one ⟨false, [(.val (.bool false))]⟩))]
  | _, (_, _) => []

def k12x : Nat → kf3 → List (Nat × Entry)
  | 0, (_, _) => []
  | _, (_, _) => []

def kkj : kf3 → LT kf3
  | (y0, y1) => .ite (kn1 y0 y1) (.need [(kxy y0), (kn1 y0 y1)] (.ite (kta y0 y1) (.ext 0 []) (.nrm ((ky0 y0), y1) []))) (.ext 1 [])

def ks9 (s : St) : Option kf3 :=
  (match s.look 3 with
  | some ⟨none, (.one ⟨false, [(.val (.int IntKind.i64 y0))]⟩)⟩ =>
  (match s.look 0 with
  | some ⟨none, (.one ⟨false, [(.val (.string y1))]⟩)⟩ =>
  some (y0, y1)
  | _ => none)
  | _ => none)

def k55 : Lp kf3 where
  h := ⟨[4, 5, 6, 7, 10, 11, 12, 13, 14, 2, 8, 9, 3], [], [], []⟩
  JL := k131
  JE := k12j
  XL := k12t
  XE := k12x
  q := fun j => match j with | 0 => .ret | _ => .exit 0
  tags := [0, 1]
  lt := kkj
  fuel := fun (y0, y1) => y0.natAbs + y1.size
  fix := fun (_, y1) (y0, _) => (y0, y1)
  σ := []
  rd := ks9

theorem k10m : LoopOk Tryz.prog (fun k => Nat.blt k Tryz.f266.ntmps) k55.F (loopAt Tryz.f266 0) := by
  refine Lp.ok (tbl := [khu, k107, kuq]) (lf := []) hmix k55 (by kernel_rfl) (LOk.nil _) (fun _ => rfl) (fun j _ => by unfold k55; match j with | 0 => rfl | _ + 1 => rfl) ?_ ?_ ?_ ?_ (fun _ => rfl) ?_
  · intro x; obtain ⟨y0, y1⟩ := x; kernel_rfl
  · intro x; obtain ⟨y0, y1⟩ := x; kernel_rfl
  · intro s x h
    have h : ks9 s = some x := h
    unfold ks9 at h
    repeat' split at h
    all_goals cases h
    exact ⟨absS_cons (by assumption) rfl (absS_cons (by assumption) rfl (rfl)), rfl⟩
  · intro x; obtain ⟨y0, y1⟩ := x; kernel_rfl
  · intro x z; obtain ⟨y0, y1⟩ := x; exact (And.intro (And.intro trivial rfl) trivial)

def ksj (x0 : ByteArray) : Bool :=
  Nat.beq (Prod.fst (Lp.res k55 ((0 : Int), x0))) (0 : Nat)

def ksi (x0 : ByteArray) : Bool :=
  k1u (↑(ByteArray.size x0) : Int) (1 : Int) (12 : Int)

def kxc (x0 : ByteArray) : Bool :=
  bif ksj x0 then false
  else bif ksi x0 then ko0 (↑(UInt8.toNat (Option.getD x0[Int.toNat (0 : Int)]? (0 : UInt8))) : Int) else false

def kxh (x0 : ByteArray) : Bool :=
  allT
  [Lp.fin k55 ((0 : Int), x0), ksj x0 || (!(ksi x0 && true) || leI (0 : Int) (0 : Int)),
    ksj x0 || (!(ksi x0 && true) || ltI (0 : Int) (↑(ByteArray.size x0) : Int))]

def k119 : List SV → List Entry → Option Out
  | [.one ⟨false, [.val (.string x0)]⟩], [] => some ⟨(.one ⟨false, [(.val (.bool (kxc x0)))]⟩), [], [], [(kxh x0)]⟩
  | _, _ => none

def k15n : PF Tryz.prog := PF.ofG Tryz.prog [khu, k107, kuq] [k55.F] hmix 266 Tryz.f266 Tryz.func266 (LOk.fnT (l := [loopAt Tryz.f266 0]) (by kernel_rfl) (.cons k10m (.nil _))) k119 (by
  intro vs es r h; unfold k119 at h; split at h
  · cases h; kernel_rfl
  · cases h)

def ks3  : List ByteArray :=
  [{ data := #[(112 : UInt8), (114 : UInt8), (111 : UInt8), (103 : UInt8), (114 : UInt8), (97 : UInt8), (109 : UInt8)] },
  { data := #[(105 : UInt8), (110 : UInt8)] }, { data := #[(118 : UInt8), (97 : UInt8), (114 : UInt8)] },
  { data := #[(111 : UInt8), (117 : UInt8), (116 : UInt8)] }, { data := #[(103 : UInt8), (117 : UInt8), (97 : UInt8), (114 : UInt8), (100 : UInt8)] },
  { data := #[(101 : UInt8), (110 : UInt8), (100 : UInt8)] }, { data := #[(97 : UInt8), (110 : UInt8), (100 : UInt8)] },
  { data := #[(111 : UInt8), (114 : UInt8)] }, { data := #[(110 : UInt8), (111 : UInt8), (116 : UInt8)] },
  { data := #[(116 : UInt8), (114 : UInt8), (117 : UInt8), (101 : UInt8)] },
  { data := #[(102 : UInt8), (97 : UInt8), (108 : UInt8), (115 : UInt8), (101 : UInt8)] }, { data := #[(111 : UInt8), (110 : UInt8)] },
  { data := #[(111 : UInt8), (102 : UInt8), (102 : UInt8)] }, { data := #[(114 : UInt8), (105 : UInt8), (115 : UInt8), (101 : UInt8)] },
  { data := #[(108 : UInt8), (97 : UInt8), (116 : UInt8), (99 : UInt8), (104 : UInt8)] },
  { data := #[(99 : UInt8), (111 : UInt8), (117 : UInt8), (110 : UInt8), (116 : UInt8)] },
  { data := #[(112 : UInt8), (97 : UInt8), (105 : UInt8), (114 : UInt8)] }]

def kwu : List SV → List Entry → Option Out
  | [], [] => some ⟨(.one ⟨false, [(.ref 0)]⟩), [], [(.row true 9 (CTy.str) (ks3))], []⟩
  | _, _ => none

def kwr : PF Tryz.prog := PF.ofG Tryz.prog [] [] hmix 278 Tryz.f278 Tryz.func278 (fun c _ => LOk.nil c) kwu (by
  intro vs es r h; unfold kwu at h; split at h
  · cases h; kernel_rfl
  · cases h)

abbrev k7t := Int × ByteArray × List ByteArray

def kfn (y0 : Int) (y2 : List ByteArray) : Bool :=
  ltI y0 (↑(List.length y2) : Int)

def ki1 (y0 : Int) : Bool :=
  leI (0 : Int) y0

def kif (y0 : Int) (y2 : List ByteArray) : Bool :=
  ltN (Int.toNat y0) (List.length y2)

def khy (y0 : Int) (y1 : ByteArray) (y2 : List ByteArray) : Bool :=
  ByteArray.toList (Option.getD y2[Int.toNat y0]? ByteArray.empty) == ByteArray.toList y1

def kij (y0 : Int) : Int :=
  IntKind.wrap IntKind.i64 (y0 + (1 : Int))

def kzr : k7t → List (Nat × SV)
  | (y0, y1, _) => [(4, (.one ⟨false, [(.val (.int IntKind.i64 y0))]⟩)), (3, (.one ⟨false, [(.ref 0)]⟩)), (0, (.one ⟨false, [(.val (.string y1))]⟩))]

def kz8 : k7t → List (Nat × Entry)
  | (_, _, y2) => [(0, (.row true 9 (CTy.str) y2))]

def kzm : Nat → k7t → List (Nat × SV)
  | 0, (y0, _, _) => [(2, (.one ⟨false, [(.val (.int IntKind.i64 y0))]⟩))]
  | _, (_, _, _) => []

def kz7 : Nat → k7t → List (Nat × Entry)
  | 0, (_, _, y2) => [(0, (.row true 9 (CTy.str) y2))]
  | _, (_, _, y2) => [(0, (.row true 9 (CTy.str) y2))]

def kh5 : k7t → LT k7t
  | (y0, y1, y2) => .ite (kfn y0 y2) (.need [(ki1 y0), (kfn y0 y2), (kif y0 y2)] (.ite (khy y0 y1 y2) (.ext 0 [(0, 0)]) (.nrm ((kij y0), y1, y2) [(0, 0)]))) (.ext 1 [(0, 0)])

def kp5 (s : St) : Option k7t :=
  (match s.look 4 with
  | some ⟨none, (.one ⟨false, [(.val (.int IntKind.i64 y0))]⟩)⟩ =>
  (match s.look 3 with
  | some ⟨none, (.one ⟨false, [(.ref 128)]⟩)⟩ =>
  (match s.look 0 with
  | some ⟨none, (.one ⟨false, [(.val (.string y1))]⟩)⟩ =>
  (match s.ent 128 with
  | some (.row true 9 (CTy.str) y2) =>
  some (y0, y1, y2)
  | _ => none)
  | _ => none)
  | _ => none)
  | _ => none)

def k32 : Lp k7t where
  h := ⟨[6, 7, 8, 9, 12, 13, 14, 15, 16, 17, 18, 2, 10, 11, 4], [0], [], []⟩
  JL := kzr
  JE := kz8
  XL := kzm
  XE := kz7
  q := fun j => match j with | 0 => .ret | _ => .exit 0
  tags := [0, 1]
  lt := kh5
  fuel := fun (y0, y1, y2) => y0.natAbs + y1.size + y2.length
  fix := fun (_, y1, y2) (y0, _, _) => (y0, y1, y2)
  σ := [(0, 128)]
  rd := kp5

theorem ky6 : LoopOk Tryz.prog (fun k => Nat.blt k Tryz.f267.ntmps) k32.F (loopAt Tryz.f267 0) := by
  refine Lp.ok (tbl := [kwr]) (lf := []) hmix k32 (by kernel_rfl) (LOk.nil _) (fun _ => rfl) (fun j _ => by unfold k32; match j with | 0 => rfl | _ + 1 => rfl) ?_ ?_ ?_ ?_ (fun _ => rfl) ?_
  · intro x; obtain ⟨y0, y1, y2⟩ := x; kernel_rfl
  · intro x; obtain ⟨y0, y1, y2⟩ := x; kernel_rfl
  · intro s x h
    have h : kp5 s = some x := h
    unfold kp5 at h
    repeat' split at h
    all_goals cases h
    exact ⟨absS_cons (by assumption) rfl (absS_cons (by assumption) rfl (absS_cons (by assumption) rfl (rfl))), absE_cons rfl (by assumption) rfl (rfl)⟩
  · intro x; obtain ⟨y0, y1, y2⟩ := x; kernel_rfl
  · intro x z; obtain ⟨y0, y1, y2⟩ := x; exact (And.intro (And.intro trivial rfl) trivial)

def koi (x0 : ByteArray) : Int × ByteArray × List ByteArray :=
  ((0 : Int), x0, ks3)

def kpo (x0 : ByteArray) : Int :=
  bif Nat.beq (Prod.fst (Lp.res k32 (koi x0))) (0 : Nat) then
  Prod.fst (Prod.snd (Lp.res k32 (koi x0)))
  else (-1 : Int)

def kpl (x0 : ByteArray) : Bool :=
  allT [Lp.fin k32 (koi x0)]

def kxx : List SV → List Entry → Option Out
  | [.one ⟨false, [.val (.string x0)]⟩], [] => some ⟨(.one ⟨false, [(.val (.int IntKind.i64 (kpo x0)))]⟩), [], [], [(kpl x0)]⟩
  | _, _ => none

def k13u : PF Tryz.prog := PF.ofG Tryz.prog [kwr] [k32.F] hmix 267 Tryz.f267 Tryz.func267 (LOk.fnT (l := [loopAt Tryz.f267 0]) (by kernel_rfl) (.cons ky6 (.nil _))) kxx (by
  intro vs es r h; unfold kxx at h; split at h
  · cases h; kernel_rfl
  · cases h)

def kfz (x0 : ByteArray) (x1 : Int) : Int :=
  ibs x0 x1

def kk6 : List SV → List Entry → Option Out
  | [.one ⟨false, [.val (.string x0)]⟩, .one ⟨false, [.val (.int .u8 x1)]⟩], [] => some ⟨(.one ⟨false, [(.val (.int IntKind.i64 (kfz x0 x1)))]⟩), [], [], []⟩
  | _, _ => none

def ks2 : PF Tryz.prog := PF.ofG Tryz.prog [] [] hmix 279 Tryz.f279 Tryz.func279 (fun c _ => LOk.nil c) kk6 (by
  intro vs es r h; unfold kk6 at h; split at h
  · cases h; kernel_rfl
  · cases h)

def kni (x0 : ByteArray) (x1 : Int) : Int :=
  kfz x0 x1

def kvl : List SV → List Entry → Option Out
  | [.one ⟨false, [.val (.string x0)]⟩, .one ⟨false, [.val (.int .u8 x1)]⟩], [] => some ⟨(.one ⟨false, [(.val (.int IntKind.i64 (kni x0 x1)))]⟩), [], [], []⟩
  | _, _ => none

def kr9 : PF Tryz.prog := PF.ofG Tryz.prog [ks2] [] hmix 273 Tryz.f273 Tryz.func273 (fun c _ => LOk.nil c) kvl (by
  intro vs es r h; unfold kvl at h; split at h
  · cases h; kernel_rfl
  · cases h)

abbrev kld := Int × Int × ByteArray × ByteArray

def kjf (y0 : Int) (y1 : Int) (y2 : ByteArray) : Bool :=
  ltI (IntKind.wrap IntKind.i64 (y0 + y1)) (↑(ByteArray.size y2) : Int)

def kyw (y0 : Int) (y1 : Int) (y2 : ByteArray) : Bool :=
  !(kjf y0 y1 y2 && true) || leI (0 : Int) (IntKind.wrap IntKind.i64 (y0 + y1))

def kyr (y0 : Int) (y1 : Int) (y2 : ByteArray) : Bool :=
  !(kjf y0 y1 y2 && true) || kjf y0 y1 y2

def kvo (y0 : Int) (y1 : Int) (y2 : ByteArray) (y3 : ByteArray) : Bool :=
  bif kjf y0 y1 y2 then
  leI (0 : Int) (kni y3 (↑(UInt8.toNat (Option.getD y2[Int.toNat (IntKind.wrap IntKind.i64 (y0 + y1))]? (0 : UInt8))) : Int))
  else false

def k139 (y1 : Int) : Int :=
  IntKind.wrap IntKind.i64 (y1 + (1 : Int))

def k15h : kld → List (Nat × SV)
  | (y0, y1, y2, y3) => [(1, (.one ⟨false, [(.val (.int IntKind.i64 y0))]⟩)), (7, (.one ⟨false, [(.val (.int IntKind.i64 y1))]⟩)), (0, (.one ⟨false, [(.val (.string y2))]⟩)), (2, (.one ⟨false, [(.val (.string y3))]⟩))]

def k15v : kld → List (Nat × Entry)
  | (_, _, _, _) => []

def k15u : Nat → kld → List (Nat × SV)
  | _, (_, y1, _, _) => [(7, (.one ⟨false, [(.val (.int IntKind.i64 y1))]⟩))]

def k15t : Nat → kld → List (Nat × Entry)
  | _, (_, _, _, _) => []

def kqn : kld → LT kld
  | (y0, y1, y2, y3) => .need [(kyw y0 y1 y2), (kyr y0 y1 y2)] (.ite (kvo y0 y1 y2 y3) (.nrm (y0, (k139 y1), y2, y3) []) (.ext 0 []))

def kx8 (s : St) : Option kld :=
  (match s.look 1 with
  | some ⟨none, (.one ⟨false, [(.val (.int IntKind.i64 y0))]⟩)⟩ =>
  (match s.look 7 with
  | some ⟨none, (.one ⟨false, [(.val (.int IntKind.i64 y1))]⟩)⟩ =>
  (match s.look 0 with
  | some ⟨none, (.one ⟨false, [(.val (.string y2))]⟩)⟩ =>
  (match s.look 2 with
  | some ⟨none, (.one ⟨false, [(.val (.string y3))]⟩)⟩ =>
  some (y0, y1, y2, y3)
  | _ => none)
  | _ => none)
  | _ => none)
  | _ => none)

def k8b : Lp kld where
  h := ⟨[8, 9, 10, 11, 12, 13, 14, 15, 16, 17, 18, 19, 20, 21, 22, 23, 24, 25, 7], [], [], []⟩
  JL := k15h
  JE := k15v
  XL := k15u
  XE := k15t
  q := fun j => match j with | _ => .exit 0
  tags := [0]
  lt := kqn
  fuel := fun (y0, y1, y2, y3) => y0.natAbs + y1.natAbs + y2.size + y3.size
  fix := fun (y0, _, y2, y3) (_, y1, _, _) => (y0, y1, y2, y3)
  σ := []
  rd := kx8

theorem k14p : LoopOk Tryz.prog (fun k => Nat.blt k Tryz.f274.ntmps) k8b.F (loopAt Tryz.f274 0) := by
  refine Lp.ok (tbl := [kr9]) (lf := []) hmix k8b (by kernel_rfl) (LOk.nil _) (fun _ => rfl) (fun _ _ => rfl) ?_ ?_ ?_ ?_ (fun _ => rfl) ?_
  · intro x; obtain ⟨y0, y1, y2, y3⟩ := x; kernel_rfl
  · intro x; obtain ⟨y0, y1, y2, y3⟩ := x; kernel_rfl
  · intro s x h
    have h : kx8 s = some x := h
    unfold kx8 at h
    repeat' split at h
    all_goals cases h
    exact ⟨absS_cons (by assumption) rfl (absS_cons (by assumption) rfl (absS_cons (by assumption) rfl (absS_cons (by assumption) rfl (rfl)))), rfl⟩
  · intro x; obtain ⟨y0, y1, y2, y3⟩ := x; kernel_rfl
  · intro x z; obtain ⟨y0, y1, y2, y3⟩ := x; exact (And.intro rfl trivial)

def k15c (x0 : ByteArray) (x1 : Int) (x2 : ByteArray) : Int × Int × ByteArray × ByteArray :=
  (x1, (0 : Int), x0, x2)

def k15x (x0 : ByteArray) (x1 : Int) (x2 : ByteArray) : Int :=
  Prod.fst (Prod.snd (Prod.snd (Lp.res k8b (k15c x0 x1 x2))))

def k15y (x0 : ByteArray) (x1 : Int) (x2 : ByteArray) : Bool :=
  allT [Lp.fin k8b (k15c x0 x1 x2)]

def k162 : List SV → List Entry → Option Out
  | [.one ⟨false, [.val (.string x0)]⟩, .one ⟨false, [.val (.int .i64 x1)]⟩, .one ⟨false, [.val (.string x2)]⟩], [] => some ⟨(.one ⟨false, [(.val (.int IntKind.i64 (k15x x0 x1 x2)))]⟩), [], [], [(k15y x0 x1 x2)]⟩
  | _, _ => none

def k17d : PF Tryz.prog := PF.ofG Tryz.prog [kr9] [k8b.F] hmix 274 Tryz.f274 Tryz.func274 (LOk.fnT (l := [loopAt Tryz.f274 0]) (by kernel_rfl) (.cons k14p (.nil _))) k162 (by
  intro vs es r h; unfold k162 at h; split at h
  · cases h; kernel_rfl
  · cases h)

def kj7 (x0 : ByteArray) : Bool :=
  k3n (↑(ByteArray.size x0) : Int) (1 : Int) (12 : Int)

def kos (x0 : ByteArray) : Bool :=
  bif kj7 x0 then
  leI (0 : Int)
    (kni
      {
        data :=
          #[(97 : UInt8), (98 : UInt8), (99 : UInt8), (100 : UInt8), (101 : UInt8), (102 : UInt8), (103 : UInt8), (104 : UInt8), (105 : UInt8),
            (106 : UInt8), (107 : UInt8), (108 : UInt8), (109 : UInt8), (110 : UInt8), (111 : UInt8), (112 : UInt8), (113 : UInt8), (114 : UInt8),
            (115 : UInt8), (116 : UInt8), (117 : UInt8), (118 : UInt8), (119 : UInt8), (120 : UInt8), (121 : UInt8), (122 : UInt8)] }
      (↑(UInt8.toNat (Option.getD x0[Int.toNat (0 : Int)]? (0 : UInt8))) : Int))
  else false

def kz3 (x0 : ByteArray) : Bool :=
  bif kos x0 then
  k15x x0 (0 : Int)
      {
        data :=
          #[(97 : UInt8), (98 : UInt8), (99 : UInt8), (100 : UInt8), (101 : UInt8), (102 : UInt8), (103 : UInt8), (104 : UInt8), (105 : UInt8),
            (106 : UInt8), (107 : UInt8), (108 : UInt8), (109 : UInt8), (110 : UInt8), (111 : UInt8), (112 : UInt8), (113 : UInt8), (114 : UInt8),
            (115 : UInt8), (116 : UInt8), (117 : UInt8), (118 : UInt8), (119 : UInt8), (120 : UInt8), (121 : UInt8), (122 : UInt8), (48 : UInt8),
            (49 : UInt8), (50 : UInt8), (51 : UInt8), (52 : UInt8), (53 : UInt8), (54 : UInt8), (55 : UInt8), (56 : UInt8), (57 : UInt8),
            (95 : UInt8)] } ==
    (↑(ByteArray.size x0) : Int)
  else false

def kym (x0 : ByteArray) : Bool :=
  allT
  [!(kj7 x0 && true) || leI (0 : Int) (0 : Int), !(kj7 x0 && true) || ltI (0 : Int) (↑(ByteArray.size x0) : Int),
    !(kos x0 && true) ||
      k15y x0 (0 : Int)
        {
          data :=
            #[(97 : UInt8), (98 : UInt8), (99 : UInt8), (100 : UInt8), (101 : UInt8), (102 : UInt8), (103 : UInt8), (104 : UInt8), (105 : UInt8),
              (106 : UInt8), (107 : UInt8), (108 : UInt8), (109 : UInt8), (110 : UInt8), (111 : UInt8), (112 : UInt8), (113 : UInt8), (114 : UInt8),
              (115 : UInt8), (116 : UInt8), (117 : UInt8), (118 : UInt8), (119 : UInt8), (120 : UInt8), (121 : UInt8), (122 : UInt8), (48 : UInt8),
              (49 : UInt8), (50 : UInt8), (51 : UInt8), (52 : UInt8), (53 : UInt8), (54 : UInt8), (55 : UInt8), (56 : UInt8), (57 : UInt8),
              (95 : UInt8)] }]

def k13j : List SV → List Entry → Option Out
  | [.one ⟨false, [.val (.string x0)]⟩], [] => some ⟨(.one ⟨false, [(.val (.bool (kz3 x0)))]⟩), [], [], [(kym x0)]⟩
  | _, _ => none

def k161 : PF Tryz.prog := PF.ofG Tryz.prog [ksx, kr9, k17d] [] hmix 257 Tryz.f257 Tryz.func257 (fun c _ => LOk.nil c) k13j (by
  intro vs es r h; unfold k13j at h; split at h
  · cases h; kernel_rfl
  · cases h)

abbrev k2l := Int × Int × ByteArray × List ByteArray

def k9l (y0 : Int) (y1 : Int) : Bool :=
  ltI y0 y1

def k9i (y0 : Int) : Bool :=
  leI (0 : Int) y0

def k9h (y0 : Int) (y3 : List ByteArray) : Bool :=
  ltI y0 (↑(List.length y3) : Int)

def k9j (y0 : Int) (y3 : List ByteArray) : Bool :=
  ltN (Int.toNat y0) (List.length y3)

def k9k (y0 : Int) (y2 : ByteArray) (y3 : List ByteArray) : Bool :=
  ByteArray.toList y2 == ByteArray.toList (Option.getD y3[Int.toNat y0]? ByteArray.empty)

def k9m (y0 : Int) : Int :=
  IntKind.wrap IntKind.i64 (y0 + (1 : Int))

def ks6 : k2l → List (Nat × SV)
  | (y0, y1, y2, _) => [(8, (.one ⟨false, [(.val (.int IntKind.i64 y0))]⟩)), (7, (.one ⟨false, [(.val (.int IntKind.i64 y1))]⟩)), (1, (.one ⟨false, [(.val (.string y2))]⟩)), (0, (.one ⟨false, [(.ref 0)]⟩))]

def ksf : k2l → List (Nat × Entry)
  | (_, _, _, y3) => [(0, (.row false 9 (CTy.str) y3))]

def krt : Nat → k2l → List (Nat × SV)
  | 0, (y0, _, _, _) => [(4, (.one ⟨false, [(.val (.int IntKind.i64 y0))]⟩))]
  | _, (_, _, _, _) => []

def ks0 : Nat → k2l → List (Nat × Entry)
  | 0, (_, _, _, y3) => [(0, (.row false 9 (CTy.str) y3))]
  | _, (_, _, _, y3) => [(0, (.row false 9 (CTy.str) y3))]

def k8o : k2l → LT k2l
  | (y0, y1, y2, y3) => .ite (k9l y0 y1) (.need [(k9i y0), (k9h y0 y3), (k9j y0 y3)] (.ite (k9k y0 y2 y3) (.ext 0 [(0, 0)]) (.nrm ((k9m y0), y1, y2, y3) [(0, 0)]))) (.ext 1 [(0, 0)])

def kfg (s : St) : Option k2l :=
  (match s.look 8 with
  | some ⟨none, (.one ⟨false, [(.val (.int IntKind.i64 y0))]⟩)⟩ =>
  (match s.look 7 with
  | some ⟨none, (.one ⟨false, [(.val (.int IntKind.i64 y1))]⟩)⟩ =>
  (match s.look 1 with
  | some ⟨none, (.one ⟨false, [(.val (.string y2))]⟩)⟩ =>
  (match s.look 0 with
  | some ⟨none, (.one ⟨false, [(.ref 0)]⟩)⟩ =>
  (match s.ent 0 with
  | some (.row false 9 (CTy.str) y3) =>
  some (y0, y1, y2, y3)
  | _ => none)
  | _ => none)
  | _ => none)
  | _ => none)
  | _ => none)

def k1e : Lp k2l where
  h := ⟨[9, 10, 5, 11, 12, 13, 14, 15, 16, 17, 4, 18, 8], [0], [], []⟩
  JL := ks6
  JE := ksf
  XL := krt
  XE := ks0
  q := fun j => match j with | 0 => .ret | _ => .exit 0
  tags := [0, 1]
  lt := k8o
  fuel := fun (y0, y1, y2, y3) => y0.natAbs + y1.natAbs + y2.size + y3.length
  fix := fun (_, y1, y2, y3) (y0, _, _, _) => (y0, y1, y2, y3)
  σ := [(0, 0)]
  rd := kfg

theorem kr4 : LoopOk Tryz.prog (fun k => Nat.blt k Tryz.f120.ntmps) k1e.F (loopAt Tryz.f120 0) := by
  refine Lp.ok (tbl := []) (lf := []) hmix k1e (by kernel_rfl) (LOk.nil _) (fun _ => rfl) (fun j _ => by unfold k1e; match j with | 0 => rfl | _ + 1 => rfl) ?_ ?_ ?_ ?_ (fun _ => rfl) ?_
  · intro x; obtain ⟨y0, y1, y2, y3⟩ := x; kernel_rfl
  · intro x; obtain ⟨y0, y1, y2, y3⟩ := x; kernel_rfl
  · intro s x h
    have h : kfg s = some x := h
    unfold kfg at h
    repeat' split at h
    all_goals cases h
    exact ⟨absS_cons (by assumption) rfl (absS_cons (by assumption) rfl (absS_cons (by assumption) rfl (absS_cons (by assumption) rfl (rfl)))), absE_cons rfl (by assumption) rfl (rfl)⟩
  · intro x; obtain ⟨y0, y1, y2, y3⟩ := x; kernel_rfl
  · intro x z; obtain ⟨y0, y1, y2, y3⟩ := x; exact (And.intro (And.intro trivial rfl) trivial)

def ke1 (x0 : ByteArray) (x1 : List ByteArray) : Int × Int × ByteArray × List ByteArray :=
  ((0 : Int), (↑(List.length x1) : Int), x0, x1)

def kil (x0 : ByteArray) (x1 : List ByteArray) : Int :=
  bif Nat.beq (Prod.fst (Lp.res k1e (ke1 x0 x1))) (0 : Nat) then
  Prod.fst (Prod.snd (Lp.res k1e (ke1 x0 x1)))
  else (-1 : Int)

def kic (x0 : ByteArray) (x1 : List ByteArray) : Bool :=
  allT [Lp.fin k1e (ke1 x0 x1)]

def koc : List SV → List Entry → Option Out
  | [.one ⟨false, [.ref 0]⟩, .one ⟨false, [.val (.string x0)]⟩], [.row false 9 (.str) x1] => some ⟨(.one ⟨false, [(.val (.int IntKind.i64 (kil x0 x1)))]⟩), [(.row false 9 (CTy.str) x1)], [], [(kic x0 x1)]⟩
  | _, _ => none

def khv : PF Tryz.prog := PF.ofG Tryz.prog [] [k1e.F] hmix 120 Tryz.f120 Tryz.func120 (LOk.fnT (l := [loopAt Tryz.f120 0]) (by kernel_rfl) (.cons kr4 (.nil _))) koc (by
  intro vs es r h; unfold koc at h; split at h
  · cases h; kernel_rfl
  · cases h)

def kgl (x0 : ByteArray) (x1 : List ByteArray) : Bool :=
  leI (0 : Int) (kil x0 x1)

def kgb (x0 : ByteArray) (x1 : List ByteArray) : Bool :=
  allT [kic x0 x1]

def klc : List SV → List Entry → Option Out
  | [.one ⟨false, [.ref 0]⟩, .one ⟨false, [.val (.string x0)]⟩], [.row false 9 (.str) x1] => some ⟨(.one ⟨false, [(.val (.bool (kgl x0 x1)))]⟩), [(.row false 9 (CTy.str) x1)], [], [(kgb x0 x1)]⟩
  | _, _ => none

def kga : PF Tryz.prog := PF.ofG Tryz.prog [khv, PF.lend khv, PF.fz khv] [] hmix 234 Tryz.f234 Tryz.func234 (fun c _ => LOk.nil c) klc (by
  intro vs es r h; unfold klc at h; split at h
  · cases h; kernel_rfl
  · cases h)

def kuy (x0 : ByteArray) : Bool :=
  kgl x0 (List.drop (Int.toNat (0 : Int)) (List.take (Int.toNat (↑(List.length tab0) : Int)) tab0))

def ku4 (x0 : ByteArray) : Bool :=
  allT [kgb x0 (List.drop (Int.toNat (0 : Int)) (List.take (Int.toNat (↑(List.length tab0) : Int)) tab0))]

def kyy : List SV → List Entry → Option Out
  | [.one ⟨false, [.val (.string x0)]⟩], [] => some ⟨(.one ⟨false, [(.val (.bool (kuy x0)))]⟩), [], [], [(ku4 x0)]⟩
  | _, _ => none

def k14e : PF Tryz.prog := PF.ofG Tryz.prog [kga, PF.lend kga, PF.fz kga] [] hmix 258 Tryz.f258 Tryz.func258 (fun c _ => LOk.nil c) kyy (by
  intro vs es r h; unfold kyy at h; split at h
  · cases h; kernel_rfl
  · cases h)

end Go.SX

namespace Go.SX
open Go.Proofs
set_option maxRecDepth 100000

/-- A loop over numbers that stops at the first of a kind. -/
theorem Lp.scan {X : Type} (p : Lp X) (st : Nat → X) (N : Nat) (P : Nat → Bool) (e : Nat) (hN : N ≤ p.fuel (st 0))
    (hs : ∀ b, b < N → (p.lt (st b)).nds = true ∧ (p.lt (st b)).each (fun y => y = st (b + 1)) ∧ (p.lt (st b)).fn (fun _ => ()) = (bif P b then .inl 0 else .inr ()))
    (he : (p.lt (st N)).out = some (.inl e)) : p.fin (st 0) = true ∧ (p.res (st 0)).1 = bif (List.range N).any P then 0 else e := by
  have key := p.along (fun i (_ : Unit) => st i) (fun _ => ()) (fun (b : Nat) (_ : Unit) => bif P b then .inl 0 else .inr ()) e (fun _ _ => True) (List.range N) () trivial (by rw [List.length_range]; exact hN)
    (fun i b a hb _ => by
      obtain ⟨rfl, hlt⟩ := range_get hb
      obtain ⟨h1, h2, h3⟩ := hs b hlt
      exact ⟨h1, h2, h3, fun _ _ => trivial⟩) (fun a _ => by rw [List.length_range]; exact he)
  rw [walk_stop (P := P) (j := 0) (fun b => rfl)] at key
  exact ⟨key.1, by rw [key.2]⟩

/-- A byte of a text. -/
def bAt (s : ByteArray) (b : Nat) : Int := ((s[b]?.getD 0).toNat : Int)
def letB (c : Int) : Bool := inR c 97 122
def innB (c : Int) : Bool := letB c || (inR c 48 57 || c == 95)
/-- A word. -/
def wordB (s : ByteArray) : Bool := inR (s.size : Int) 1 12 && (letB (bAt s 0) && (List.range s.size).all fun b => innB (bAt s b))
/-- A keyword. -/
def keyB (s : ByteArray) : Bool := tab0.any fun k => k.toList == s.toList
/-- A name. -/
def nameB (s : ByteArray) : Bool := wordB s && !keyB s

def abcS : ByteArray := ⟨#[97, 98, 99, 100, 101, 102, 103, 104, 105, 106, 107, 108, 109, 110, 111, 112, 113, 114, 115, 116, 117, 118, 119, 120, 121, 122]⟩
def wbS : ByteArray := ⟨#[97, 98, 99, 100, 101, 102, 103, 104, 105, 106, 107, 108, 109, 110, 111, 112, 113, 114, 115, 116, 117, 118, 119, 120, 121, 122, 48, 49, 50, 51, 52, 53, 54, 55, 56, 57, 95]⟩

theorem k18j : ∀ n : Nat, n < 256 → leI 0 (ibs abcS (n : Int)) = letB (n : Int) := by decide +kernel
theorem wb_nat : ∀ n : Nat, n < 256 → leI 0 (ibs wbS (n : Int)) = innB (n : Int) := by decide +kernel

theorem abc_ok (s : ByteArray) (b : Nat) : leI 0 (ibs abcS (bAt s b)) = letB (bAt s b) := k18j _ (UInt8.toNat_lt _)
theorem wb_ok (s : ByteArray) (b : Nat) : leI 0 (ibs wbS (bAt s b)) = innB (bAt s b) := wb_nat _ (UInt8.toNat_lt _)

theorem specInner (c : Int) : ksr c = innB c := by
  simp only [ksr, ko0, kvp, inR_eq, innB, letB]
  cases inR c 97 122 <;> cases inR c 48 57 <;> rfl

theorem k17f (s : ByteArray) (hn : s.size ≤ 9223372036854775807) :
    k55.fin ((0 : Int), s) = true ∧ (k55.res ((0 : Int), s)).1 = bif (List.range s.size).any (fun b => !innB (bAt s b)) then 0 else 1 := by
  refine Lp.scan k55 (fun b => ((b : Int), s)) s.size (fun b => !innB (bAt s b)) 1 (by simp only [k55]; omega) (fun b hb => ?_) ?_
  · have hdec : ltI (b : Int) (s.size : Int) = true := ltI_t (by omega)
    have hw : IntKind.i64.wrap ((b : Int) + 1) = ((b + 1 : Nat) : Int) := by rw [wrap_i64 (by omega) (by omega)]; omega
    have hnn : leI (0 : Int) (b : Int) = true := leI_t (by omega)
    have i2 : kta (b : Int) s = !innB (bAt s b) := by simp only [kta, specInner, Int.toNat_natCast, bAt]
    refine ⟨?_, ?_, ?_⟩
    · simp [k55, kkj, LT.nds, allT, kn1, kxy, hdec, hnn]
    · simp [k55, kkj, LT.each, ky0, hw]
    · simp only [k55, kkj, LT.fn, kn1, hdec, i2, cond_true]
  · simp [k55, kkj, LT.out, kn1]

theorem k16v (s : ByteArray) (h : leN s.size 9223372036854775807 = true) : kxc s = wordB s ∧ kxh s = true := by
  obtain ⟨w1, w2⟩ := k17f s (leN_iff.1 h)
  have e5 : ((List.range s.size).any fun b => !innB (bAt s b)) = !(List.range s.size).all fun b => innB (bAt s b) := by simp [List.all_eq_not_any_not]
  rw [e5] at w2
  have eb : ((UInt8.toNat (Option.getD s[Int.toNat (0 : Int)]? (0 : UInt8)) : Nat) : Int) = bAt s 0 := rfl
  have h0 : leI 0 0 = true := rfl
  simp only [kxc, kxh, ksj, ksi, w1, w2, eb, h0, ko0, k1u, inR_eq, wordB, letB, allT, Bool.or_true, cond_true]
  cases hr : inR (s.size : Int) 1 12 with
  | false => cases (List.range s.size).all fun b => innB (bAt s b) <;> simp [Nat.beq]
  | true =>
    have := kux.1 hr
    rw [ltI_t (by omega)]
    cases inR (bAt s 0) 97 122 <;> cases (List.range s.size).all fun b => innB (bAt s b) <;> simp [Nat.beq]

theorem w_run (s : ByteArray) (hn : s.size ≤ 9223372036854775806) :
    k8b.fin ((0 : Int), (0 : Int), s, wbS) = true ∧ ((k8b.res ((0 : Int), (0 : Int), s, wbS)).2.2.1 == (s.size : Int)) = (List.range s.size).all fun b => innB (bAt s b) := by
  have hz : ∀ i : Nat, i ≤ s.size → IntKind.i64.wrap ((0 : Int) + (i : Int)) = (i : Int) := fun i hi => by rw [wrap_i64 (by omega) (by omega)]; omega
  have key := k8b.along (fun i (_ : Unit) => ((0 : Int), (i : Int), s, wbS)) (fun _ => ()) (fun (b : Nat) (_ : Unit) => bif !innB (bAt s b) then .inl 0 else .inr ()) 0 (fun _ _ => True) (List.range s.size) () trivial (by simp only [k8b, List.length_range]; omega)
    (fun i b a hb _ => by
      obtain ⟨rfl, hlt⟩ := range_get hb
      have hdec : ltI (b : Int) (s.size : Int) = true := ltI_t (by omega)
      have hnn : leI (0 : Int) (b : Int) = true := leI_t (by omega)
      have hw : IntKind.i64.wrap ((b : Int) + 1) = ((b + 1 : Nat) : Int) := by rw [wrap_i64 (by omega) (by omega)]; omega
      have ha : kjf 0 (b : Int) s = true := by simp only [kjf, hz b (by omega), hdec]
      have hb2 : kvo 0 (b : Int) s wbS = innB (bAt s b) := by
        simp only [kvo, ha, cond_true, hz b (by omega), Int.toNat_natCast, kni, kfz]
        exact wb_ok s b
      refine ⟨?_, ?_, ?_, fun _ _ => trivial⟩
      · have hz2 := hz b (by omega)
        rw [Int.zero_add] at hz2
        simp [k8b, kqn, LT.nds, allT, kyw, kyr, ha, hz2]
      · simp [k8b, kqn, LT.each, k139, hw]
      · simp only [k8b, kqn, LT.fn, hb2]
        cases innB (bAt s b) <;> rfl)
    (fun a _ => by
      have hdec : ltI (s.size : Int) (s.size : Int) = false := by simp
      have ha : kjf 0 (s.size : Int) s = false := by simp only [kjf, hz s.size (by omega), hdec]
      rw [List.length_range]
      simp [k8b, kqn, LT.out, kvo, kyw, kyr, allT, ha])
  rw [walk_stop (P := fun b => !innB (bAt s b)) (j := 0) (fun b => rfl)] at key
  refine ⟨key.1, ?_⟩
  have k2 : k8b.res ((0 : Int), (0 : Int), s, wbS) = _ := key.2
  rw [k2]
  simp only [Nat.zero_add]
  rw [Bool.eq_iff_iff, beq_iff_eq, List.all_eq_true]
  have hl : ∀ (l : List Nat) (P : Nat → Bool), (l.takeWhile P).length = l.length ↔ ∀ x ∈ l, P x = true := by
    intro l P
    induction l with
    | nil => simp
    | cons a r ih =>
      rw [List.takeWhile_cons]
      cases h : P a with
      | false => simp [h]
      | true => simp [h, ih]
  have h2 := hl (List.range s.size) (fun b => !!innB (bAt s b))
  rw [List.length_range] at h2
  constructor
  · intro h x hx; have := h2.1 (by exact_mod_cast h) x hx; simpa using this
  · intro h; exact_mod_cast h2.2 (fun x hx => by simpa using h x hx)

theorem k16p (s : ByteArray) : kz3 s = wordB s ∧ kym s = true := by
  have eb : ((UInt8.toNat (Option.getD s[Int.toNat (0 : Int)]? (0 : UInt8)) : Nat) : Int) = bAt s 0 := rfl
  have e0 : kj7 s = inR (s.size : Int) 1 12 := by simp only [kj7, k3n, inR_eq]
  have e1 : kos s = (inR (s.size : Int) 1 12 && letB (bAt s 0)) := by
    have : kos s = bif kj7 s then leI 0 (ibs abcS (bAt s 0)) else false := rfl
    rw [this, e0, abc_ok]
    cases inR (s.size : Int) 1 12 <;> rfl
  have e2 : kz3 s = bif kos s then (k8b.res ((0 : Int), (0 : Int), s, wbS)).2.2.1 == (s.size : Int) else false := rfl
  have e3 : kym s = allT [!(kj7 s && true) || leI (0) (0), !(kj7 s && true) || ltI (0) (↑(ByteArray.size s)), !(kos s && true) || allT [k8b.fin ((0 : Int), (0 : Int), s, wbS)]] := rfl
  have h0 : leI 0 0 = true := rfl
  rw [e2, e3, e1, e0, h0]
  cases hr : inR (s.size : Int) 1 12 with
  | false => simp [wordB, hr, allT]
  | true =>
    have := kux.1 hr
    obtain ⟨w1, w2⟩ := w_run s (by omega)
    rw [w1, w2, ltI_t (by omega)]
    simp only [wordB, hr, allT, Bool.true_and, Bool.and_true, Bool.or_true, cond_true]
    cases letB (bAt s 0) <;> simp

def kik (y1 : ByteArray) (b : ByteArray) : (Unit) → Nat ⊕ (Unit)
  | _ => (bif ((ByteArray.toList (b) == ByteArray.toList y1)) then (.inl 0) else (.inr ()))

def kav (y1 : ByteArray) (y2 : List ByteArray) (i : Nat) : (Unit) → k7t
  | _ => ((i : Int), y1, y2)

def kp1 : k7t → Unit
  | (_, _, _) => ()

theorem k10o (y1 : ByteArray) (y2 : List ByteArray)  (hn : y2.length ≤ 9223372036854775807)  :
    k32.fin ((0 : Int), y1, y2) = true ∧ k32.res ((0 : Int), y1, y2) = ((walkL (kik y1) 1 y2 0 ()).1, (kav y1 y2) (walkL (kik y1) 1 y2 0 ()).2.1 (walkL (kik y1) 1 y2 0 ()).2.2) := by
  have key := k32.along (kav y1 y2) kp1 (kik y1) 1 (fun _ _ => True) y2 () (by trivial) (by simp only [k32, kav]; omega) (fun i b a hb hI => ?_) (fun a hI => ?_)
  · exact key
  · obtain ⟨⟩ := a
    have hlt := (List.getElem?_eq_some_iff.1 hb).1
    have hget : ∀ d, Option.getD y2[i]? d = b := fun d => by rw [hb]; rfl
    have hw := wrap64 hlt hn
    have hdec : ltI (i : Int) (y2.length : Int) = true := ltI_t (by omega)
    have hnn : leI (0 : Int) (i : Int) = true := leI_t (by omega)
    have hltd : ltN i y2.length = true := ltN_t hlt
    refine ⟨?_, ?_, ?_, ?_⟩
    · simp [kfn, ki1, kif, khy, kij, kh5, k32, LT.nds, allT, kav, hdec, hnn, hltd, hget]
    · simp [kfn, ki1, kif, khy, kij, kh5, k32, LT.each, kav, kp1, hw]
    · simp only [kfn, ki1, kif, khy, kij, kh5, k32, LT.fn, kav, kp1, kik, Int.toNat_natCast, hdec, hnn, hltd, hget, cond_true, Bool.cond_self]
    · exact fun _ _ => trivial
  · obtain ⟨⟩ := a
    simp [kfn, ki1, kif, khy, kij, kh5, k32, LT.out, kav]

def k9g (y2 : ByteArray) (b : ByteArray) : (Unit) → Nat ⊕ (Unit)
  | _ => (bif ((ByteArray.toList y2 == ByteArray.toList (b))) then (.inl 0) else (.inr ()))

def k3b (y2 : ByteArray) (y3 : List ByteArray) (i : Nat) : (Unit) → k2l
  | _ => ((i : Int), (↑(List.length y3) : Int), y2, y3)

def kfr : k2l → Unit
  | (_, _, _, _) => ()

theorem kt1 (y2 : ByteArray) (y3 : List ByteArray)  (hn : y3.length ≤ 9223372036854775807)  :
    k1e.fin ((0 : Int), (↑(List.length y3) : Int), y2, y3) = true ∧ k1e.res ((0 : Int), (↑(List.length y3) : Int), y2, y3) = ((walkL (k9g y2) 1 y3 0 ()).1, (k3b y2 y3) (walkL (k9g y2) 1 y3 0 ()).2.1 (walkL (k9g y2) 1 y3 0 ()).2.2) := by
  have key := k1e.along (k3b y2 y3) kfr (k9g y2) 1 (fun _ _ => True) y3 () (by trivial) (by simp only [k1e, k3b]; omega) (fun i b a hb hI => ?_) (fun a hI => ?_)
  · exact key
  · obtain ⟨⟩ := a
    have hlt := (List.getElem?_eq_some_iff.1 hb).1
    have hget : ∀ d, Option.getD y3[i]? d = b := fun d => by rw [hb]; rfl
    have hw := wrap64 hlt hn
    have hdec : ltI (i : Int) (y3.length : Int) = true := ltI_t (by omega)
    have hnn : leI (0 : Int) (i : Int) = true := leI_t (by omega)
    have hltd : ltN i y3.length = true := ltN_t hlt
    refine ⟨?_, ?_, ?_, ?_⟩
    · simp [k9l, k9i, k9h, k9j, k9k, k9m, k8o, k1e, LT.nds, allT, k3b, hdec, hnn, hltd, hget]
    · simp [k9l, k9i, k9h, k9j, k9k, k9m, k8o, k1e, LT.each, k3b, kfr, hw]
    · simp only [k9l, k9i, k9h, k9j, k9k, k9m, k8o, k1e, LT.fn, k3b, kfr, k9g, Int.toNat_natCast, hdec, hnn, hltd, hget, cond_true, Bool.cond_self]
    · exact fun _ _ => trivial
  · obtain ⟨⟩ := a
    simp [k9l, k9i, k9h, k9j, k9k, k9m, k8o, k1e, LT.out, k3b]

theorem key17 : tab0.length ≤ 9223372036854775807 := by decide

theorem k17c (s : ByteArray) : ltI (kpo s) 0 = !keyB s ∧ kpl s = true := by
  have e0 : ks3 = tab0 := rfl
  obtain ⟨w1, w2⟩ := k10o s tab0 key17
  rw [walk_stop (P := fun k => k.toList == s.toList) (j := 0) (fun k => rfl)] at w2
  simp only [kpo, kpl, koi, e0, w1, w2, allT, keyB, kav]
  cases tab0.any fun k => k.toList == s.toList with
  | false => exact ⟨rfl, rfl⟩
  | true =>
    simp only [cond_true, Nat.beq]
    refine ⟨?_, trivial⟩
    exact ltI_not.2 (by omega)

theorem k17b (s : ByteArray) : kuy s = keyB s ∧ ku4 s = true := by
  have e0 : List.drop (Int.toNat (0)) (List.take (Int.toNat (↑(List.length tab0))) tab0) = tab0 := rfl
  obtain ⟨w1, w2⟩ := kt1 s tab0 key17
  rw [walk_stop (P := fun k => s.toList == k.toList) (j := 0) (fun k => rfl)] at w2
  have e1 : (fun k : ByteArray => s.toList == k.toList) = fun k => k.toList == s.toList := funext fun k => BEq.comm
  rw [e1] at w2
  simp only [kuy, ku4, e0, kgl, kgb, kil, kic, ke1, w1, w2, allT, keyB, k3b]
  cases tab0.any fun k => k.toList == s.toList with
  | false => exact ⟨rfl, rfl⟩
  | true =>
    simp only [cond_true, Nat.beq]
    rw [leI_t (by omega)]; simp

def k11q : List SV → List Entry → Option Out
  | [.one ⟨false, [.val (.string x0)]⟩], [] => some ⟨(.one ⟨false, [(.val (.bool (wordB x0)))]⟩), [], [], [leN x0.size 9223372036854775807]⟩
  | _, _ => none

def k15k : PF Tryz.prog := PF.alt k15n k11q (by
  intro args es o h hnd; unfold k11q at h; split at h
  · rename_i x0
    cases h
    have hnd := nd_fst hnd
    have hh := k16v x0 hnd
    obtain ⟨e0, en⟩ := hh
    exact altok rfl (nd_one en) (by simp only [e0] <;> rfl) rfl rfl
  · cases h)

def k13m : List SV → List Entry → Option Out
  | [.one ⟨false, [.val (.string x0)]⟩], [] => some ⟨(.one ⟨false, [(.val (.bool (wordB x0)))]⟩), [], [], []⟩
  | _, _ => none

def k165 : PF Tryz.prog := PF.alt k161 k13m (by
  intro args es o h hnd; unfold k13m at h; split at h
  · rename_i x0
    cases h
    have hh := k16p x0
    obtain ⟨e0, en⟩ := hh
    exact altok rfl (nd_one en) (by simp only [e0] <;> rfl) rfl rfl
  · cases h)

def kyv : List SV → List Entry → Option Out
  | [.one ⟨false, [.val (.string x0)]⟩], [] => some ⟨(.one ⟨false, [(.val (.bool (keyB x0)))]⟩), [], [], []⟩
  | _, _ => none

def k14i : PF Tryz.prog := PF.alt k14e kyv (by
  intro args es o h hnd; unfold kyv at h; split at h
  · rename_i x0
    cases h
    have hh := k17b x0
    obtain ⟨e0, en⟩ := hh
    exact altok rfl (nd_one en) (by simp only [e0] <;> rfl) rfl rfl
  · cases h)

end Go.SX

namespace Go.SX
open Go.Proofs
set_option maxRecDepth 100000

def ku0 (x0 : ByteArray) : Bool :=
  bif wordB x0 then ltI (kpo x0) (0 : Int) else false

def ktt (x0 : ByteArray) : Bool :=
  allT [leN (ByteArray.size x0) (9223372036854775807 : Nat), !(wordB x0 && true) || kpl x0]

def k125 : List SV → List Entry → Option Out
  | [.one ⟨false, [.val (.string x0)]⟩], [] => some ⟨(.one ⟨false, [(.val (.bool (ku0 x0)))]⟩), [], [], [(ktt x0)]⟩
  | _, _ => none

def k15r : PF Tryz.prog := PF.ofG Tryz.prog [k15k, k13u] [] hmix 239 Tryz.f239 Tryz.func239 (fun c _ => LOk.nil c) k125 (by
  intro vs es r h; unfold k125 at h; split at h
  · cases h; kernel_rfl
  · cases h)

def kus (x0 : Int) : Bool :=
  bif bif bif x0 == (7 : Int) then true else x0 == (8 : Int) then true else x0 == (11 : Int) then true else x0 == (12 : Int)

def kyu : List SV → List Entry → Option Out
  | [.one ⟨false, [.val (.int .i64 x0)]⟩], [] => some ⟨(.one ⟨false, [(.val (.bool (kus x0)))]⟩), [], [], []⟩
  | _, _ => none

def k14n : PF Tryz.prog := PF.ofG Tryz.prog [] [] hmix 251 Tryz.f251 Tryz.func251 (fun c _ => LOk.nil c) kyu (by
  intro vs es r h; unfold kyu at h; split at h
  · cases h; kernel_rfl
  · cases h)

def kxp (x0 : Int) : Bool :=
  k1u x0 (1 : Int) (12 : Int)

def k11d : List SV → List Entry → Option Out
  | [.one ⟨false, [.val (.int .i64 x0)]⟩], [] => some ⟨(.one ⟨false, [(.val (.bool (kxp x0)))]⟩), [], [], []⟩
  | _, _ => none

def k15p : PF Tryz.prog := PF.ofG Tryz.prog [khu] [] hmix 252 Tryz.f252 Tryz.func252 (fun c _ => LOk.nil c) k11d (by
  intro vs es r h; unfold k11d at h; split at h
  · cases h; kernel_rfl
  · cases h)

def kvx (x0 : Int) (x2 : Int) : Bool :=
  bif bif !kxp x0 then true else !k1u x2 (0 : Int) (9999 : Int) then true
  else bif !kus x0 then x2 != (0 : Int) else false

def kty (x0 : Int) (x1 : ByteArray) (x2 : Int) : Bool :=
  bif kvx x0 x2 then false else bif x0 == (1 : Int) then ku0 x1 else ByteArray.toList x1 == ByteArray.toList { data := #[] }

def ktu (x0 : Int) (x1 : ByteArray) (x2 : Int) : Bool :=
  allT [kvx x0 x2 || (!x0 == (1 : Int) || ktt x1)]

def k110 : List SV → List Entry → Option Out
  | [.one ⟨true, [.val (.int .i64 x0), .val (.string x1), .val (.int .i64 x2)]⟩], [] => some ⟨(.one ⟨false, [(.val (.bool (kty x0 x1 x2)))]⟩), [], [], [(ktu x0 x1 x2)]⟩
  | _, _ => none

def k15s : PF Tryz.prog := PF.ofG Tryz.prog [khu, k15r, k14n, k15p] [] hmix 212 Tryz.f212 Tryz.func212 (fun c _ => LOk.nil c) k110 (by
  intro vs es r h; unfold k110 at h; split at h
  · cases h; kernel_rfl
  · cases h)

def kxj (x0 : Int) (x1 : ByteArray) (x2 : Int) : Bool :=
  bif kty x0 x1 x2 then leI (7 : Int) x0 else false

def kxf (x0 : Int) (x1 : ByteArray) (x2 : Int) : Bool :=
  allT [ktu x0 x1 x2]

def k113 : List SV → List Entry → Option Out
  | [.one ⟨true, [.val (.int .i64 x0), .val (.string x1), .val (.int .i64 x2)]⟩], [] => some ⟨(.one ⟨false, [(.val (.bool (kxj x0 x1 x2)))]⟩), [], [], [(kxf x0 x1 x2)]⟩
  | _, _ => none

def k15m : PF Tryz.prog := PF.ofG Tryz.prog [k15s] [] hmix 154 Tryz.f154 Tryz.func154 (fun c _ => LOk.nil c) k113 (by
  intro vs es r h; unfold k113 at h; split at h
  · cases h; kernel_rfl
  · cases h)

def kvk (x0 : ByteArray) : Bool :=
  bif wordB x0 then !keyB x0 else false

def k13l : List SV → List Entry → Option Out
  | [.one ⟨false, [.val (.string x0)]⟩], [] => some ⟨(.one ⟨false, [(.val (.bool (kvk x0)))]⟩), [], [], []⟩
  | _, _ => none

def k168 : PF Tryz.prog := PF.ofG Tryz.prog [k165, k14i] [] hmix 225 Tryz.f225 Tryz.func225 (fun c _ => LOk.nil c) k13l (by
  intro vs es r h; unfold k13l at h; split at h
  · cases h; kernel_rfl
  · cases h)

def kt8 (x0 : Int) : Bool :=
  bif bif bif x0 == (7 : Int) then true else x0 == (8 : Int) then true else x0 == (11 : Int) then true else x0 == (12 : Int)

def ky2 : List SV → List Entry → Option Out
  | [.one ⟨false, [.val (.int .i64 x0)]⟩], [] => some ⟨(.one ⟨false, [(.val (.bool (kt8 x0)))]⟩), [], [], []⟩
  | _, _ => none

def k13y : PF Tryz.prog := PF.ofG Tryz.prog [] [] hmix 253 Tryz.f253 Tryz.func253 (fun c _ => LOk.nil c) ky2 (by
  intro vs es r h; unfold ky2 at h; split at h
  · cases h; kernel_rfl
  · cases h)

def kvd (x0 : Int) (x1 : ByteArray) (x2 : Int) : Bool :=
  bif bif !k3n x0 (1 : Int) (12 : Int) then true else !(x0 == (1 : Int)) == !ByteArray.toList x1 == ByteArray.toList { data := #[] } then
  false
  else
  bif kt8 x0 then k3n x2 (0 : Int) (9999 : Int)
  else bif x2 == (0 : Int) then bif x0 != (1 : Int) then true else kvk x1 else false

def k13o : List SV → List Entry → Option Out
  | [.one ⟨true, [.val (.int .i64 x0), .val (.string x1), .val (.int .i64 x2)]⟩], [] => some ⟨(.one ⟨false, [(.val (.bool (kvd x0 x1 x2)))]⟩), [], [], []⟩
  | _, _ => none

def k15w : PF Tryz.prog := PF.ofG Tryz.prog [ksx, k168, k13y] [] hmix 215 Tryz.f215 Tryz.func215 (fun c _ => LOk.nil c) k13o (by
  intro vs es r h; unfold k13o at h; split at h
  · cases h; kernel_rfl
  · cases h)

def kxd (x0 : Int) (x1 : ByteArray) (x2 : Int) : Bool :=
  bif kvd x0 x1 x2 then leI (7 : Int) x0 else false

def k11h : List SV → List Entry → Option Out
  | [.one ⟨true, [.val (.int .i64 x0), .val (.string x1), .val (.int .i64 x2)]⟩], [] => some ⟨(.one ⟨false, [(.val (.bool (kxd x0 x1 x2)))]⟩), [], [], []⟩
  | _, _ => none

def k15f : PF Tryz.prog := PF.ofG Tryz.prog [k15w] [] hmix 161 Tryz.f161 Tryz.func161 (fun c _ => LOk.nil c) k11h (by
  intro vs es r h; unfold k11h at h; split at h
  · cases h; kernel_rfl
  · cases h)

def kiw (x0 : Int) (x2 : Int) (x3 : Int) (x4 : Int) (x5 : Int) : Bool :=
  bif bif x0 == (7 : Int) then x0 == (7 : Int) else x0 == (8 : Int) then
  bif bif k3n x3 (0 : Int) x2 then x4 == (0 : Int) else false then x5 == (0 : Int) else false
  else
  bif x0 == (11 : Int) then bif bif k3n x3 (0 : Int) x2 then k3n x4 (0 : Int) (1 : Int) else false then x5 == (0 : Int) else false
  else
    bif x0 == (12 : Int) then
      bif x4 == (0 : Int) then
        bif bif k3n x3 (0 : Int) x2 then x5 == (0 : Int) else false then true
        else bif x3 == IntKind.wrap IntKind.i64 (x2 + (1 : Int)) then x5 == (1 : Int) else false
      else false
    else bif bif k3n x3 (0 : Int) (1 : Int) then x4 == (0 : Int) else false then x5 == (0 : Int) else false

def ky1 : List SV → List Entry → Option Out
  | [.one ⟨true, [.val (.int .i64 x0), .val (.string _x1), .val (.int .i64 x2)]⟩, .one ⟨true, [.val (.int .i64 x3), .val (.int .i64 x4), .val (.int .i64 x5)]⟩], [] => some ⟨(.one ⟨false, [(.val (.bool (kiw x0 x2 x3 x4 x5)))]⟩), [], [], []⟩
  | _, _ => none

def kxv : PF Tryz.prog := PF.ofG Tryz.prog [ksx] [] hmix 185 Tryz.f185 Tryz.func185 (fun c _ => LOk.nil c) ky1 (by
  intro vs es r h; unfold ky1 at h; split at h
  · cases h; kernel_rfl
  · cases h)

def k2u (x0 : Int) (x2 : Int) (x3 : Int) (x4 : Int) (x5 : Int) : Bool :=
  bif bif x0 == (9 : Int) then x0 == (9 : Int) else x0 == (10 : Int) then
  bif bif k1u x3 (0 : Int) (1 : Int) then x4 == (0 : Int) else false then x5 == (0 : Int) else false
  else
  bif x0 == (11 : Int) then bif bif k1u x3 (0 : Int) x2 then k1u x4 (0 : Int) (1 : Int) else false then x5 == (0 : Int) else false
  else
    bif x0 == (12 : Int) then
      bif x4 == (0 : Int) then
        bif bif k1u x3 (0 : Int) x2 then x5 == (0 : Int) else false then true
        else bif x3 == IntKind.wrap IntKind.i64 (x2 + (1 : Int)) then x5 == (1 : Int) else false
      else false
    else bif bif k1u x3 (0 : Int) x2 then x4 == (0 : Int) else false then x5 == (0 : Int) else false

def kws : List SV → List Entry → Option Out
  | [.one ⟨true, [.val (.int .i64 x0), .val (.string _x1), .val (.int .i64 x2)]⟩, .one ⟨true, [.val (.int .i64 x3), .val (.int .i64 x4), .val (.int .i64 x5)]⟩], [] => some ⟨(.one ⟨false, [(.val (.bool (k2u x0 x2 x3 x4 x5)))]⟩), [], [], []⟩
  | _, _ => none

def kwc : PF Tryz.prog := PF.ofG Tryz.prog [khu] [] hmix 169 Tryz.f169 Tryz.func169 (fun c _ => LOk.nil c) kws (by
  intro vs es r h; unfold kws at h; split at h
  · cases h; kernel_rfl
  · cases h)

end Go.SX

namespace Go.SX
open Go.Proofs
set_option maxRecDepth 100000

/-- Kinds of terms that have a number. -/
def countK (k : Int) : Bool := k == 7 || (k == 8 || (k == 11 || k == 12))
/-- A valid term. -/
def termB (k : Int) (s : ByteArray) (n : Int) : Bool := inR k 1 12 && (inR n 0 9999 && ((countK k || n == 0) && (bif k == 1 then nameB s else s.toList == [])))
/-- A valid block. -/
def blockB (k : Int) (s : ByteArray) (n : Int) : Bool := termB k s n && leI 7 k
/-- A possible state of a block. -/
def possB (k n a b c : Int) : Bool := k2u k n a b c

theorem k16l : ByteArray.toList { data := #[] } = [] := by rw [Go.Lib.toList_data]

theorem k18e {s : ByteArray} (h : nameB s = true) : (s.toList == []) = false := by
  simp only [nameB, wordB, Bool.and_eq_true, kux] at h
  have h1 : s.size = s.toList.length := by rw [Go.Lib.size_eq, Go.Lib.toList_data]
  cases hs : s.toList with
  | nil =>
    rw [hs] at h1
    have h2 : s.size = 0 := h1
    omega
  | cons a l => rfl

theorem n0_in {n : Int} (h : (n == 0) = true) : inR n 0 9999 = true := by
  have : n = 0 := by simpa using h
  rw [this]; rfl

theorem k16r (k : Int) (s : ByteArray) (n : Int) (h : leN s.size 9223372036854775807 = true) : kty k s n = termB k s n ∧ ktu k s n = true := by
  obtain ⟨e1, e2⟩ := k17c s
  have e3 : ku0 s = nameB s := by simp only [ku0, e1, nameB]; cases wordB s <;> rfl
  have e4 : ktt s = true := by simp only [ktt, e2, h, allT, Bool.or_true, cond_true]
  simp only [kty, ktu, kvx, e3, e4, kxp, k1u, inR_eq, k16l, kus, termB, countK, allT, Bool.or_true, cond_true]
  refine ⟨?_, trivial⟩
  simp only [bne]
  generalize (bif k == 1 then nameB s else s.toList == []) = q
  generalize inR k 1 12 = q1
  generalize inR n 0 9999 = q2
  generalize (k == 7) = q3
  generalize (k == 8) = q4
  generalize (k == 11) = q5
  generalize (k == 12) = q6
  generalize (n == 0) = q7
  revert q q1 q2 q3 q4 q5 q6 q7
  decide

theorem k16u (k : Int) (s : ByteArray) (n : Int) : kvd k s n = termB k s n := by
  have e3 : kvk s = nameB s := by simp only [kvk, nameB]; cases wordB s <;> rfl
  simp only [kvd, e3, k3n, inR_eq, k16l, kt8, termB, countK]
  by_cases h1 : k = 1
  · subst h1
    have z7 : ((1 : Int) == 7) = false := rfl
    have z8 : ((1 : Int) == 8) = false := rfl
    have z11 : ((1 : Int) == 11) = false := rfl
    have z12 : ((1 : Int) == 12) = false := rfl
    have z1 : ((1 : Int) == 1) = true := rfl
    have zn : ((1 : Int) != 1) = false := rfl
    have zr : inR (1 : Int) 1 12 = true := rfl
    rw [z7, z8, z11, z12, z1, zn, zr]
    have hs : nameB s = true → (s.toList == []) = false := k18e
    have h0 : (n == 0) = true → inR n 0 9999 = true := n0_in
    generalize (s.toList == []) = q at hs ⊢
    generalize (n == 0) = q2 at h0 ⊢
    generalize inR n 0 9999 = q3 at h0 ⊢
    generalize nameB s = q4 at hs ⊢
    revert q q2 q3 q4
    decide
  · have z1 : (k == 1) = false := by simpa using h1
    have zn : (k != 1) = true := by simpa using h1
    rw [z1, zn]
    have h0 : (n == 0) = true → inR n 0 9999 = true := n0_in
    generalize (s.toList == []) = q
    generalize (n == 0) = q2 at h0 ⊢
    generalize inR n 0 9999 = q3 at h0 ⊢
    generalize inR k 1 12 = q1
    generalize (k == 7) = p3
    generalize (k == 8) = p4
    generalize (k == 11) = p5
    generalize (k == 12) = p6
    generalize nameB s = p7
    revert q q1 q2 q3 p3 p4 p5 p6 p7
    decide

theorem k16e (k : Int) (s : ByteArray) (n : Int) (h : leN s.size 9223372036854775807 = true) : kxj k s n = blockB k s n ∧ kxf k s n = true := by
  obtain ⟨e1, e2⟩ := k16r k s n h
  simp only [kxj, kxf, e1, e2, blockB, allT, cond_true]
  refine ⟨?_, trivial⟩
  cases termB k s n <;> rfl

theorem k16j (k : Int) (s : ByteArray) (n : Int) : kxd k s n = blockB k s n := by
  simp only [kxd, k16u, blockB]
  cases termB k s n <;> rfl

theorem k14d {k : Int} {s : ByteArray} {n : Int} (h : blockB k s n = true) : (7 ≤ k ∧ k ≤ 12) ∧ (0 ≤ n ∧ n ≤ 9999) ∧ (countK k = true ∨ n = 0) := by
  simp only [blockB, termB, Bool.and_eq_true, kux, leI_iff, Bool.or_eq_true, beq_iff_eq] at h
  obtain ⟨⟨h1, h2, h3, _⟩, h4⟩ := h
  exact ⟨⟨h4, h1.2⟩, h2, h3⟩

/-- The kinds of blocks. -/
theorem kinds {k : Int} (h : 7 ≤ k ∧ k ≤ 12) : k = 7 ∨ k = 8 ∨ k = 9 ∨ k = 10 ∨ k = 11 ∨ k = 12 := by omega

theorem k18c {k n a b c : Int} (h : 7 ≤ k ∧ k ≤ 12) : kiw k n a b c = possB k n a b c := by
  rcases kinds h with rfl | rfl | rfl | rfl | rfl | rfl <;> rfl

theorem k14k {k n a b c : Int} (h : possB k n a b c = true) (hn : 0 ≤ n ∧ n ≤ 9999) : (0 ≤ a ∧ a ≤ 10000) ∧ (b = 0 ∨ b = 1) ∧ (c = 0 ∨ c = 1) := by
  have hw : IntKind.i64.wrap (n + 1) = n + 1 := wrap_i64 (by omega) (by omega)
  simp only [possB, k2u, k1u, inR_eq, hw] at h
  cases h1 : (bif k == 9 then k == 9 else k == 10) with
  | true =>
    rw [h1] at h
    cases h2 : inR a 0 1 <;> rw [h2] at h <;> simp at h
    have := kux.1 h2
    omega
  | false =>
    rw [h1] at h
    cases h3 : k == 11 with
    | true =>
      rw [h3] at h
      cases h2 : inR a 0 n <;> cases h4 : inR b 0 1 <;> rw [h2] at h <;> simp [h4] at h
      have := kux.1 h2
      have := kux.1 h4
      omega
    | false =>
      rw [h3] at h
      cases h5 : k == 12 with
      | true =>
        rw [h5] at h
        cases h2 : inR a 0 n <;> rw [h2] at h <;> simp at h
        · omega
        · have := kux.1 h2
          omega
      | false =>
        rw [h5] at h
        cases h2 : inR a 0 n <;> rw [h2] at h <;> simp at h
        have := kux.1 h2
        omega

def k123 : List SV → List Entry → Option Out
  | [.one ⟨true, [.val (.int .i64 x0), .val (.string x1), .val (.int .i64 x2)]⟩], [] => some ⟨(.one ⟨false, [(.val (.bool (blockB x0 x1 x2)))]⟩), [], [], [leN x1.size 9223372036854775807]⟩
  | _, _ => none

def k120 : PF Tryz.prog := PF.alt k15m k123 (by
  intro args es o h hnd; unfold k123 at h; split at h
  · rename_i x0 x1 x2
    cases h
    have hnd := nd_fst hnd
    have hh := k16e x0 x1 x2 hnd
    obtain ⟨e0, en⟩ := hh
    exact altok rfl (nd_one en) (by simp only [e0] <;> rfl) rfl rfl
  · cases h)

def k115 : List SV → List Entry → Option Out
  | [.one ⟨true, [.val (.int .i64 x0), .val (.string x1), .val (.int .i64 x2)]⟩], [] => some ⟨(.one ⟨false, [(.val (.bool (blockB x0 x1 x2)))]⟩), [], [], []⟩
  | _, _ => none

def k11z : PF Tryz.prog := PF.alt k15f k115 (by
  intro args es o h hnd; unfold k115 at h; split at h
  · rename_i x0 x1 x2
    cases h
    have hh := k16j x0 x1 x2
    have e0 := hh
    exact altok rfl (fun _ h => by cases h) (by simp only [e0] <;> rfl) rfl rfl
  · cases h)

end Go.SX

namespace Go.SX
open Go.Proofs
set_option maxRecDepth 100000

def kxe (x1 : ByteArray) (x3 : Int) : Int :=
  IntKind.wrap IntKind.i64 (x3 - (↑(ByteArray.size x1) : Int))

def kg6 (x1 : ByteArray) (x3 : Int) : Int :=
  bif ltI (kxe x1 x3) (0 : Int) then (-1 : Int) else kxe x1 x3

def k13n : List SV → List Entry → Option Out
  | [.one ⟨true, [.val (.int .i64 _x0), .val (.string x1), .val (.int .i64 _x2)]⟩, .one ⟨false, [.val (.int .i64 x3)]⟩], [] => some ⟨(.one ⟨false, [(.val (.int IntKind.i64 (kg6 x1 x3)))]⟩), [], [], []⟩
  | _, _ => none

def k136 : PF Tryz.prog := PF.ofG Tryz.prog [] [] hmix 152 Tryz.f152 Tryz.func152 (fun c _ => LOk.nil c) k13n (by
  intro vs es r h; unfold k13n at h; split at h
  · cases h; kernel_rfl
  · cases h)

def kn6 (x0 : Int) : Int :=
  bif bif x0 == (1 : Int) then x0 == (1 : Int) else bif x0 == (2 : Int) then x0 == (2 : Int) else x0 == (3 : Int) then (0 : Int)
  else
  bif
      bif x0 == (4 : Int) then x0 == (4 : Int)
      else bif x0 == (7 : Int) then x0 == (7 : Int) else bif x0 == (8 : Int) then x0 == (8 : Int) else x0 == (9 : Int) then
    (1 : Int)
  else (2 : Int)

def k106 : List SV → List Entry → Option Out
  | [.one ⟨false, [.val (.int .i64 x0)]⟩], [] => some ⟨(.one ⟨false, [(.val (.int IntKind.i64 (kn6 x0)))]⟩), [], [], []⟩
  | _, _ => none

def k151 : PF Tryz.prog := PF.ofG Tryz.prog [] [] hmix 224 Tryz.f224 Tryz.func224 (fun c _ => LOk.nil c) k106 (by
  intro vs es r h; unfold k106 at h; split at h
  · cases h; kernel_rfl
  · cases h)

abbrev kbu := Int × List Int

def kiv (y0 : Int) (y1 : List Int) : Bool :=
  ltI y0 (↑(List.length y1) : Int)

def kmr (y0 : Int) : Bool :=
  leI (0 : Int) y0

def kmw (y0 : Int) (y1 : List Int) : Bool :=
  ltN (Int.toNat y0) (List.length y1)

def kmu (y0 : Int) (y1 : List Int) : Bool :=
  !k1u (Option.getD y1[Int.toNat y0]? (0 : Int)) (0 : Int) (1 : Int)

def kmg (y0 : Int) : Int :=
  IntKind.wrap IntKind.i64 (y0 + (1 : Int))

def k12d : kbu → List (Nat × SV)
  | (y0, _) => [(5, (.one ⟨false, [(.val (.int IntKind.i64 y0))]⟩)), (0, (.one ⟨false, [(.ref 0)]⟩))]

def k12q : kbu → List (Nat × Entry)
  | (_, y1) => [(0, (.row false 2 (CTy.int IntKind.i64) y1))]

def k12w : Nat → kbu → List (Nat × SV)
  | 0, (_, _) => [(4, (.one ⟨false, [(.val (.bool false))]⟩))]
  | _, (_, _) => []

def k12y : Nat → kbu → List (Nat × Entry)
  | 0, (_, y1) => [(0, (.row false 2 (CTy.int IntKind.i64) y1))]
  | _, (_, y1) => [(0, (.row false 2 (CTy.int IntKind.i64) y1))]

def kl1 : kbu → LT kbu
  | (y0, y1) => .ite (kiv y0 y1) (.need [(kmr y0), (kiv y0 y1), (kmw y0 y1)] (.ite (kmu y0 y1) (.ext 0 [(0, 0)]) (.nrm ((kmg y0), y1) [(0, 0)]))) (.ext 1 [(0, 0)])

def ksd (s : St) : Option kbu :=
  (match s.look 5 with
  | some ⟨none, (.one ⟨false, [(.val (.int IntKind.i64 y0))]⟩)⟩ =>
  (match s.look 0 with
  | some ⟨none, (.one ⟨false, [(.ref 0)]⟩)⟩ =>
  (match s.ent 0 with
  | some (.row false 2 (CTy.int IntKind.i64) y1) =>
  some (y0, y1)
  | _ => none)
  | _ => none)
  | _ => none)

def k4x : Lp kbu where
  h := ⟨[6, 7, 8, 9, 12, 13, 14, 15, 16, 17, 4, 10, 11, 5], [0], [], []⟩
  JL := k12d
  JE := k12q
  XL := k12w
  XE := k12y
  q := fun j => match j with | 0 => .ret | _ => .exit 0
  tags := [0, 1]
  lt := kl1
  fuel := fun (y0, y1) => y0.natAbs + y1.length
  fix := fun (_, y1) (y0, _) => (y0, y1)
  σ := [(0, 0)]
  rd := ksd

theorem k10g : LoopOk Tryz.prog (fun k => Nat.blt k Tryz.f88.ntmps) k4x.F (loopAt Tryz.f88 0) := by
  refine Lp.ok (tbl := [khu]) (lf := []) hmix k4x (by kernel_rfl) (LOk.nil _) (fun _ => rfl) (fun j _ => by unfold k4x; match j with | 0 => rfl | _ + 1 => rfl) ?_ ?_ ?_ ?_ (fun _ => rfl) ?_
  · intro x; obtain ⟨y0, y1⟩ := x; kernel_rfl
  · intro x; obtain ⟨y0, y1⟩ := x; kernel_rfl
  · intro s x h
    have h : ksd s = some x := h
    unfold ksd at h
    repeat' split at h
    all_goals cases h
    exact ⟨absS_cons (by assumption) rfl (absS_cons (by assumption) rfl (rfl)), absE_cons rfl (by assumption) rfl (rfl)⟩
  · intro x; obtain ⟨y0, y1⟩ := x; kernel_rfl
  · intro x z; obtain ⟨y0, y1⟩ := x; exact (And.intro (And.intro trivial rfl) trivial)

def kwy (x0 : Int) (x1 : List Int) : Bool :=
  bif Nat.beq (Prod.fst (Lp.res k4x ((0 : Int), x1))) (0 : Nat) then false else (↑(List.length x1) : Int) == x0

def kxl (x1 : List Int) : Bool :=
  allT [Lp.fin k4x ((0 : Int), x1)]

def k124 : List SV → List Entry → Option Out
  | [.one ⟨false, [.ref 0]⟩, .one ⟨false, [.val (.int .i64 x0)]⟩], [.row false 2 (.int .i64) x1] => some ⟨(.one ⟨false, [(.val (.bool (kwy x0 x1)))]⟩), [(.row false 2 (CTy.int IntKind.i64) x1)], [], [(kxl x1)]⟩
  | _, _ => none

def k15q : PF Tryz.prog := PF.ofG Tryz.prog [khu] [k4x.F] hmix 88 Tryz.f88 Tryz.func88 (LOk.fnT (l := [loopAt Tryz.f88 0]) (by kernel_rfl) (.cons k10g (.nil _))) k124 (by
  intro vs es r h; unfold k124 at h; split at h
  · cases h; kernel_rfl
  · cases h)

def k7l (x0 : Bool) : Int :=
  bif x0 then (1 : Int) else (0 : Int)

def k13d : List SV → List Entry → Option Out
  | [.one ⟨false, [.val (.bool x0)]⟩], [] => some ⟨(.one ⟨false, [(.val (.int IntKind.i64 (k7l x0)))]⟩), [], [], []⟩
  | _, _ => none

def k13i : PF Tryz.prog := PF.ofG Tryz.prog [] [] hmix 244 Tryz.f244 Tryz.func244 (fun c _ => LOk.nil c) k13d (by
  intro vs es r h; unfold k13d at h; split at h
  · cases h; kernel_rfl
  · cases h)

def k67 (x3 : Int) (x4 : Int) (x5 : Int) : Bool :=
  bif bif x3 == (1 : Int) then x4 == (0 : Int) else false then x5 == (0 : Int) else false

def k71 (x3 : Int) (x4 : Int) (x5 : Int) : Bool :=
  (bif k67 x3 x4 x5 then (0 : Int) else x3) == (0 : Int)

def k7s (x3 : Int) (x4 : Int) (x5 : Int) : Bool :=
  bif k71 x3 x4 x5 then x4 != x5 else false

def k8z (x1 : Int) (x3 : Int) (x4 : Int) (x5 : Int) : Int :=
  IntKind.wrap IntKind.i64 ((bif k67 x3 x4 x5 then (0 : Int) else x1) + (1 : Int))

def k8x (x0 : Int) (x1 : Int) (x3 : Int) (x4 : Int) (x5 : Int) : Int :=
  bif k7s x3 x4 x5 then k7l (ltI x0 (k8z x1 x3 x4 x5))
  else bif k71 x3 x4 x5 then (0 : Int) else bif k67 x3 x4 x5 then (0 : Int) else x3

def kay (x0 : Int) (x1 : Int) (x3 : Int) (x4 : Int) (x5 : Int) : Int :=
  k7l (bif bif x4 == (1 : Int) then x5 == (1 : Int) else false then k8x x0 x1 x3 x4 x5 == (0 : Int) else false)

def kb2 (x1 : Int) (x3 : Int) (x4 : Int) (x5 : Int) : Int :=
  bif k7s x3 x4 x5 then k8z x1 x3 x4 x5
  else bif k71 x3 x4 x5 then (0 : Int) else bif k67 x3 x4 x5 then (0 : Int) else x1

def kb1 (x2 : Int) (x3 : Int) (x4 : Int) (x5 : Int) : Int :=
  bif k7s x3 x4 x5 then (0 : Int) else bif k71 x3 x4 x5 then (0 : Int) else bif k67 x3 x4 x5 then (0 : Int) else x2

def kb0 (x0 : Int) (x1 : Int) (x3 : Int) (x4 : Int) (x5 : Int) : Int :=
  k8x x0 x1 x3 x4 x5

def k117 : List SV → List Entry → Option Out
  | [.one ⟨false, [.val (.int .i64 x0)]⟩, .one ⟨true, [.val (.int .i64 x1), .val (.int .i64 x2), .val (.int .i64 x3)]⟩, .one ⟨false, [.val (.int .i64 x4)]⟩, .one ⟨false, [.val (.int .i64 x5)]⟩], [] => some ⟨(.tup [⟨false, [(.val (.int IntKind.i64 (kay x0 x1 x3 x4 x5)))]⟩, ⟨true, [(.val (.int IntKind.i64 (kb2 x1 x3 x4 x5))), (.val (.int IntKind.i64 (kb1 x2 x3 x4 x5))), (.val (.int IntKind.i64 (kb0 x0 x1 x3 x4 x5)))]⟩]), [], [], []⟩
  | _, _ => none

def k15g : PF Tryz.prog := PF.ofG Tryz.prog [k13i] [] hmix 245 Tryz.f245 Tryz.func245 (fun c _ => LOk.nil c) k117 (by
  intro vs es r h; unfold k117 at h; split at h
  · cases h; kernel_rfl
  · cases h)

def k2k (x6 : List Int) : Int :=
  Option.getD x6[Int.toNat (0 : Int)]? (0 : Int)

def k70 (x3 : Int) : Int :=
  IntKind.wrap IntKind.i64 (x3 + (1 : Int))

def k91 (x2 : Int) (x3 : Int) (x6 : List Int) : Int :=
  IntKind.wrap IntKind.i64 (ifLt (k70 x3) x2 (k70 x3) x2 * k2k x6)

def k57 (x6 : List Int) : Int :=
  bif ltI (1 : Int) (↑(List.length x6) : Int) then Option.getD x6[Int.toNat (1 : Int)]? (0 : Int) else (0 : Int)

def k8v (x3 : Int) (x6 : List Int) : Int :=
  bif k57 x6 == (1 : Int) then (0 : Int) else bif k2k x6 == (1 : Int) then (1 : Int) else x3

def k94 (x2 : Int) (x3 : Int) (x4 : Int) (x6 : List Int) : Int :=
  bif k57 x6 == (1 : Int) then (0 : Int)
  else bif bif k2k x6 == (1 : Int) then x4 == (0 : Int) else false then ifLt (k70 x3) x2 (k70 x3) x2 else x3

def k8u (x3 : Int) : Int :=
  IntKind.wrap IntKind.i64 (x3 - (1 : Int))

def k95 (x6 : List Int) : Int :=
  bif k2k x6 == (1 : Int) then (0 : Int) else (0 : Int)

def k7o (x6 : List Int) : Bool :=
  !ltI (1 : Int) (↑(List.length x6) : Int)

def k51 (x0 : Int) (x2 : Int) (x3 : Int) (x4 : Int) (x5 : Int) (x6 : List Int) : Int :=
  bif x0 == (7 : Int) then k7l (bif k2k x6 == (1 : Int) then k91 x2 x3 x6 == x2 else false)
  else
  bif x0 == (8 : Int) then bif k2k x6 == (1 : Int) then (1 : Int) else k7l (ltI (0 : Int) x3)
  else
    bif x0 == (9 : Int) then k7l (bif k2k x6 == (1 : Int) then x3 == (0 : Int) else false)
    else
      bif x0 == (10 : Int) then k8v x3 x6
      else
        bif x0 == (11 : Int) then k7l (k94 x2 x3 x4 x6 == x2)
        else kay x2 x3 x5 (k2k x6) (k57 x6)

def k7f (x0 : Int) (x2 : Int) (x3 : Int) (x4 : Int) (x5 : Int) (x6 : List Int) : Int :=
  bif x0 == (7 : Int) then k91 x2 x3 x6
  else
  bif x0 == (8 : Int) then bif k2k x6 == (1 : Int) then x2 else ifLt (0 : Int) (k8u x3) (k8u x3) (0 : Int)
  else
    bif x0 == (9 : Int) then k2k x6
    else
      bif x0 == (10 : Int) then k8v x3 x6
      else bif x0 == (11 : Int) then k94 x2 x3 x4 x6 else kb2 x3 x5 (k2k x6) (k57 x6)

def k7m (x0 : Int) (x4 : Int) (x5 : Int) (x6 : List Int) : Int :=
  bif x0 == (7 : Int) then (0 : Int)
  else
  bif x0 == (8 : Int) then k95 x6
  else
    bif x0 == (9 : Int) then (0 : Int)
    else
      bif x0 == (10 : Int) then (0 : Int)
      else bif x0 == (11 : Int) then k2k x6 else kb1 x4 x5 (k2k x6) (k57 x6)

def k7d (x0 : Int) (x2 : Int) (x3 : Int) (x5 : Int) (x6 : List Int) : Int :=
  bif x0 == (7 : Int) then (0 : Int)
  else
  bif x0 == (8 : Int) then k95 x6
  else
    bif x0 == (9 : Int) then (0 : Int)
    else
      bif x0 == (10 : Int) then (0 : Int)
      else bif x0 == (11 : Int) then (0 : Int) else kb0 x2 x3 x5 (k2k x6) (k57 x6)

def k9y (x6 : List Int) : Bool :=
  allT
  [ltI (0 : Int) (↑(List.length x6) : Int), ltN (Int.toNat (0 : Int)) (List.length x6), k7o x6 || leI (0 : Int) (1 : Int),
    k7o x6 || ltI (1 : Int) (↑(List.length x6) : Int), k7o x6 || ltN (Int.toNat (1 : Int)) (List.length x6)]

def k10z : List SV → List Entry → Option Out
  | [.one ⟨true, [.val (.int .i64 x0), .val (.string _x1), .val (.int .i64 x2)]⟩, .one ⟨true, [.val (.int .i64 x3), .val (.int .i64 x4), .val (.int .i64 x5)]⟩, .one ⟨false, [.ref 0]⟩], [.row false 2 (.int .i64) x6] => some ⟨(.tup [⟨false, [(.val (.int IntKind.i64 (k51 x0 x2 x3 x4 x5 x6)))]⟩, ⟨true, [(.val (.int IntKind.i64 (k7f x0 x2 x3 x4 x5 x6))), (.val (.int IntKind.i64 (k7m x0 x4 x5 x6))), (.val (.int IntKind.i64 (k7d x0 x2 x3 x5 x6)))]⟩]), [(.row false 2 (CTy.int IntKind.i64) x6)], [], [(k9y x6)]⟩
  | _, _ => none

def kxm : PF Tryz.prog := PF.ofG Tryz.prog [k13i, k15g] [] hmix 190 Tryz.f190 Tryz.func190 (fun c _ => LOk.nil c) k10z (by
  intro vs es r h; unfold k10z at h; split at h
  · cases h; kernel_rfl
  · cases h)

def k13r : List SV → List Entry → Option Out
  | [.one ⟨true, [.val (.int .i64 x0), .val (.string x1), .val (.int .i64 x2)]⟩], [] => some ⟨(.one ⟨true, [(.val (.int IntKind.i64 x0)), (.val (.string x1)), (.val (.int IntKind.i64 x2))]⟩), [], [], []⟩
  | _, _ => none

def k13b : PF Tryz.prog := PF.ofG Tryz.prog [] [] hmix 156 Tryz.f156 Tryz.func156 (fun c _ => LOk.nil c) k13r (by
  intro vs es r h; unfold k13r at h; split at h
  · cases h; kernel_rfl
  · cases h)

def k14j (x0 : Int) : Bool :=
  bif x0 != (0 : Int) then x0 != (1 : Int) else false

def kyk : List SV → List Entry → Option Out
  | [.one ⟨false, [.val (.int .i64 x0)]⟩], [] => some ⟨(.one ⟨false, [(.val (.bool (k14j x0)))]⟩), [], [], []⟩
  | _, _ => none

def k14h : PF Tryz.prog := PF.ofG Tryz.prog [] [] hmix 219 Tryz.f219 Tryz.func219 (fun c _ => LOk.nil c) kyk (by
  intro vs es r h; unfold kyk at h; split at h
  · cases h; kernel_rfl
  · cases h)

def kjd (x0 : Int) : Bool :=
  bif x0 != (0 : Int) then x0 != (1 : Int) else false

def ksw : List SV → List Entry → Option Out
  | [(.one ⟨false, [(.val (.int IntKind.i64 x0))]⟩)], [] => some ⟨(.one ⟨false, [(.val (.bool (kjd x0)))]⟩), [], [], []⟩
  | _, _ => none

def ksz : PF Tryz.prog := PF.ofG Tryz.prog [] [] hmix 219 Tryz.f219 Tryz.func219 (fun c _ => LOk.nil c) ksw (by
  intro vs es r h; unfold ksw at h; split at h
  · cases h; kernel_rfl
  · cases h)

abbrev k1p := Int × Int × List Int

def k4o (y0 : Int) (y1 : Int) : Bool :=
  ltI y0 y1

def k4t (y0 : Int) : Bool :=
  leI (0 : Int) y0

def k4m (y0 : Int) (y2 : List Int) : Bool :=
  ltI y0 (↑(List.length y2) : Int)

def k4r (y0 : Int) (y2 : List Int) : Bool :=
  ltN (Int.toNat y0) (List.length y2)

def k4p (y0 : Int) (y2 : List Int) : Bool :=
  kjd (Option.getD y2[Int.toNat y0]? (0 : Int))

def k4q (y0 : Int) : Int :=
  IntKind.wrap IntKind.i64 (y0 + (1 : Int))

def knn : k1p → List (Nat × SV)
  | (y0, y1, _) => [(8, (.one ⟨false, [(.val (.int IntKind.i64 y0))]⟩)), (7, (.one ⟨false, [(.val (.int IntKind.i64 y1))]⟩)), (1, (.one ⟨false, [(.val (.func (.func 219) ⟨[]⟩ ⟨[]⟩))]⟩)), (0, (.one ⟨false, [(.ref 0)]⟩))]

def knp : k1p → List (Nat × Entry)
  | (_, _, y2) => [(0, (.row false 2 (CTy.int IntKind.i64) y2))]

def knq : Nat → k1p → List (Nat × SV)
  | 0, (y0, _, _) => [(4, (.one ⟨false, [(.val (.int IntKind.i64 y0))]⟩))]
  | _, (_, _, _) => []

def kno : Nat → k1p → List (Nat × Entry)
  | 0, (_, _, y2) => [(0, (.row false 2 (CTy.int IntKind.i64) y2))]
  | _, (_, _, y2) => [(0, (.row false 2 (CTy.int IntKind.i64) y2))]

def k4g : k1p → LT k1p
  | (y0, y1, y2) => .ite (k4o y0 y1) (.need [(k4t y0), (k4m y0 y2), (k4r y0 y2)] (.ite (k4p y0 y2) (.ext 0 [(0, 0)]) (.nrm ((k4q y0), y1, y2) [(0, 0)]))) (.ext 1 [(0, 0)])

def kb4 (s : St) : Option k1p :=
  (match s.look 8 with
  | some ⟨none, (.one ⟨false, [(.val (.int IntKind.i64 y0))]⟩)⟩ =>
  (match s.look 7 with
  | some ⟨none, (.one ⟨false, [(.val (.int IntKind.i64 y1))]⟩)⟩ =>
  (match s.look 1 with
  | some ⟨none, (.one ⟨false, [(.val (.func (.func 219) ⟨[]⟩ ⟨[]⟩))]⟩)⟩ =>
  (match s.look 0 with
  | some ⟨none, (.one ⟨false, [(.ref 0)]⟩)⟩ =>
  (match s.ent 0 with
  | some (.row false 2 (CTy.int IntKind.i64) y2) =>
  some (y0, y1, y2)
  | _ => none)
  | _ => none)
  | _ => none)
  | _ => none)
  | _ => none)

def ky : Lp k1p where
  h := ⟨[9, 10, 5, 11, 12, 13, 14, 15, 16, 17, 4, 18, 8], [0], [], []⟩
  JL := knn
  JE := knp
  XL := knq
  XE := kno
  q := fun j => match j with | 0 => .ret | _ => .exit 0
  tags := [0, 1]
  lt := k4g
  fuel := fun (y0, y1, y2) => y0.natAbs + y1.natAbs + y2.length
  fix := fun (_, y1, y2) (y0, _, _) => (y0, y1, y2)
  σ := [(0, 0)]
  rd := kb4

theorem kmp : LoopOk Tryz.prog (fun k => Nat.blt k Tryz.f255.ntmps) ky.F (loopAt Tryz.f255 0) := by
  refine Lp.ok (tbl := [ksz]) (lf := []) hmix ky (by kernel_rfl) (LOk.nil _) (fun _ => rfl) (fun j _ => by unfold ky; match j with | 0 => rfl | _ + 1 => rfl) ?_ ?_ ?_ ?_ (fun _ => rfl) ?_
  · intro x; obtain ⟨y0, y1, y2⟩ := x; kernel_rfl
  · intro x; obtain ⟨y0, y1, y2⟩ := x; kernel_rfl
  · intro s x h
    have h : kb4 s = some x := h
    unfold kb4 at h
    repeat' split at h
    all_goals cases h
    exact ⟨absS_cons (by assumption) rfl (absS_cons (by assumption) rfl (absS_cons (by assumption) rfl (absS_cons (by assumption) rfl (rfl)))), absE_cons rfl (by assumption) rfl (rfl)⟩
  · intro x; obtain ⟨y0, y1, y2⟩ := x; kernel_rfl
  · intro x z; obtain ⟨y0, y1, y2⟩ := x; exact (And.intro (And.intro trivial rfl) trivial)

def k8d (x0 : List Int) : Int × Int × List Int :=
  ((0 : Int), (↑(List.length x0) : Int), x0)

def kcq (x0 : List Int) : Int :=
  bif Nat.beq (Prod.fst (Lp.res ky (k8d x0))) (0 : Nat) then
  Prod.fst (Prod.snd (Lp.res ky (k8d x0)))
  else (-1 : Int)

def kco (x0 : List Int) : Bool :=
  allT [Lp.fin ky (k8d x0)]

def khe : List SV → List Entry → Option Out
  | [(.one ⟨false, [(.ref 0)]⟩), (.one ⟨false, [(.val (.func (.func 219) ⟨[]⟩ ⟨[]⟩))]⟩)], [(.row false 2 (CTy.int IntKind.i64) x0)] => some ⟨(.one ⟨false, [(.val (.int IntKind.i64 (kcq x0)))]⟩), [(.row false 2 (CTy.int IntKind.i64) x0)], [], [(kco x0)]⟩
  | _, _ => none

def kd3 : PF Tryz.prog := PF.ofG Tryz.prog [ksz] [ky.F] hmix 255 Tryz.f255 Tryz.func255 (LOk.fnT (l := [loopAt Tryz.f255 0]) (by kernel_rfl) (.cons kmp (.nil _))) khe (by
  intro vs es r h; unfold khe at h; split at h
  · cases h; kernel_rfl
  · cases h)

def kbd (x0 : List Int) : Bool :=
  leI (0 : Int) (kcq x0)

def kbp (x0 : List Int) : Bool :=
  allT [kco x0]

def kgf : List SV → List Entry → Option Out
  | [(.one ⟨false, [(.ref 0)]⟩), (.one ⟨false, [(.val (.func (.func 219) ⟨[]⟩ ⟨[]⟩))]⟩)], [(.row false 2 (CTy.int IntKind.i64) x0)] => some ⟨(.one ⟨false, [(.val (.bool (kbd x0)))]⟩), [(.row false 2 (CTy.int IntKind.i64) x0)], [], [(kbp x0)]⟩
  | _, _ => none

def kbg : PF Tryz.prog := PF.ofG Tryz.prog [kd3, PF.lend kd3, PF.fz kd3] [] hmix 218 Tryz.f218 Tryz.func218 (fun c _ => LOk.nil c) kgf (by
  intro vs es r h; unfold kgf at h; split at h
  · cases h; kernel_rfl
  · cases h)

def kx9 (x0 : Int) (x1 : List Int) : Bool :=
  bif (↑(List.length x1) : Int) == x0 then !kbd x1 else false

def kxr (x0 : Int) (x1 : List Int) : Bool :=
  allT [!((↑(List.length x1) : Int) == x0 && true) || kbp x1]

def k121 : List SV → List Entry → Option Out
  | [.one ⟨false, [.ref 0]⟩, .one ⟨false, [.val (.int .i64 x0)]⟩], [.row false 2 (.int .i64) x1] => some ⟨(.one ⟨false, [(.val (.bool (kx9 x0 x1)))]⟩), [(.row false 2 (CTy.int IntKind.i64) x1)], [], [(kxr x0 x1)]⟩
  | _, _ => none

def k15l : PF Tryz.prog := PF.ofG Tryz.prog [k14h, kbg, PF.lend kbg, PF.fz kbg] [] hmix 165 Tryz.f165 Tryz.func165 (fun c _ => LOk.nil c) k121 (by
  intro vs es r h; unfold k121 at h; split at h
  · cases h; kernel_rfl
  · cases h)

def kc7 (x0 : Bool) : Int :=
  bif x0 then (1 : Int) else (0 : Int)

def k14f : List SV → List Entry → Option Out
  | [.one ⟨false, [.val (.bool x0)]⟩], [] => some ⟨(.one ⟨false, [(.val (.int IntKind.i64 (kc7 x0)))]⟩), [], [], []⟩
  | _, _ => none

def k10p : PF Tryz.prog := PF.ofG Tryz.prog [] [] hmix 269 Tryz.f269 Tryz.func269 (fun c _ => LOk.nil c) k14f (by
  intro vs es r h; unfold k14f at h; split at h
  · cases h; kernel_rfl
  · cases h)

def kev (x2 : Int) (x4 : Bool) : Bool :=
  bif x4 then x2 == (0 : Int) else false

def kex (x1 : Int) : Int :=
  IntKind.wrap IntKind.i64 (x1 + (1 : Int))

def kf2 (x0 : Int) (x1 : Int) (x2 : Int) (x4 : Bool) (x5 : Bool) : Int :=
  bif x5 then (0 : Int) else bif kev x2 x4 then ifLt x0 (kex x1) x0 (kex x1) else x1

def kgd (x0 : Int) (x1 : Int) (x2 : Int) (x4 : Bool) (x5 : Bool) : Int :=
  kc7 (kf2 x0 x1 x2 x4 x5 == x0)

def kg9 (x0 : Int) (x1 : Int) (x2 : Int) (x4 : Bool) (x5 : Bool) : Int :=
  kf2 x0 x1 x2 x4 x5

def kg7 (x4 : Bool) : Int :=
  kc7 x4

def kgg (x2 : Int) (x3 : Int) (x4 : Bool) (x5 : Bool) : Int :=
  bif x5 then x3 else bif kev x2 x4 then x3 else x3

def kyg : List SV → List Entry → Option Out
  | [.one ⟨false, [.val (.int .i64 x0)]⟩, .one ⟨true, [.val (.int .i64 x1), .val (.int .i64 x2), .val (.int .i64 x3)]⟩, .one ⟨false, [.val (.bool x4)]⟩, .one ⟨false, [.val (.bool x5)]⟩], [] => some ⟨(.tup [⟨false, [(.val (.int IntKind.i64 (kgd x0 x1 x2 x4 x5)))]⟩, ⟨true, [(.val (.int IntKind.i64 (kg9 x0 x1 x2 x4 x5))), (.val (.int IntKind.i64 (kg7 x4))), (.val (.int IntKind.i64 (kgg x2 x3 x4 x5)))]⟩]), [], [], []⟩
  | _, _ => none

def k14q : PF Tryz.prog := PF.ofG Tryz.prog [k10p] [] hmix 270 Tryz.f270 Tryz.func270 (fun c _ => LOk.nil c) kyg (by
  intro vs es r h; unfold kyg at h; split at h
  · cases h; kernel_rfl
  · cases h)

def k7j (x3 : Int) (x4 : Bool) (x5 : Bool) : Bool :=
  bif bif x3 == (1 : Int) then !x4 else false then !x5 else false

def kcw (x3 : Int) (x4 : Bool) (x5 : Bool) : Bool :=
  (bif k7j x3 x4 x5 then (0 : Int) else x3) == (0 : Int)

def kep (x3 : Int) (x4 : Bool) (x5 : Bool) : Bool :=
  bif kcw x3 x4 x5 then !x4 == x5 else false

def kgk (x1 : Int) (x3 : Int) (x4 : Bool) (x5 : Bool) : Int :=
  IntKind.wrap IntKind.i64 ((bif k7j x3 x4 x5 then (0 : Int) else x1) + (1 : Int))

def kg8 (x0 : Int) (x1 : Int) (x3 : Int) (x4 : Bool) (x5 : Bool) : Int :=
  bif kep x3 x4 x5 then kc7 (ltI x0 (kgk x1 x3 x4 x5))
  else bif kcw x3 x4 x5 then bif k7j x3 x4 x5 then (0 : Int) else x3 else bif k7j x3 x4 x5 then (0 : Int) else x3

def khc (x0 : Int) (x1 : Int) (x3 : Int) (x4 : Bool) (x5 : Bool) : Int :=
  kc7 (bif bif x4 then x5 else false then kg8 x0 x1 x3 x4 x5 == (0 : Int) else false)

def khb (x1 : Int) (x3 : Int) (x4 : Bool) (x5 : Bool) : Int :=
  bif kep x3 x4 x5 then kgk x1 x3 x4 x5
  else bif kcw x3 x4 x5 then (0 : Int) else bif k7j x3 x4 x5 then (0 : Int) else x1

def kha (x2 : Int) (x3 : Int) (x4 : Bool) (x5 : Bool) : Int :=
  bif kep x3 x4 x5 then bif k7j x3 x4 x5 then x2 else x2
  else bif kcw x3 x4 x5 then bif k7j x3 x4 x5 then x2 else x2 else bif k7j x3 x4 x5 then x2 else x2

def kh8 (x0 : Int) (x1 : Int) (x3 : Int) (x4 : Bool) (x5 : Bool) : Int :=
  kg8 x0 x1 x3 x4 x5

def kzv : List SV → List Entry → Option Out
  | [.one ⟨false, [.val (.int .i64 x0)]⟩, .one ⟨true, [.val (.int .i64 x1), .val (.int .i64 x2), .val (.int .i64 x3)]⟩, .one ⟨false, [.val (.bool x4)]⟩, .one ⟨false, [.val (.bool x5)]⟩], [] => some ⟨(.tup [⟨false, [(.val (.int IntKind.i64 (khc x0 x1 x3 x4 x5)))]⟩, ⟨true, [(.val (.int IntKind.i64 (khb x1 x3 x4 x5))), (.val (.int IntKind.i64 (kha x2 x3 x4 x5))), (.val (.int IntKind.i64 (kh8 x0 x1 x3 x4 x5)))]⟩]), [], [], []⟩
  | _, _ => none

def k14w : PF Tryz.prog := PF.ofG Tryz.prog [k10p] [] hmix 271 Tryz.f271 Tryz.func271 (fun c _ => LOk.nil c) kzv (by
  intro vs es r h; unfold kzv at h; split at h
  · cases h; kernel_rfl
  · cases h)

def k59 (x6 : List Int) : Bool :=
  Option.getD x6[Int.toNat (0 : Int)]? (0 : Int) == (1 : Int)

def kob (x3 : Int) : Int :=
  IntKind.wrap IntKind.i64 (x3 + (1 : Int))

def ko3 (x2 : Int) (x3 : Int) (x6 : List Int) : Int :=
  IntKind.wrap IntKind.i64 (kc7 (k59 x6) * ifLt x2 (kob x3) x2 (kob x3))

def kjr (x6 : List Int) : Int :=
  IntKind.wrap IntKind.i64 ((↑(List.length x6) : Int) - (1 : Int))

def kc9 (x6 : List Int) : Bool :=
  Option.getD x6[Int.toNat (kjr x6)]? (0 : Int) == (1 : Int)

def ko2 (x3 : Int) (x6 : List Int) : Int :=
  bif kc9 x6 then (0 : Int) else bif k59 x6 then (1 : Int) else x3

def kny (x3 : Int) : Int :=
  IntKind.wrap IntKind.i64 (x3 - (1 : Int))

def kol (x0 : Int) (x2 : Int) (x3 : Int) (x4 : Int) (x5 : Int) (x6 : List Int) : Int :=
  bif x0 == (7 : Int) then kc7 (bif k59 x6 then ko3 x2 x3 x6 == x2 else false)
  else
  bif x0 == (8 : Int) then bif k59 x6 then (1 : Int) else kc7 (ltI (0 : Int) x3)
  else
    bif x0 == (9 : Int) then kc7 (bif k59 x6 then x3 == (0 : Int) else false)
    else
      bif x0 == (10 : Int) then ko2 x3 x6
      else
        bif x0 == (11 : Int) then kgd x2 x3 x4 (k59 x6) (kc9 x6)
        else khc x2 x3 x5 (k59 x6) (kc9 x6)

def kn7 (x0 : Int) (x2 : Int) (x3 : Int) (x4 : Int) (x5 : Int) (x6 : List Int) : Int :=
  bif x0 == (7 : Int) then ko3 x2 x3 x6
  else
  bif x0 == (8 : Int) then bif k59 x6 then x2 else ifLt (kny x3) (0 : Int) (0 : Int) (kny x3)
  else
    bif x0 == (9 : Int) then kc7 (k59 x6)
    else
      bif x0 == (10 : Int) then ko2 x3 x6
      else
        bif x0 == (11 : Int) then kg9 x2 x3 x4 (k59 x6) (kc9 x6)
        else khb x3 x5 (k59 x6) (kc9 x6)

def kn5 (x0 : Int) (x4 : Int) (x5 : Int) (x6 : List Int) : Int :=
  bif x0 == (7 : Int) then x4
  else
  bif x0 == (8 : Int) then bif k59 x6 then x4 else x4
  else
    bif x0 == (9 : Int) then x4
    else
      bif x0 == (10 : Int) then bif kc9 x6 then x4 else bif k59 x6 then x4 else x4
      else bif x0 == (11 : Int) then kg7 (k59 x6) else kha x4 x5 (k59 x6) (kc9 x6)

def kn4 (x0 : Int) (x2 : Int) (x3 : Int) (x4 : Int) (x5 : Int) (x6 : List Int) : Int :=
  bif x0 == (7 : Int) then x5
  else
  bif x0 == (8 : Int) then bif k59 x6 then x5 else x5
  else
    bif x0 == (9 : Int) then x5
    else
      bif x0 == (10 : Int) then bif kc9 x6 then x5 else bif k59 x6 then x5 else x5
      else
        bif x0 == (11 : Int) then kgg x4 x5 (k59 x6) (kc9 x6)
        else kh8 x2 x3 x5 (k59 x6) (kc9 x6)

def kom (x6 : List Int) : Bool :=
  allT
  [ltI (0 : Int) (↑(List.length x6) : Int), ltN (Int.toNat (0 : Int)) (List.length x6), leI (0 : Int) (kjr x6),
    ltI (kjr x6) (↑(List.length x6) : Int), ltN (Int.toNat (kjr x6)) (List.length x6)]

def k15d : List SV → List Entry → Option Out
  | [.one ⟨true, [.val (.int .i64 x0), .val (.string _x1), .val (.int .i64 x2)]⟩, .one ⟨true, [.val (.int .i64 x3), .val (.int .i64 x4), .val (.int .i64 x5)]⟩, .one ⟨false, [.ref 0]⟩], [.row false 2 (.int .i64) x6] => some ⟨(.tup [⟨false, [(.val (.int IntKind.i64 (kol x0 x2 x3 x4 x5 x6)))]⟩, ⟨true, [(.val (.int IntKind.i64 (kn7 x0 x2 x3 x4 x5 x6))), (.val (.int IntKind.i64 (kn5 x0 x4 x5 x6))), (.val (.int IntKind.i64 (kn4 x0 x2 x3 x4 x5 x6)))]⟩]), [(.row false 2 (CTy.int IntKind.i64) x6)], [], [(kom x6)]⟩
  | _, _ => none

def k12n : PF Tryz.prog := PF.ofG Tryz.prog [k10p, k14q, k14w] [] hmix 246 Tryz.f246 Tryz.func246 (fun c _ => LOk.nil c) k15d (by
  intro vs es r h; unfold k15d at h; split at h
  · cases h; kernel_rfl
  · cases h)

def kv9 : List SV → List Entry → Option Out
  | [.one ⟨true, [.val (.int .i64 x0), .val (.int .i64 x1), .val (.int .i64 x2)]⟩], [] => some ⟨(.one ⟨true, [(.val (.int IntKind.i64 x0)), (.val (.int IntKind.i64 x1)), (.val (.int IntKind.i64 x2))]⟩), [], [], []⟩
  | _, _ => none

def kvh : PF Tryz.prog := PF.ofG Tryz.prog [] [] hmix 170 Tryz.f170 Tryz.func170 (fun c _ => LOk.nil c) kv9 (by
  intro vs es r h; unfold kv9 at h; split at h
  · cases h; kernel_rfl
  · cases h)

def kjb (x0 : Int) (x1 : Int) (x2 : Int) (x3 : Int) (x4 : Int) (x5 : Int) : Bool :=
  bif x0 != x3 then false else bif x1 != x4 then false else bif x2 != x5 then false else true

def kvf : List SV → List Entry → Option Out
  | [.one ⟨true, [.val (.int .i64 x0), .val (.int .i64 x1), .val (.int .i64 x2)]⟩, .one ⟨true, [.val (.int .i64 x3), .val (.int .i64 x4), .val (.int .i64 x5)]⟩], [] => some ⟨(.one ⟨false, [(.val (.bool (kjb x0 x1 x2 x3 x4 x5)))]⟩), [], [], []⟩
  | _, _ => none

def kve : PF Tryz.prog := PF.ofG Tryz.prog [] [] hmix 171 Tryz.f171 Tryz.func171 (fun c _ => LOk.nil c) kvf (by
  intro vs es r h; unfold kvf at h; split at h
  · cases h; kernel_rfl
  · cases h)

end Go.SX

namespace Go.SX
open Go.Proofs
set_option maxRecDepth 100000

/-- So many bits. -/
def bitsB (n : Int) (l : List Int) : Bool := l.all (fun v => inR v 0 1) && ((l.length : Int) == n)
/-- How many values a term of a kind takes. -/
def takesK (k : Int) : Int := kn6 k

theorem kel {n : Int} {l : List Int} : bitsB n l = true ↔ (∀ v ∈ l, v = 0 ∨ v = 1) ∧ (l.length : Int) = n := by
  simp only [bitsB, Bool.and_eq_true, List.all_eq_true, kux, beq_iff_eq]
  constructor
  · rintro ⟨h1, h2⟩; exact ⟨fun v hv => by have := h1 v hv; omega, h2⟩
  · rintro ⟨h1, h2⟩; exact ⟨fun v hv => by have := h1 v hv; omega, h2⟩

def kir  (b : Int) : (Unit) → Nat ⊕ (Unit)
  | _ => (bif ((!k1u (b) (0 : Int) (1 : Int))) then (.inl 0) else (.inr ()))

def kfu (y1 : List Int) (i : Nat) : (Unit) → kbu
  | _ => ((i : Int), y1)

def krv : kbu → Unit
  | (_, _) => ()

theorem k141 (y1 : List Int)  (hn : y1.length ≤ 9223372036854775807)  :
    k4x.fin ((0 : Int), y1) = true ∧ k4x.res ((0 : Int), y1) = ((walkL (kir) 1 y1 0 ()).1, (kfu y1) (walkL (kir) 1 y1 0 ()).2.1 (walkL (kir) 1 y1 0 ()).2.2) := by
  have key := k4x.along (kfu y1) krv (kir) 1 (fun _ _ => True) y1 () (by trivial) (by simp only [k4x, kfu]; omega) (fun i b a hb hI => ?_) (fun a hI => ?_)
  · exact key
  · obtain ⟨⟩ := a
    have hlt := (List.getElem?_eq_some_iff.1 hb).1
    have hget : ∀ d, Option.getD y1[i]? d = b := fun d => by rw [hb]; rfl
    have hw := wrap64 hlt hn
    have hdec : ltI (i : Int) (y1.length : Int) = true := ltI_t (by omega)
    have hnn : leI (0 : Int) (i : Int) = true := leI_t (by omega)
    have hltd : ltN i y1.length = true := ltN_t hlt
    refine ⟨?_, ?_, ?_, ?_⟩
    · simp [kiv, kmr, kmw, kmu, kmg, kl1, k4x, LT.nds, allT, kfu, hdec, hnn, hltd, hget]
    · simp [kiv, kmr, kmw, kmu, kmg, kl1, k4x, LT.each, kfu, krv, hw]
    · simp only [kiv, kmr, kmw, kmu, kmg, kl1, k4x, LT.fn, kfu, krv, kir, Int.toNat_natCast, hdec, hnn, hltd, hget, cond_true, Bool.cond_self]
    · exact fun _ _ => trivial
  · obtain ⟨⟩ := a
    simp [kiv, kmr, kmw, kmu, kmg, kl1, k4x, LT.out, kfu]

def k3d  (b : Int) : (Unit) → Nat ⊕ (Unit)
  | _ => (bif ((kjd (b))) then (.inl 0) else (.inr ()))

def k25 (y2 : List Int) (i : Nat) : (Unit) → k1p
  | _ => ((i : Int), (↑(List.length y2) : Int), y2)

def kb3 : k1p → Unit
  | (_, _, _) => ()

theorem ko8 (y2 : List Int)  (hn : y2.length ≤ 9223372036854775807)  :
    ky.fin ((0 : Int), (↑(List.length y2) : Int), y2) = true ∧ ky.res ((0 : Int), (↑(List.length y2) : Int), y2) = ((walkL (k3d) 1 y2 0 ()).1, (k25 y2) (walkL (k3d) 1 y2 0 ()).2.1 (walkL (k3d) 1 y2 0 ()).2.2) := by
  have key := ky.along (k25 y2) kb3 (k3d) 1 (fun _ _ => True) y2 () (by trivial) (by simp only [ky, k25]; omega) (fun i b a hb hI => ?_) (fun a hI => ?_)
  · exact key
  · obtain ⟨⟩ := a
    have hlt := (List.getElem?_eq_some_iff.1 hb).1
    have hget : ∀ d, Option.getD y2[i]? d = b := fun d => by rw [hb]; rfl
    have hw := wrap64 hlt hn
    have hdec : ltI (i : Int) (y2.length : Int) = true := ltI_t (by omega)
    have hnn : leI (0 : Int) (i : Int) = true := leI_t (by omega)
    have hltd : ltN i y2.length = true := ltN_t hlt
    refine ⟨?_, ?_, ?_, ?_⟩
    · simp [k4o, k4t, k4m, k4r, k4p, k4q, k4g, ky, LT.nds, allT, k25, hdec, hnn, hltd, hget]
    · simp [k4o, k4t, k4m, k4r, k4p, k4q, k4g, ky, LT.each, k25, kb3, hw]
    · simp only [k4o, k4t, k4m, k4r, k4p, k4q, k4g, ky, LT.fn, k25, kb3, k3d, Int.toNat_natCast, hdec, hnn, hltd, hget, cond_true, Bool.cond_self]
    · exact fun _ _ => trivial
  · obtain ⟨⟩ := a
    simp [k4o, k4t, k4m, k4r, k4p, k4q, k4g, ky, LT.out, k25]

theorem k16s (n : Int) (l : List Int) (h : leN l.length 9223372036854775807 = true) : kwy n l = bitsB n l ∧ kxl l = true := by
  obtain ⟨w1, w2⟩ := k141 l (leN_iff.1 h)
  rw [walk_stop (P := fun v => !inR v 0 1) (j := 0) (fun v => by simp only [kir, k1u, inR_eq])] at w2
  have e5 : (l.any fun v => !inR v 0 1) = !l.all fun v => inR v 0 1 := by simp [List.all_eq_not_any_not]
  rw [e5] at w2
  simp only [kwy, kxl, w1, w2, allT, bitsB]
  cases (l.all fun v => inR v 0 1) <;> simp [Nat.beq]

theorem bit_in (v : Int) : (bif v != 0 then v != 1 else false) = !inR v 0 1 := by
  have : inR v 0 1 = (v == 0 || v == 1) := by rw [Bool.eq_iff_iff, kux]; simp; omega
  rw [this]
  cases h0 : v == 0 <;> simp [bne, h0]

theorem k16q (n : Int) (l : List Int) (h : leN l.length 9223372036854775807 = true) : kx9 n l = bitsB n l ∧ kxr n l = true := by
  obtain ⟨w1, w2⟩ := ko8 l (leN_iff.1 h)
  rw [walk_stop (P := fun v => !inR v 0 1) (j := 0) (fun v => by simp only [k3d, kjd, bit_in])] at w2
  have e5 : (l.any fun v => !inR v 0 1) = !l.all fun v => inR v 0 1 := by simp [List.all_eq_not_any_not]
  rw [e5] at w2
  have q : ∀ m : Nat, leI 0 (m : Int) = true := fun m => leI_t (by omega)
  have q2 : leI 0 (-1) = false := rfl
  simp only [kx9, kxr, kbd, kbp, kcq, kco, k8d, w1, w2, allT, bitsB, k25]
  cases (l.all fun v => inR v 0 1) <;> cases ((l.length : Int) == n) <;> simp [Nat.beq, q, q2]

theorem k15b (p q : Int) : ifLt p q p q = min p q := by rw [ifLt_eq]; cases h : ltI p q <;> simp <;> simp at h <;> omega
theorem k157 (p q : Int) : ifLt p q q p = max p q := by rw [ifLt_eq]; cases h : ltI p q <;> simp <;> simp at h <;> omega

theorem k12r {l : List Int} (h : bitsB 1 l = true) : ∃ x, l = [x] ∧ (x = 0 ∨ x = 1) := by
  obtain ⟨h1, h2⟩ := kel.1 h
  match l, h1, h2 with
  | [x], h1, _ => exact ⟨x, rfl, h1 x (by simp)⟩
  | [], _, h2 => simp at h2
  | _ :: _ :: _, _, h2 => simp at h2; omega

theorem k12z {l : List Int} (h : bitsB 2 l = true) : ∃ x y, l = [x, y] ∧ (x = 0 ∨ x = 1) ∧ (y = 0 ∨ y = 1) := by
  obtain ⟨h1, h2⟩ := kel.1 h
  match l, h1, h2 with
  | [x, y], h1, _ => exact ⟨x, y, rfl, h1 x (by simp), h1 y (by simp)⟩
  | [], _, h2 => simp at h2
  | [_], _, h2 => simp at h2
  | _ :: _ :: _ :: _, _, h2 => simp at h2; omega

/-- The program's step and the reference's. -/
theorem k171 {k n a b c : Int} {s : ByteArray} {l : List Int} (hB : blockB k s n = true) (hP : possB k n a b c = true) (hA : bitsB (takesK k) l = true) :
    kol k n a b c l = k51 k n a b c l ∧ kn7 k n a b c l = k7f k n a b c l ∧
    kn5 k b c l = k7m k b c l ∧ kn4 k n a b c l = k7d k n a c l ∧ kom l = true ∧ k9y l = true ∧
    possB k n (k7f k n a b c l) (k7m k b c l) (k7d k n a c l) = true := by
  obtain ⟨hk, hn, _⟩ := k14d hB
  have hw : IntKind.i64.wrap (n + 1) = n + 1 := wrap_i64 (by omega) (by omega)
  have hwa := (k14k hP hn).1
  have hwa1 : IntKind.i64.wrap (a + 1) = a + 1 := wrap_i64 (by omega) (by omega)
  have hwa2 : IntKind.i64.wrap (a - 1) = a - 1 := wrap_i64 (by omega) (by omega)
  have hm : IntKind.i64.wrap (min (a + 1) n) = min (a + 1) n := wrap_i64 (by omega) (by omega)
  have hm2 : IntKind.i64.wrap (min n (a + 1)) = min n (a + 1) := wrap_i64 (by omega) (by omega)
  have h01 : IntKind.i64.wrap (0 + 1) = 1 := rfl
  have n0 : IntKind.i64.wrap 0 = 0 := rfl
  have w1 : IntKind.i64.wrap 1 = 1 := rfl
  have l12 : ltI 1 2 = true := rfl
  have hb := (k14k hP hn).2.1
  have hc := (k14k hP hn).2.2
  rcases kinds hk with rfl | rfl | rfl | rfl | rfl | rfl
  · obtain ⟨x, rfl, hx⟩ := k12r hA
    have hp := hP
    simp [possB, k2u, k1u] at hp
    rcases hx with rfl | rfl <;> simp only [k59, kob, ko3, kjr, kc9, ko2, kny, kol, kn7, kn5, kn4, kom, kev, kex, kf2, kgd, kg9, kg7, kgg, k7j, kcw, kep, kgk, kg8, khc, khb, kha, kh8, kc7, k2k, k70, k91, k57, k8v, k94, k8u, k95, k7o, k51, k7f, k7m, k7d, k9y, k67, k71, k7s, k8z, k8x, kay, kb2, kb1, kb0, k7l, possB, k2u, k1u, allT, k15b, k157] <;> simp [hw, hwa1, hwa2, hm, hm2, h01, n0, w1, l12, hp, Bool.cond_eq_ite] <;> (repeat' split) <;> omega
  · obtain ⟨x, rfl, hx⟩ := k12r hA
    have hp := hP
    simp [possB, k2u, k1u] at hp
    rcases hx with rfl | rfl <;> simp only [k59, kob, ko3, kjr, kc9, ko2, kny, kol, kn7, kn5, kn4, kom, kev, kex, kf2, kgd, kg9, kg7, kgg, k7j, kcw, kep, kgk, kg8, khc, khb, kha, kh8, kc7, k2k, k70, k91, k57, k8v, k94, k8u, k95, k7o, k51, k7f, k7m, k7d, k9y, k67, k71, k7s, k8z, k8x, kay, kb2, kb1, kb0, k7l, possB, k2u, k1u, allT, k15b, k157] <;> simp [hw, hwa1, hwa2, hm, hm2, h01, n0, w1, l12, hp, Bool.cond_eq_ite] <;> (repeat' split) <;> omega
  · obtain ⟨x, rfl, hx⟩ := k12r hA
    have hp := hP
    simp [possB, k2u, k1u] at hp
    rcases hx with rfl | rfl <;> simp only [k59, kob, ko3, kjr, kc9, ko2, kny, kol, kn7, kn5, kn4, kom, kev, kex, kf2, kgd, kg9, kg7, kgg, k7j, kcw, kep, kgk, kg8, khc, khb, kha, kh8, kc7, k2k, k70, k91, k57, k8v, k94, k8u, k95, k7o, k51, k7f, k7m, k7d, k9y, k67, k71, k7s, k8z, k8x, kay, kb2, kb1, kb0, k7l, possB, k2u, k1u, allT, k15b, k157] <;> simp [hw, hwa1, hwa2, hm, hm2, h01, n0, w1, l12, hp, Bool.cond_eq_ite] <;> (repeat' split) <;> omega
  · obtain ⟨x, y, rfl, hx, hy⟩ := k12z hA
    have hp := hP
    simp [possB, k2u, k1u] at hp
    rcases hx with rfl | rfl <;> rcases hy with rfl | rfl <;> simp only [k59, kob, ko3, kjr, kc9, ko2, kny, kol, kn7, kn5, kn4, kom, kev, kex, kf2, kgd, kg9, kg7, kgg, k7j, kcw, kep, kgk, kg8, khc, khb, kha, kh8, kc7, k2k, k70, k91, k57, k8v, k94, k8u, k95, k7o, k51, k7f, k7m, k7d, k9y, k67, k71, k7s, k8z, k8x, kay, kb2, kb1, kb0, k7l, possB, k2u, k1u, allT, k15b, k157] <;> simp [hw, hwa1, hwa2, hm, hm2, h01, n0, w1, l12, hp, Bool.cond_eq_ite] <;> (repeat' split) <;> omega
  · obtain ⟨x, y, rfl, hx, hy⟩ := k12z hA
    have hp := hP
    rcases hb with rfl | rfl <;> rcases hc with rfl | rfl <;> rcases hx with rfl | rfl <;> rcases hy with rfl | rfl <;> simp [possB, k2u, k1u, hw] at hp <;> simp only [k59, kob, ko3, kjr, kc9, ko2, kny, kol, kn7, kn5, kn4, kom, kev, kex, kf2, kgd, kg9, kg7, kgg, k7j, kcw, kep, kgk, kg8, khc, khb, kha, kh8, kc7, k2k, k70, k91, k57, k8v, k94, k8u, k95, k7o, k51, k7f, k7m, k7d, k9y, k67, k71, k7s, k8z, k8x, kay, kb2, kb1, kb0, k7l, possB, k2u, k1u, allT, k15b, k157] <;> simp [hw, hwa1, hwa2, hm, hm2, h01, n0, w1, l12, hp, Bool.cond_eq_ite] <;> (repeat' split) <;> omega
  · obtain ⟨x, y, rfl, hx, hy⟩ := k12z hA
    have hp := hP
    rcases hb with rfl | rfl <;> rcases hc with rfl | rfl <;> rcases hx with rfl | rfl <;> rcases hy with rfl | rfl <;> simp [possB, k2u, k1u, hw] at hp <;> simp only [k59, kob, ko3, kjr, kc9, ko2, kny, kol, kn7, kn5, kn4, kom, kev, kex, kf2, kgd, kg9, kg7, kgg, k7j, kcw, kep, kgk, kg8, khc, khb, kha, kh8, kc7, k2k, k70, k91, k57, k8v, k94, k8u, k95, k7o, k51, k7f, k7m, k7d, k9y, k67, k71, k7s, k8z, k8x, kay, kb2, kb1, kb0, k7l, possB, k2u, k1u, allT, k15b, k157] <;> simp [hw, hwa1, hwa2, hm, hm2, h01, n0, w1, l12, hp, Bool.cond_eq_ite] <;> (repeat' split) <;> omega

def k11l : List SV → List Entry → Option Out
  | [.one ⟨false, [.ref 0]⟩, .one ⟨false, [.val (.int .i64 x0)]⟩], [.row false 2 (.int .i64) x1] => some ⟨(.one ⟨false, [(.val (.bool (bitsB x0 x1)))]⟩), [(.row false 2 (CTy.int IntKind.i64) x1)], [], [leN x1.length 9223372036854775807]⟩
  | _, _ => none

def kdc : PF Tryz.prog := PF.alt k15q k11l (by
  intro args es o h hnd; unfold k11l at h; split at h
  · rename_i x0 x1
    cases h
    have hnd := nd_fst hnd
    have hh := k16s x0 x1 hnd
    obtain ⟨e0, en⟩ := hh
    exact altok rfl (nd_one en) (by simp only [e0] <;> rfl) rfl rfl
  · cases h)

def k11f : List SV → List Entry → Option Out
  | [.one ⟨false, [.ref 0]⟩, .one ⟨false, [.val (.int .i64 x0)]⟩], [.row false 2 (.int .i64) x1] => some ⟨(.one ⟨false, [(.val (.bool (bitsB x0 x1)))]⟩), [(.row false 2 (CTy.int IntKind.i64) x1)], [], [leN x1.length 9223372036854775807]⟩
  | _, _ => none

def kdb : PF Tryz.prog := PF.alt k15l k11f (by
  intro args es o h hnd; unfold k11f at h; split at h
  · rename_i x0 x1
    cases h
    have hnd := nd_fst hnd
    have hh := k16q x0 x1 hnd
    obtain ⟨e0, en⟩ := hh
    exact altok rfl (nd_one en) (by simp only [e0] <;> rfl) rfl rfl
  · cases h)

end Go.SX

/- What functions of the program come to, and what that says in plain words: part 1. -/
import Derived.Test.YtbbfgoobcjlooaaGreatDoorTXh
import Derived.Test.YtbbfgoobcjlooaaGreatDoorProg
set_option linter.unusedSimpArgs false
set_option linter.unusedVariables false
namespace Go.SX
open Go.Proofs
set_option maxRecDepth 100000
theorem hmix : Tryz.prog.follows .mixedOrders = true := by kernel_rfl

def kuz (x0 : Int) (x1 : List Int) : Int :=
  IntKind.wrap IntKind.i64 (x0 - (↑(List.length x1) : Int))

def kvp (x0 : Int) (x1 : List Int) : Int :=
  bif ltI (kuz x0 x1) (0 : Int) then (-1 : Int) else kuz x0 x1

def kzz : List SV → List Entry → Option Out
  | [.one ⟨false, [.ref 0]⟩, .one ⟨false, [.val (.int .i64 x0)]⟩], [.row false 2 (.int .i64) x1] => some ⟨(.one ⟨false, [(.val (.int IntKind.i64 (kvp x0 x1)))]⟩), [(.row false 2 (CTy.int IntKind.i64) x1)], [], []⟩
  | _, _ => none

def k155 : PF Tryz.prog := PF.ofG Tryz.prog [] [] hmix 86 Tryz.f86 Tryz.func86 (fun c _ => LOk.nil c) kzz (by
  intro vs es r h; unfold kzz at h; split at h
  · cases h; kernel_rfl
  · cases h)

def k1u (x0 : Int) (x1 : Int) (x2 : Int) : Bool :=
  bif leI x1 x0 then leI x0 x2 else false

def k14a : List SV → List Entry → Option Out
  | [.one ⟨false, [.val (.int .i64 x0)]⟩, .one ⟨false, [.val (.int .i64 x1)]⟩, .one ⟨false, [.val (.int .i64 x2)]⟩], [] => some ⟨(.one ⟨false, [(.val (.bool (k1u x0 x1 x2)))]⟩), [], [], []⟩
  | _, _ => none

def ki7 : PF Tryz.prog := PF.ofG Tryz.prog [] [] hmix 153 Tryz.f153 Tryz.func153 (fun c _ => LOk.nil c) k14a (by
  intro vs es r h; unfold k14a at h; split at h
  · cases h; kernel_rfl
  · cases h)

def kz2 (x0 : List Int) : Bool :=
  allT [leN ((0 : Nat) + List.length x0) (9223372036854775807 : Nat), leN (((0 : Nat) + List.length x0) * (8 : Nat)) (140737488355328 : Nat)]

def k13a : List SV → List Entry → Option Out
  | [.one ⟨false, [.ref 0]⟩], [.row false 2 (.int .i64) x0] => some ⟨(.one ⟨false, [(.ref 1)]⟩), [(.row false 2 (CTy.int IntKind.i64) x0)], [(.row true 2 (CTy.int IntKind.i64) x0)], [(kz2 x0)]⟩
  | _, _ => none

def k160 : PF Tryz.prog := PF.ofG Tryz.prog [] [] hmix 173 Tryz.f173 Tryz.func173 (fun c _ => LOk.nil c) k13a (by
  intro vs es r h; unfold k13a at h; split at h
  · cases h; kernel_rfl
  · cases h)

abbrev kam := Int × List Int × List Int

def khi (y0 : Int) (y1 : List Int) : Bool :=
  ltI y0 (↑(List.length y1) : Int)

def khf (y0 : Int) : Bool :=
  leI (0 : Int) y0

def kk9 (y0 : Int) (y1 : List Int) : Bool :=
  ltN (Int.toNat y0) (List.length y1)

def kks (y0 : Int) (y2 : List Int) : Bool :=
  ltI y0 (↑(List.length y2) : Int)

def kky (y0 : Int) (y2 : List Int) : Bool :=
  ltN (Int.toNat y0) (List.length y2)

def kkp (y0 : Int) : Int :=
  IntKind.wrap IntKind.i64 (y0 + (1 : Int))

def kki (y0 : Int) (y1 : List Int) (y2 : List Int) : List Int :=
  List.set y2 (Int.toNat y0) (Option.getD y1[Int.toNat y0]? (0 : Int))

def k118 : kam → List (Nat × SV)
  | (y0, _, _) => [(4, (.one ⟨false, [(.val (.int IntKind.i64 y0))]⟩)), (0, (.one ⟨false, [(.ref 0)]⟩)), (3, (.one ⟨false, [(.ref 1)]⟩))]

def k11m : kam → List (Nat × Entry)
  | (_, y1, y2) => [(0, (.row false 2 (CTy.int IntKind.i64) y1)), (1, (.row true 2 (CTy.int IntKind.i64) y2))]

def k124 : Nat → kam → List (Nat × SV)
  | _, (_, _, _) => []

def k11n : Nat → kam → List (Nat × Entry)
  | _, (_, y1, y2) => [(0, (.row false 2 (CTy.int IntKind.i64) y1)), (1, (.row true 2 (CTy.int IntKind.i64) y2))]

def kjo : kam → LT kam
  | (y0, y1, y2) => .ite (khi y0 y1) (.need [(khf y0), (khi y0 y1), (kk9 y0 y1), (khf y0), (kks y0 y2), (kky y0 y2)] (.nrm ((kkp y0), y1, (kki y0 y1 y2)) [(0, 0), (1, 1)])) (.ext 0 [(0, 0), (1, 1)])

def kr1 (s : St) : Option kam :=
  (match s.look 4 with
  | some ⟨none, (.one ⟨false, [(.val (.int IntKind.i64 y0))]⟩)⟩ =>
  (match s.look 0 with
  | some ⟨none, (.one ⟨false, [(.ref 0)]⟩)⟩ =>
  (match s.look 3 with
  | some ⟨none, (.one ⟨false, [(.ref 320)]⟩)⟩ =>
  (match s.ent 0 with
  | some (.row false 2 (CTy.int IntKind.i64) y1) =>
  (match s.ent 320 with
  | some (.row true 2 (CTy.int IntKind.i64) y2) =>
  some (y0, y1, y2)
  | _ => none)
  | _ => none)
  | _ => none)
  | _ => none)
  | _ => none)

def k4u : Lp kam where
  h := ⟨[8, 9, 10, 11, 14, 15, 16, 17, 18, 19, 20, 12, 13, 4], [0, 1], [], []⟩
  JL := k118
  JE := k11m
  XL := k124
  XE := k11n
  q := fun j => match j with | _ => .exit 0
  tags := [0]
  lt := kjo
  fuel := fun (y0, y1, y2) => y0.natAbs + y1.length + y2.length
  fix := fun (_, y1, _) (y0, _, y2) => (y0, y1, y2)
  σ := [(0, 0), (1, 320)]
  rd := kr1

theorem kzg : LoopOk Tryz.prog (fun k => Nat.blt k Tryz.f29.ntmps) k4u.F (loopAt Tryz.f29 0) := by
  refine Lp.ok (tbl := []) (lf := []) hmix k4u (by kernel_rfl) (LOk.nil _) (fun _ => rfl) (fun _ _ => rfl) ?_ ?_ ?_ ?_ (fun _ => rfl) ?_
  · intro x; obtain ⟨y0, y1, y2⟩ := x; kernel_rfl
  · intro x; obtain ⟨y0, y1, y2⟩ := x; kernel_rfl
  · intro s x h
    have h : kr1 s = some x := h
    unfold kr1 at h
    repeat' split at h
    all_goals cases h
    exact ⟨absS_cons (by assumption) rfl (absS_cons (by assumption) rfl (absS_cons (by assumption) rfl (rfl))), absE_cons rfl (by assumption) rfl (absE_cons rfl (by assumption) rfl (rfl))⟩
  · intro x; obtain ⟨y0, y1, y2⟩ := x; kernel_rfl
  · intro x z; obtain ⟨y0, y1, y2⟩ := x; exact (And.intro rfl trivial)

def kqt (x0 : List Int) : Int × List Int × List Int :=
  ((0 : Int), x0, List.replicate (Int.toNat (↑(List.length x0) : Int)) (0 : Int))

def ksn (x0 : List Int) : List Int :=
  Prod.snd (Prod.snd (Prod.snd (Lp.res k4u (kqt x0))))

def kss (x0 : List Int) : Bool :=
  allT
  [leI (0 : Int) (↑(List.length x0) : Int), leI (↑(List.length x0) : Int) (↑(List.length x0) : Int),
    leI ((↑(8 : Nat) : Int) * (↑(List.length x0) : Int)) (281474976710656 : Int), leI (↑(List.length x0) : Int) (9223372036854775807 : Int),
    Lp.fin k4u (kqt x0)]

def k102 : List SV → List Entry → Option Out
  | [.one ⟨false, [.ref 0]⟩], [.row false 2 (.int .i64) x0] => some ⟨(.one ⟨false, [(.ref 1)]⟩), [(.row false 2 (CTy.int IntKind.i64) x0)], [(.row true 2 (CTy.int IntKind.i64) (ksn x0))], [(kss x0)]⟩
  | _, _ => none

def k156 : PF Tryz.prog := PF.ofG Tryz.prog [] [k4u.F] hmix 29 Tryz.f29 Tryz.func29 (LOk.fnT (l := [loopAt Tryz.f29 0]) (by kernel_rfl) (.cons kzg (.nil _))) k102 (by
  intro vs es r h; unfold k102 at h; split at h
  · cases h; kernel_rfl
  · cases h)

def k3s (x0 : Int) (x1 : Int) (x2 : Int) : Bool :=
  bif leI x1 x0 then leI x0 x2 else false

def k13j : List SV → List Entry → Option Out
  | [.one ⟨false, [.val (.int .i64 x0)]⟩, .one ⟨false, [.val (.int .i64 x1)]⟩, .one ⟨false, [.val (.int .i64 x2)]⟩], [] => some ⟨(.one ⟨false, [(.val (.bool (k3s x0 x1 x2)))]⟩), [], [], []⟩
  | _, _ => none

def ksx : PF Tryz.prog := PF.ofG Tryz.prog [] [] hmix 158 Tryz.f158 Tryz.func158 (fun c _ => LOk.nil c) k13j (by
  intro vs es r h; unfold k13j at h; split at h
  · cases h; kernel_rfl
  · cases h)

def kg2 (x0 : List Int) : Bool :=
  allT
  [ltN (0 : Nat) (List.length x0), false || leN ((0 : Nat) + List.length x0) (9223372036854775807 : Nat),
    false || leN (((0 : Nat) + List.length x0) * (8 : Nat)) (140737488355328 : Nat)]

def kpf : List SV → List Entry → Option Out
  | [.one ⟨false, [.ref 0]⟩], [.row false 2 (.int .i64) x0] => some ⟨(.one ⟨false, [(.ref 1)]⟩), [(.row false 2 (CTy.int IntKind.i64) x0)], [(.row true 2 (CTy.int IntKind.i64) x0)], [(kg2 x0)]⟩
  | _, _ => none

def kvz : PF Tryz.prog := PF.ofG Tryz.prog [] [] hmix 194 Tryz.f194 Tryz.func194 (fun c _ => LOk.nil c) kpf (by
  intro vs es r h; unfold kpf at h; split at h
  · cases h; kernel_rfl
  · cases h)

abbrev kae := Int × List Int × List Int

def khl (y0 : Int) (y1 : List Int) : Bool :=
  ltI y0 (↑(List.length y1) : Int)

def khh (y0 : Int) : Bool :=
  leI (0 : Int) y0

def kkj (y0 : Int) (y1 : List Int) : Bool :=
  ltN (Int.toNat y0) (List.length y1)

def kkz (y0 : Int) (y2 : List Int) : Bool :=
  ltI y0 (↑(List.length y2) : Int)

def kl2 (y0 : Int) (y2 : List Int) : Bool :=
  ltN (Int.toNat y0) (List.length y2)

def kkt (y0 : Int) (y1 : List Int) (y2 : List Int) : Bool :=
  Option.getD y1[Int.toNat y0]? (0 : Int) != Option.getD y2[Int.toNat y0]? (0 : Int)

def kkv (y0 : Int) : Int :=
  IntKind.wrap IntKind.i64 (y0 + (1 : Int))

def k11v : kae → List (Nat × SV)
  | (y0, _, _) => [(5, (.one ⟨false, [(.val (.int IntKind.i64 y0))]⟩)), (0, (.one ⟨false, [(.ref 0)]⟩)), (1, (.one ⟨false, [(.ref 1)]⟩))]

def k11d : kae → List (Nat × Entry)
  | (_, y1, y2) => [(0, (.row false 2 (CTy.int IntKind.i64) y1)), (1, (.row false 2 (CTy.int IntKind.i64) y2))]

def k11a : Nat → kae → List (Nat × SV)
  | 0, (_, _, _) => [(4, (.one ⟨false, [(.val (.bool false))]⟩))]
  | _, (_, _, _) => []

def k121 : Nat → kae → List (Nat × Entry)
  | 0, (_, y1, y2) => [(0, (.row false 2 (CTy.int IntKind.i64) y1)), (1, (.row false 2 (CTy.int IntKind.i64) y2))]
  | _, (_, y1, y2) => [(0, (.row false 2 (CTy.int IntKind.i64) y1)), (1, (.row false 2 (CTy.int IntKind.i64) y2))]

def kja : kae → LT kae
  | (y0, y1, y2) => .ite (khl y0 y1) (.need [(khh y0), (khl y0 y1), (kkj y0 y1), (khh y0), (kkz y0 y2), (kl2 y0 y2)] (.ite (kkt y0 y1 y2) (.ext 0 [(0, 0), (1, 1)]) (.nrm ((kkv y0), y1, y2) [(0, 0), (1, 1)]))) (.ext 1 [(0, 0), (1, 1)])

def kqn (s : St) : Option kae :=
  (match s.look 5 with
  | some ⟨none, (.one ⟨false, [(.val (.int IntKind.i64 y0))]⟩)⟩ =>
  (match s.look 0 with
  | some ⟨none, (.one ⟨false, [(.ref 0)]⟩)⟩ =>
  (match s.look 1 with
  | some ⟨none, (.one ⟨false, [(.ref 1)]⟩)⟩ =>
  (match s.ent 0 with
  | some (.row false 2 (CTy.int IntKind.i64) y1) =>
  (match s.ent 1 with
  | some (.row false 2 (CTy.int IntKind.i64) y2) =>
  some (y0, y1, y2)
  | _ => none)
  | _ => none)
  | _ => none)
  | _ => none)
  | _ => none)

def k4a : Lp kae where
  h := ⟨[11, 12, 13, 14, 17, 18, 19, 20, 21, 22, 23, 24, 25, 4, 15, 16, 5], [0, 1], [], []⟩
  JL := k11v
  JE := k11d
  XL := k11a
  XE := k121
  q := fun j => match j with | 0 => .ret | _ => .exit 0
  tags := [0, 1]
  lt := kja
  fuel := fun (y0, y1, y2) => y0.natAbs + y1.length + y2.length
  fix := fun (_, y1, y2) (y0, _, _) => (y0, y1, y2)
  σ := [(0, 0), (1, 1)]
  rd := kqn

theorem kzq : LoopOk Tryz.prog (fun k => Nat.blt k Tryz.f31.ntmps) k4a.F (loopAt Tryz.f31 0) := by
  refine Lp.ok (tbl := []) (lf := []) hmix k4a (by kernel_rfl) (LOk.nil _) (fun _ => rfl) (fun j _ => by unfold k4a; match j with | 0 => rfl | _ + 1 => rfl) ?_ ?_ ?_ ?_ (fun _ => rfl) ?_
  · intro x; obtain ⟨y0, y1, y2⟩ := x; kernel_rfl
  · intro x; obtain ⟨y0, y1, y2⟩ := x; kernel_rfl
  · intro s x h
    have h : kqn s = some x := h
    unfold kqn at h
    repeat' split at h
    all_goals cases h
    exact ⟨absS_cons (by assumption) rfl (absS_cons (by assumption) rfl (absS_cons (by assumption) rfl (rfl))), absE_cons rfl (by assumption) rfl (absE_cons rfl (by assumption) rfl (rfl))⟩
  · intro x; obtain ⟨y0, y1, y2⟩ := x; kernel_rfl
  · intro x z; obtain ⟨y0, y1, y2⟩ := x; exact (And.intro (And.intro trivial rfl) trivial)

def kr2 (x0 : List Int) (x1 : List Int) : Bool :=
  (↑(List.length x0) : Int) != (↑(List.length x1) : Int)

def kqr (x0 : List Int) (x1 : List Int) : Int × List Int × List Int :=
  ((0 : Int), x0, x1)

def ksh (x0 : List Int) (x1 : List Int) : Bool :=
  bif kr2 x0 x1 then false else bif Nat.beq (Prod.fst (Lp.res k4a (kqr x0 x1))) (0 : Nat) then false else true

def ksi (x0 : List Int) (x1 : List Int) : Bool :=
  allT [kr2 x0 x1 || Lp.fin k4a (kqr x0 x1)]

def k108 : List SV → List Entry → Option Out
  | [.one ⟨false, [.ref 0]⟩, .one ⟨false, [.ref 1]⟩], [.row false 2 (.int .i64) x0, .row false 2 (.int .i64) x1] => some ⟨(.one ⟨false, [(.val (.bool (ksh x0 x1)))]⟩), [(.row false 2 (CTy.int IntKind.i64) x0), (.row false 2 (CTy.int IntKind.i64) x1)], [], [(ksi x0 x1)]⟩
  | _, _ => none

def k154 : PF Tryz.prog := PF.ofG Tryz.prog [] [k4a.F] hmix 31 Tryz.f31 Tryz.func31 (LOk.fnT (l := [loopAt Tryz.f31 0]) (by kernel_rfl) (.cons kzq (.nil _))) k108 (by
  intro vs es r h; unfold k108 at h; split at h
  · cases h; kernel_rfl
  · cases h)

abbrev k7t := Int × Int × List Int

def kfl (y0 : Int) (y2 : List Int) : Bool :=
  ltI y0 (↑(List.length y2) : Int)

def kic (y0 : Int) : Bool :=
  leI (0 : Int) y0

def khp (y0 : Int) (y2 : List Int) : Bool :=
  ltN (Int.toNat y0) (List.length y2)

def khz (y0 : Int) : Int :=
  IntKind.wrap IntKind.i64 (y0 + (1 : Int))

def ki6 (y1 : Int) : Int :=
  IntKind.wrap IntKind.i64 (y1 + (1 : Int))

def khx (y0 : Int) (y1 : Int) (y2 : List Int) : List Int :=
  List.set y2 (Int.toNat y0) y1

def kzs : k7t → List (Nat × SV)
  | (y0, y1, _) => [(5, (.one ⟨false, [(.val (.int IntKind.i64 y0))]⟩)), (0, (.one ⟨false, [(.ref 0)]⟩)), (1, (.one ⟨false, [(.val (.int IntKind.i64 y1))]⟩))]

def kz8 : k7t → List (Nat × Entry)
  | (_, _, y2) => [(0, (.row true 2 (CTy.int IntKind.i64) y2))]

def kzd : Nat → k7t → List (Nat × SV)
  | _, (_, y1, _) => [(1, (.one ⟨false, [(.val (.int IntKind.i64 y1))]⟩))]

def kzb : Nat → k7t → List (Nat × Entry)
  | _, (_, _, y2) => [(0, (.row true 2 (CTy.int IntKind.i64) y2))]

def kh4 : k7t → LT k7t
  | (y0, y1, y2) => .ite (kfl y0 y2) (.need [(kic y0), (kfl y0 y2), (khp y0 y2)] (.nrm ((khz y0), (ki6 y1), (khx y0 y1 y2)) [(0, 0)])) (.ext 0 [(0, 0)])

def kpa (s : St) : Option k7t :=
  (match s.look 5 with
  | some ⟨none, (.one ⟨false, [(.val (.int IntKind.i64 y0))]⟩)⟩ =>
  (match s.look 0 with
  | some ⟨none, (.one ⟨false, [(.ref 0)]⟩)⟩ =>
  (match s.look 1 with
  | some ⟨none, (.one ⟨false, [(.val (.int IntKind.i64 y1))]⟩)⟩ =>
  (match s.ent 0 with
  | some (.row true 2 (CTy.int IntKind.i64) y2) =>
  some (y0, y1, y2)
  | _ => none)
  | _ => none)
  | _ => none)
  | _ => none)

def k3i : Lp k7t where
  h := ⟨[6, 7, 8, 9, 12, 13, 14, 15, 16, 17, 1, 10, 11, 5], [0], [], []⟩
  JL := kzs
  JE := kz8
  XL := kzd
  XE := kzb
  q := fun j => match j with | _ => .exit 0
  tags := [0]
  lt := kh4
  fuel := fun (y0, y1, y2) => y0.natAbs + y1.natAbs + y2.length
  fix := fun (_, _, _) (y0, y1, y2) => (y0, y1, y2)
  σ := [(0, 0)]
  rd := kpa

theorem kya : LoopOk Tryz.prog (fun k => Nat.blt k Tryz.f34.ntmps) k3i.F (loopAt Tryz.f34 0) := by
  refine Lp.ok (tbl := []) (lf := []) hmix k3i (by kernel_rfl) (LOk.nil _) (fun _ => rfl) (fun _ _ => rfl) ?_ ?_ ?_ ?_ (fun _ => rfl) ?_
  · intro x; obtain ⟨y0, y1, y2⟩ := x; kernel_rfl
  · intro x; obtain ⟨y0, y1, y2⟩ := x; kernel_rfl
  · intro s x h
    have h : kpa s = some x := h
    unfold kpa at h
    repeat' split at h
    all_goals cases h
    exact ⟨absS_cons (by assumption) rfl (absS_cons (by assumption) rfl (absS_cons (by assumption) rfl (rfl))), absE_cons rfl (by assumption) rfl (rfl)⟩
  · intro x; obtain ⟨y0, y1, y2⟩ := x; kernel_rfl
  · intro x z; obtain ⟨y0, y1, y2⟩ := x; exact (And.intro rfl trivial)

def kk5 (x0 : Int) (x1 : List Int) : Int × Int × List Int :=
  ((0 : Int), x0, x1)

def kkf (x0 : Int) (x1 : List Int) : Int × List Int :=
  Prod.snd (Prod.snd (Lp.res k3i (kk5 x0 x1)))

def kma (x0 : Int) (x1 : List Int) : Int :=
  Prod.fst (kkf x0 x1)

def km9 (x0 : Int) (x1 : List Int) : List Int :=
  Prod.snd (kkf x0 x1)

def km8 (x0 : Int) (x1 : List Int) : Bool :=
  allT [Lp.fin k3i (kk5 x0 x1)]

def kxw : List SV → List Entry → Option Out
  | [.one ⟨false, [.ref 0]⟩, .one ⟨false, [.val (.int .i64 x0)]⟩], [.row true 2 (.int .i64) x1] => some ⟨(.one ⟨false, [(.val (.int IntKind.i64 (kma x0 x1)))]⟩), [(.row true 2 (CTy.int IntKind.i64) (km9 x0 x1))], [], [(km8 x0 x1)]⟩
  | _, _ => none

def k140 : PF Tryz.prog := PF.ofG Tryz.prog [] [k3i.F] hmix 34 Tryz.f34 Tryz.func34 (LOk.fnT (l := [loopAt Tryz.f34 0]) (by kernel_rfl) (.cons kya (.nil _))) kxw (by
  intro vs es r h; unfold kxw at h; split at h
  · cases h; kernel_rfl
  · cases h)

abbrev k7z := Int × Int × List Int

def kg1 (y0 : Int) (y2 : List Int) : Bool :=
  ltI y0 (↑(List.length y2) : Int)

def kig (y0 : Int) : Bool :=
  leI (0 : Int) y0

def kie (y0 : Int) (y2 : List Int) : Bool :=
  ltN (Int.toNat y0) (List.length y2)

def ki2 (y0 : Int) (y1 : Int) (y2 : List Int) : Bool :=
  Option.getD y2[Int.toNat y0]? (0 : Int) != y1

def kfu  : Int :=
  (-1 : Int)

def khs (y0 : Int) : Int :=
  IntKind.wrap IntKind.i64 (y0 + (1 : Int))

def khq (y1 : Int) : Int :=
  IntKind.wrap IntKind.i64 (y1 + (1 : Int))

def kzj : k7z → List (Nat × SV)
  | (y0, y1, _) => [(5, (.one ⟨false, [(.val (.int IntKind.i64 y0))]⟩)), (0, (.one ⟨false, [(.ref 0)]⟩)), (1, (.one ⟨false, [(.val (.int IntKind.i64 y1))]⟩))]

def kzl : k7z → List (Nat × Entry)
  | (_, _, y2) => [(0, (.row false 2 (CTy.int IntKind.i64) y2))]

def kza : Nat → k7z → List (Nat × SV)
  | 0, (_, _, _) => [(4, (.one ⟨false, [(.val (.int IntKind.i64 (kfu)))]⟩))]
  | _, (_, y1, _) => [(1, (.one ⟨false, [(.val (.int IntKind.i64 y1))]⟩))]

def kz9 : Nat → k7z → List (Nat × Entry)
  | 0, (_, _, y2) => [(0, (.row false 2 (CTy.int IntKind.i64) y2))]
  | _, (_, _, y2) => [(0, (.row false 2 (CTy.int IntKind.i64) y2))]

def kh2 : k7z → LT k7z
  | (y0, y1, y2) => .ite (kg1 y0 y2) (.need [(kig y0), (kg1 y0 y2), (kie y0 y2)] (.ite (ki2 y0 y1 y2) (.ext 0 [(0, 0)]) (.nrm ((khs y0), (khq y1), y2) [(0, 0)]))) (.ext 1 [(0, 0)])

def kox (s : St) : Option k7z :=
  (match s.look 5 with
  | some ⟨none, (.one ⟨false, [(.val (.int IntKind.i64 y0))]⟩)⟩ =>
  (match s.look 0 with
  | some ⟨none, (.one ⟨false, [(.ref 0)]⟩)⟩ =>
  (match s.look 1 with
  | some ⟨none, (.one ⟨false, [(.val (.int IntKind.i64 y1))]⟩)⟩ =>
  (match s.ent 0 with
  | some (.row false 2 (CTy.int IntKind.i64) y2) =>
  some (y0, y1, y2)
  | _ => none)
  | _ => none)
  | _ => none)
  | _ => none)

def k30 : Lp k7z where
  h := ⟨[6, 7, 8, 9, 12, 13, 14, 15, 16, 17, 4, 18, 19, 1, 10, 11, 5], [0], [], []⟩
  JL := kzj
  JE := kzl
  XL := kza
  XE := kz9
  q := fun j => match j with | 0 => .ret | _ => .exit 0
  tags := [0, 1]
  lt := kh2
  fuel := fun (y0, y1, y2) => y0.natAbs + y1.natAbs + y2.length
  fix := fun (_, _, y2) (y0, y1, _) => (y0, y1, y2)
  σ := [(0, 0)]
  rd := kox

theorem ky7 : LoopOk Tryz.prog (fun k => Nat.blt k Tryz.f35.ntmps) k30.F (loopAt Tryz.f35 0) := by
  refine Lp.ok (tbl := []) (lf := []) hmix k30 (by kernel_rfl) (LOk.nil _) (fun _ => rfl) (fun j _ => by unfold k30; match j with | 0 => rfl | _ + 1 => rfl) ?_ ?_ ?_ ?_ (fun _ => rfl) ?_
  · intro x; obtain ⟨y0, y1, y2⟩ := x; kernel_rfl
  · intro x; obtain ⟨y0, y1, y2⟩ := x; kernel_rfl
  · intro s x h
    have h : kox s = some x := h
    unfold kox at h
    repeat' split at h
    all_goals cases h
    exact ⟨absS_cons (by assumption) rfl (absS_cons (by assumption) rfl (absS_cons (by assumption) rfl (rfl))), absE_cons rfl (by assumption) rfl (rfl)⟩
  · intro x; obtain ⟨y0, y1, y2⟩ := x; kernel_rfl
  · intro x z; obtain ⟨y0, y1, y2⟩ := x; exact (And.intro (And.intro trivial rfl) trivial)

def kke (x0 : Int) (x1 : List Int) : Int × Int × List Int :=
  ((0 : Int), x0, x1)

def kmo (x0 : Int) (x1 : List Int) : Int :=
  bif Nat.beq (Prod.fst (Lp.res k30 (kke x0 x1))) (0 : Nat) then kfu
  else Prod.fst (Prod.snd (Prod.snd (Lp.res k30 (kke x0 x1))))

def kpl (x0 : Int) (x1 : List Int) : Bool :=
  allT [Lp.fin k30 (kke x0 x1)]

def ky4 : List SV → List Entry → Option Out
  | [.one ⟨false, [.ref 0]⟩, .one ⟨false, [.val (.int .i64 x0)]⟩], [.row false 2 (.int .i64) x1] => some ⟨(.one ⟨false, [(.val (.int IntKind.i64 (kmo x0 x1)))]⟩), [(.row false 2 (CTy.int IntKind.i64) x1)], [], [(kpl x0 x1)]⟩
  | _, _ => none

def k141 : PF Tryz.prog := PF.ofG Tryz.prog [] [k30.F] hmix 35 Tryz.f35 Tryz.func35 (LOk.fnT (l := [loopAt Tryz.f35 0]) (by kernel_rfl) (.cons ky7 (.nil _))) ky4 (by
  intro vs es r h; unfold ky4 at h; split at h
  · cases h; kernel_rfl
  · cases h)

end Go.SX

namespace Go.SX
open Go.Proofs
set_option maxRecDepth 100000

def blk (p : Int) : Int := Int.tdiv p 3
def inR (a lo hi : Int) : Bool := leI lo a && leI a hi
def eqL (xs ys : List Int) : Bool := decide (xs = ys)

theorem k16f (xs : List Int) : eqL xs xs = true := by simp [eqL]

theorem kul {a lo hi : Int} : inR a lo hi = true ↔ lo ≤ a ∧ a ≤ hi := by simp [inR]

theorem inR_eq (a lo hi : Int) : (bif leI lo a then leI a hi else false) = inR a lo hi := by
  unfold inR; cases leI lo a <;> rfl

def kfm (y1 : List Int) (b : Nat) : (List Int) → Nat ⊕ (List Int)
  | y2 => (.inr ((List.set y2 (b) (Option.getD y1[b]? (0 : Int)))))

def kci (y1 : List Int) (i : Nat) : (List Int) → kam
  | y2 => ((i : Int), y1, y2)

def kql : kam → List Int
  | (_, _, y2) => y2

theorem k130 (y1 : List Int) (y2 : List Int) (hn : y1.length ≤ 9223372036854775807) (hl : y2.length = y1.length) :
    k4u.fin ((0 : Int), y1, y2) = true ∧ k4u.res ((0 : Int), y1, y2) = ((walkL (kfm y1) 0 (List.range y1.length) 0 y2).1, (kci y1) (walkL (kfm y1) 0 (List.range y1.length) 0 y2).2.1 (walkL (kfm y1) 0 (List.range y1.length) 0 y2).2.2) := by
  have key := k4u.along (kci y1) kql (kfm y1) 0 (fun _ a => a.length = y1.length) (List.range y1.length) y2 hl (by simp only [k4u, kci, List.length_range]; omega) (fun i b a hb hI => ?_) (fun a hI => ?_)
  · exact key
  · obtain y2 := a
    obtain ⟨rfl, hlt⟩ := range_get hb
    have hw : IntKind.i64.wrap ((b : Int) + 1) = ((b + 1 : Nat) : Int) := by rw [wrap_i64 (by omega) (by omega)]; omega
    have hdec : ltI (b : Int) (y1.length : Int) = true := ltI_t (by omega)
    have hnn : leI (0 : Int) (b : Int) = true := leI_t (by omega)
    have hltd : ltN b y1.length = true := ltN_t (by omega)
    refine ⟨?_, ?_, ?_, ?_⟩
    · simp [khi, khf, kk9, kks, kky, kkp, kki, kjo, k4u, LT.nds, allT, kci, hdec, hnn, hltd, hI]
    · simp [khi, khf, kk9, kks, kky, kkp, kki, kjo, k4u, LT.each, kci, kql, hw, hI]
    · simp only [khi, khf, kk9, kks, kky, kkp, kki, kjo, k4u, LT.fn, kci, kql, kfm, Int.toNat_natCast, hdec, cond_true]
    · intro a' hf; simp only [kfm, Sum.inr.injEq] at hf; subst hf; simpa using hI
  · obtain y2 := a
    simp [khi, khf, kk9, kks, kky, kkp, kki, kjo, k4u, LT.out, kci, List.length_range]

def kkq (y1 : List Int) (y2 : List Int) (b : Nat) : (Unit) → Nat ⊕ (Unit)
  | _ => (bif ((Option.getD y1[b]? (0 : Int) != Option.getD y2[b]? (0 : Int))) then (.inl 0) else (.inr ()))

def keb (y1 : List Int) (y2 : List Int) (i : Nat) : (Unit) → kae
  | _ => ((i : Int), y1, y2)

def kqx : kae → Unit
  | (_, _, _) => ()

theorem k12y (y1 : List Int) (y2 : List Int)  (hn : y1.length ≤ 9223372036854775807) (he : y2.length = y1.length) :
    k4a.fin ((0 : Int), y1, y2) = true ∧ k4a.res ((0 : Int), y1, y2) = ((walkL (kkq y1 y2) 1 (List.range y1.length) 0 ()).1, (keb y1 y2) (walkL (kkq y1 y2) 1 (List.range y1.length) 0 ()).2.1 (walkL (kkq y1 y2) 1 (List.range y1.length) 0 ()).2.2) := by
  have key := k4a.along (keb y1 y2) kqx (kkq y1 y2) 1 (fun _ _ => True) (List.range y1.length) () (by trivial) (by simp only [k4a, keb, List.length_range]; omega) (fun i b a hb hI => ?_) (fun a hI => ?_)
  · exact key
  · obtain ⟨⟩ := a
    obtain ⟨rfl, hlt⟩ := range_get hb
    have hw : IntKind.i64.wrap ((b : Int) + 1) = ((b + 1 : Nat) : Int) := by rw [wrap_i64 (by omega) (by omega)]; omega
    have hdec : ltI (b : Int) (y1.length : Int) = true := ltI_t (by omega)
    have hnn : leI (0 : Int) (b : Int) = true := leI_t (by omega)
    have hltd : ltN b y1.length = true := ltN_t (by omega)
    refine ⟨?_, ?_, ?_, ?_⟩
    · simp [khl, khh, kkj, kkz, kl2, kkt, kkv, kja, k4a, LT.nds, allT, keb, hdec, hnn, hltd, he]
    · simp [khl, khh, kkj, kkz, kl2, kkt, kkv, kja, k4a, LT.each, keb, kqx, hw, he]
    · simp only [khl, khh, kkj, kkz, kl2, kkt, kkv, kja, k4a, LT.fn, keb, kqx, kkq, Int.toNat_natCast, hdec, cond_true]
    · exact fun _ _ => trivial
  · obtain ⟨⟩ := a
    simp [khl, khh, kkj, kkz, kl2, kkt, kkv, kja, k4a, LT.out, keb, List.length_range]

def kdd  (b : Nat) : (Int × List Int) → Nat ⊕ (Int × List Int)
  | (y1, y2) => (.inr (((IntKind.wrap IntKind.i64 (y1 + (1 : Int)))), ((List.set y2 (b) y1))))

def k8d  (i : Nat) : (Int × List Int) → k7t
  | (y1, y2) => ((i : Int), y1, y2)

def kow : k7t → Int × List Int
  | (_, y1, y2) => (y1, y2)

theorem k10n  (y1 : Int) (y2 : List Int) (n : Nat) (hl : y2.length = n) (hn : n ≤ 9223372036854775807)  :
    k3i.fin ((0 : Int), y1, y2) = true ∧ k3i.res ((0 : Int), y1, y2) = ((walkL (kdd) 0 (List.range n) 0 (y1, y2)).1, (k8d) (walkL (kdd) 0 (List.range n) 0 (y1, y2)).2.1 (walkL (kdd) 0 (List.range n) 0 (y1, y2)).2.2) := by
  have key := k3i.along (k8d) kow (kdd) 0 (fun _ a => a.2.length = n) (List.range n) (y1, y2) hl (by simp only [k3i, k8d, List.length_range]; omega) (fun i b a hb hI => ?_) (fun a hI => ?_)
  · exact key
  · obtain ⟨y1, y2⟩ := a
    obtain ⟨rfl, hlt⟩ := range_get hb
    have hI0 : y2.length = n := hI
    have hw : IntKind.i64.wrap ((b : Int) + 1) = ((b + 1 : Nat) : Int) := by rw [wrap_i64 (by omega) (by omega)]; omega
    have hdec : ltI (b : Int) (y2.length : Int) = true := ltI_t (by omega)
    have hnn : leI (0 : Int) (b : Int) = true := leI_t (by omega)
    have hltd : ltN b y2.length = true := ltN_t (by omega)
    refine ⟨?_, ?_, ?_, ?_⟩
    · simp [kfl, kic, khp, khz, ki6, khx, kh4, k3i, LT.nds, allT, k8d, hdec, hnn, hltd]
    · simp [kfl, kic, khp, khz, ki6, khx, kh4, k3i, LT.each, k8d, kow, hw]
    · simp only [kfl, kic, khp, khz, ki6, khx, kh4, k3i, LT.fn, k8d, kow, kdd, Int.toNat_natCast, hdec, hnn, hltd, cond_true, Bool.cond_self]
    · intro a' hf; simp only [kdd, Sum.inr.injEq] at hf; subst hf; simp [hI0]
  · obtain ⟨y1, y2⟩ := a
    have hI0 : y2.length = n := hI
    simp [kfl, kic, khp, khz, ki6, khx, kh4, k3i, LT.out, k8d, hI0, List.length_range]

def kfy  (b : Int) : (Int) → Nat ⊕ (Int)
  | y1 => (bif ((b != y1)) then (.inl 0) else (.inr ((IntKind.wrap IntKind.i64 (y1 + (1 : Int))))))

def kav (y2 : List Int) (i : Nat) : (Int) → k7z
  | y1 => ((i : Int), y1, y2)

def kp7 : k7z → Int
  | (_, y1, _) => y1

theorem kv0 (y2 : List Int) (y1 : Int) (hn : y2.length ≤ 9223372036854775807)  :
    k30.fin ((0 : Int), y1, y2) = true ∧ k30.res ((0 : Int), y1, y2) = ((walkL (kfy) 1 y2 0 y1).1, (kav y2) (walkL (kfy) 1 y2 0 y1).2.1 (walkL (kfy) 1 y2 0 y1).2.2) := by
  have key := k30.along (kav y2) kp7 (kfy) 1 (fun _ _ => True) y2 y1 (by trivial) (by simp only [k30, kav]; omega) (fun i b a hb hI => ?_) (fun a hI => ?_)
  · exact key
  · obtain y1 := a
    have hlt := (List.getElem?_eq_some_iff.1 hb).1
    have hget : ∀ d, Option.getD y2[i]? d = b := fun d => by rw [hb]; rfl
    have hw := wrap64 hlt hn
    have hdec : ltI (i : Int) (y2.length : Int) = true := ltI_t (by omega)
    have hnn : leI (0 : Int) (i : Int) = true := leI_t (by omega)
    have hltd : ltN i y2.length = true := ltN_t hlt
    refine ⟨?_, ?_, ?_, ?_⟩
    · simp [kg1, kig, kie, ki2, kfu, khs, khq, kh2, k30, LT.nds, allT, kav, hdec, hnn, hltd, hget]
    · simp [kg1, kig, kie, ki2, kfu, khs, khq, kh2, k30, LT.each, kav, kp7, hw]
    · simp only [kg1, kig, kie, ki2, kfu, khs, khq, kh2, k30, LT.fn, kav, kp7, kfy, Int.toNat_natCast, hdec, hnn, hltd, hget, cond_true, Bool.cond_self]
    · exact fun _ _ => trivial
  · obtain y1 := a
    simp [kg1, kig, kie, ki2, kfu, khs, khq, kh2, k30, LT.out, kav]

theorem k17m (xs : List Int) (hn : leN xs.length 1048576 = true) : ksn xs = xs ∧ kss xs = true := by
  have hn := leN_iff.1 hn
  have hr : (List.replicate (Int.toNat (xs.length : Int)) (0 : Int)).length = xs.length := by simp
  obtain ⟨w1, w2⟩ := k130 xs (List.replicate (Int.toNat (xs.length : Int)) (0 : Int)) (by omega) hr
  have hc := walk_copy (xs := xs) (d := (0 : Int)) (g := fun x => x) (f := kfm xs) (e := 0) (fun b a => rfl) hr
  rw [hc] at w2
  refine ⟨?_, ?_⟩
  · simp only [kqt, ksn, kss, w2, kci]; simp
  · simp only [kqt, ksn, kss, w1, allT]; simp; omega

def k104 : List SV → List Entry → Option Out
  | [.one ⟨false, [.ref 0]⟩], [.row false 2 (.int .i64) x0] => some ⟨(.one ⟨false, [(.ref 1)]⟩), [(.row false 2 (CTy.int IntKind.i64) x0)], [(.row true 2 (CTy.int IntKind.i64) (x0))], [leN x0.length 1048576]⟩
  | _, _ => none

def kg3 : PF Tryz.prog := PF.alt k156 k104 (by
  intro args es o h hnd; unfold k104 at h; split at h
  · rename_i x0
    cases h
    have hnd := nd_fst hnd
    have hh := k17m x0 hnd
    obtain ⟨e0, en⟩ := hh
    exact altok rfl (nd_one en) rfl rfl (by simp only [e0] <;> rfl)
  · cases h)

theorem k17q (xs ys : List Int) (hn : leN xs.length 9223372036854775807 = true) : ksh xs ys = eqL xs ys ∧ ksi xs ys = true := by
  have hn := leN_iff.1 hn
  unfold eqL
  by_cases hl : ys.length = xs.length
  · obtain ⟨w1, w2⟩ := k12y xs ys hn hl
    have ha := any_ne (d := (0 : Int)) hl (P := fun b => Option.getD xs[b]? 0 != Option.getD ys[b]? 0) (fun b => by simp [bne, BEq.beq])
    rw [walk_stop (P := fun b => Option.getD xs[b]? 0 != Option.getD ys[b]? 0) (j := 0) (fun b => rfl), ha] at w2
    simp only [kr2, kqr, ksh, ksi, w1, w2, allT]
    by_cases he : xs = ys
    · subst he; simp; decide
    · simp [he, hl]
  · have hne : xs ≠ ys := fun h => hl (by rw [h])
    simp [kr2, kqr, ksh, ksi, allT, hne]
    omega

def k105 : List SV → List Entry → Option Out
  | [.one ⟨false, [.ref 0]⟩, .one ⟨false, [.ref 1]⟩], [.row false 2 (.int .i64) x0, .row false 2 (.int .i64) x1] => some ⟨(.one ⟨false, [(.val (.bool (eqL x0 x1)))]⟩), [(.row false 2 (CTy.int IntKind.i64) x0), (.row false 2 (CTy.int IntKind.i64) x1)], [], [leN x0.length 9223372036854775807]⟩
  | _, _ => none

def kg4 : PF Tryz.prog := PF.alt k154 k105 (by
  intro args es o h hnd; unfold k105 at h; split at h
  · rename_i x0 x1
    cases h
    have hnd := nd_fst hnd
    have hh := k17q x0 x1 hnd
    obtain ⟨e0, en⟩ := hh
    exact altok rfl (nd_one en) (by simp only [e0] <;> rfl) rfl rfl
  · cases h)

/-- Numbers that a list is marked with stay numbers. -/
def mkOk (k : Int) (n : Nat) : Bool := leI 0 k && leI (k + n) 9223372036854775807

theorem k10v {k : Int} {n : Nat} : mkOk k n = true ↔ 0 ≤ k ∧ k + n ≤ 9223372036854775807 := by simp [mkOk]

theorem k16o (k : Int) (xs : List Int) (h : mkOk k xs.length = true) : kma k xs = k + xs.length ∧ km9 k xs = upFrom k xs.length ∧ km8 k xs = true := by
  obtain ⟨h0, h1⟩ := k10v.1 h
  obtain ⟨w1, w2⟩ := k10n k xs xs.length rfl (by omega)
  rw [walk_mark (f := kdd) (fun b k xs => rfl) h0 h1] at w2
  refine ⟨?_, ?_, ?_⟩
  · simp only [kk5, kkf, kma, km9, km8, w2, k8d]
  · simp only [kk5, kkf, kma, km9, km8, w2, k8d]
  · simp only [kk5, kkf, kma, km9, km8, w1, allT, cond_true]

def ky0 : List SV → List Entry → Option Out
  | [.one ⟨false, [.ref 0]⟩, .one ⟨false, [.val (.int .i64 x0)]⟩], [.row true 2 (.int .i64) x1] => some ⟨(.one ⟨false, [(.val (.int IntKind.i64 (x0 + (x1.length : Int))))]⟩), [(.row true 2 (CTy.int IntKind.i64) (upFrom x0 x1.length))], [], [mkOk x0 x1.length]⟩
  | _, _ => none

def kdc : PF Tryz.prog := PF.alt k140 ky0 (by
  intro args es o h hnd; unfold ky0 at h; split at h
  · rename_i x0 x1
    cases h
    have hnd := nd_fst hnd
    have hh := k16o x0 x1 hnd
    obtain ⟨e0, e1, en⟩ := hh
    exact altok rfl (nd_one en) (by simp only [e0] <;> rfl) (by simp only [e1] <;> rfl) rfl
  · cases h)

/-- What a marked list is found to be. -/
def heldV (k : Int) (xs : List Int) : Int := kmo k xs

theorem k16j (k : Int) (n : Nat) (h : mkOk k n = true) : heldV k (upFrom k n) = k + n := by
  obtain ⟨h0, h1⟩ := k10v.1 h
  obtain ⟨w1, w2⟩ := kv0 (upFrom k n) k (by rw [upFrom_length]; omega)
  rw [walk_held (f := kfy) (fun b k => rfl) h0 h1] at w2
  simp only [heldV, kke, kmo, kpl, w2, kav]
  rfl

theorem k16u (k : Int) (xs : List Int) (h : leN xs.length 9223372036854775807 = true) : kmo k xs = heldV k xs ∧ kpl k xs = true := by
  obtain ⟨w1, w2⟩ := kv0 xs k (leN_iff.1 h)
  exact ⟨rfl, by simp only [kke, kmo, kpl, w1, allT, cond_true]⟩

def ky2 : List SV → List Entry → Option Out
  | [.one ⟨false, [.ref 0]⟩, .one ⟨false, [.val (.int .i64 x0)]⟩], [.row false 2 (.int .i64) x1] => some ⟨(.one ⟨false, [(.val (.int IntKind.i64 (heldV x0 x1)))]⟩), [(.row false 2 (CTy.int IntKind.i64) x1)], [], [leN x1.length 9223372036854775807]⟩
  | _, _ => none

def kti : PF Tryz.prog := PF.alt k141 ky2 (by
  intro args es o h hnd; unfold ky2 at h; split at h
  · rename_i x0 x1
    cases h
    have hnd := nd_fst hnd
    have hh := k16u x0 x1 hnd
    obtain ⟨e0, en⟩ := hh
    exact altok rfl (nd_one en) (by simp only [e0] <;> rfl) rfl rfl
  · cases h)

def szV (k : Int) (xs : List Int) : Int := bif ltI (k - xs.length) 0 then -1 else k - xs.length

theorem k17k (k : Int) (xs : List Int) (h : (leN xs.length 9223372036854775807 && (leI (-1) k && leI k 1048576)) = true) : kvp k xs = szV k xs := by
  simp only [Bool.and_eq_true, leN_iff, leI_iff] at h
  simp only [kuz, kvp, szV]
  rw [wrap_i64 (by omega) (by omega)]

def k101 : List SV → List Entry → Option Out
  | [.one ⟨false, [.ref 0]⟩, .one ⟨false, [.val (.int .i64 x0)]⟩], [.row false 2 (.int .i64) x1] => some ⟨(.one ⟨false, [(.val (.int IntKind.i64 (szV x0 x1)))]⟩), [(.row false 2 (CTy.int IntKind.i64) x1)], [], [leN x1.length 9223372036854775807 && (leI (-1) x0 && leI x0 1048576)]⟩
  | _, _ => none

def kw4 : PF Tryz.prog := PF.alt k155 k101 (by
  intro args es o h hnd; unfold k101 at h; split at h
  · rename_i x0 x1
    cases h
    have hnd := nd_fst hnd
    have hh := k17k x0 x1 hnd
    have e0 := hh
    exact altok rfl (fun _ h => by cases h) (by simp only [e0] <;> rfl) rfl rfl
  · cases h)

theorem k185 (xs : List Int) (h : (leN 1 xs.length && leN xs.length 1048576) = true) : kg2 xs = true := by
  simp only [Bool.and_eq_true, leN_iff] at h
  simp [kg2, allT]
  omega

/-- slices.Clone at nil, at a slice of no elements; at any slice. -/
def k15d : List SV → List Entry → Option Out
  | [.one ⟨false, [.val (.slice none 0 0)]⟩], [] => some ⟨.one ⟨false, [.ref 0]⟩, [], [.row true 2 (.int .i64) []], [true]⟩
  | _, _ => none
def k16r : PF Tryz.prog := PF.ofG Tryz.prog [PF.raw Tryz.prog] [] hmix 194 Tryz.f194 Tryz.func194 (fun c _ => LOk.nil c) k15d (by
  intro vs es r h; unfold k15d at h; split at h
  · cases h; kernel_rfl
  · cases h)
def k15b : List SV → List Entry → Option Out
  | [.one ⟨false, [.val (.slice (some _) 0 _)]⟩], [] => some ⟨.one ⟨false, [.ref 0]⟩, [], [.row true 2 (.int .i64) []], [true]⟩
  | _, _ => none
def k16v : PF Tryz.prog := PF.ofG Tryz.prog [] [] hmix 194 Tryz.f194 Tryz.func194 (fun c _ => LOk.nil c) k15b (by
  intro vs es r h; unfold k15b at h; split at h
  · cases h; kernel_rfl
  · cases h)
def kpg : List SV → List Entry → Option Out
  | [.one ⟨false, [.ref 0]⟩], [.row false 2 (.int .i64) x0] => some ⟨.one ⟨false, [.ref 1]⟩, [.row false 2 (.int .i64) x0], [.row true 2 (.int .i64) x0], [leN x0.length 1048576]⟩
  | _, _ => none
def kao : PF Tryz.prog where
  k := 194
  F := kpg
  ok := by
    intro args es o h hnd mem ρ w hp
    unfold kpg at h
    split at h
    · rename_i x0
      cases h
      have hl := hnd _ (List.mem_singleton.2 rfl)
      cases x0 with
      | nil =>
        exact (clone0 k16r k16v rfl rfl rfl (fun _ _ => rfl) (by simp) (by simp) hp).mono fun en w' ⟨ρ', h1, h2, h3⟩ => ⟨ρ', h1, h2, rfl, (by intro v hv; rw [List.mem_singleton.1 hv]; rfl), h3⟩
      | cons x xs => exact kvz.ok _ _ ⟨_, _, _, [kg2 (x :: xs)]⟩ rfl (fun b hb => by rw [List.mem_singleton.1 hb]; exact k185 (x :: xs) ((Bool.and_eq_true _ _).mpr ⟨leN_t (Nat.succ_pos _), hl⟩)) mem ρ w hp
    · cases h

theorem own_ok (xs : List Int) (h : leN xs.length 1048576 = true) : kz2 xs = true := by
  have h := leN_iff.1 h
  simp [kz2, allT]
  omega

def k13r : List SV → List Entry → Option Out
  | [.one ⟨false, [.ref 0]⟩], [.row false 2 (.int .i64) x0] => some ⟨(.one ⟨false, [(.ref 1)]⟩), [(.row false 2 (CTy.int IntKind.i64) x0)], [(.row true 2 (CTy.int IntKind.i64) x0)], [leN x0.length 1048576]⟩
  | _, _ => none

def kjb : PF Tryz.prog := PF.alt k160 k13r (by
  intro args es o h hnd; unfold k13r at h; split at h
  · rename_i x0
    cases h
    have hnd := nd_fst hnd
    have hh := own_ok x0 hnd
    have en := hh
    exact altok rfl (nd_one en) rfl rfl rfl
  · cases h)

end Go.SX

namespace Go.SX
open Go.Proofs
set_option maxRecDepth 100000

def kns (x0 : Int) : Bool :=
  bif leI (97 : Int) x0 then leI x0 (122 : Int) else false

def kyn : List SV → List Entry → Option Out
  | [.one ⟨false, [.val (.int .u8 x0)]⟩], [] => some ⟨(.one ⟨false, [(.val (.bool (kns x0)))]⟩), [], [], []⟩
  | _, _ => none

def ku8 : PF Tryz.prog := PF.ofG Tryz.prog [] [] hmix 277 Tryz.f277 Tryz.func277 (fun c _ => LOk.nil c) kyn (by
  intro vs es r h; unfold kyn at h; split at h
  · cases h; kernel_rfl
  · cases h)

def kw0 (x0 : Int) : Bool :=
  bif leI (48 : Int) x0 then leI x0 (57 : Int) else false

def kzx : List SV → List Entry → Option Out
  | [.one ⟨false, [.val (.int .u8 x0)]⟩], [] => some ⟨(.one ⟨false, [(.val (.bool (kw0 x0)))]⟩), [], [], []⟩
  | _, _ => none

def k14w : PF Tryz.prog := PF.ofG Tryz.prog [] [] hmix 280 Tryz.f280 Tryz.func280 (fun c _ => LOk.nil c) kzx (by
  intro vs es r h; unfold kzx at h; split at h
  · cases h; kernel_rfl
  · cases h)

def ksk (x0 : Int) : Bool :=
  bif bif kns x0 then true else kw0 x0 then true else x0 == (95 : Int)

def kzy : List SV → List Entry → Option Out
  | [.one ⟨false, [.val (.int .u8 x0)]⟩], [] => some ⟨(.one ⟨false, [(.val (.bool (ksk x0)))]⟩), [], [], []⟩
  | _, _ => none

def kzu : PF Tryz.prog := PF.ofG Tryz.prog [ku8, k14w] [] hmix 276 Tryz.f276 Tryz.func276 (fun c _ => LOk.nil c) kzy (by
  intro vs es r h; unfold kzy at h; split at h
  · cases h; kernel_rfl
  · cases h)

abbrev kex := Int × ByteArray

def kmy (y0 : Int) (y1 : ByteArray) : Bool :=
  ltI y0 (↑(ByteArray.size y1) : Int)

def kxz (y0 : Int) : Bool :=
  leI (0 : Int) y0

def kta (y0 : Int) (y1 : ByteArray) : Bool :=
  !ksk (↑(UInt8.toNat (Option.getD y1[Int.toNat y0]? (0 : UInt8))) : Int)

def kxx (y0 : Int) : Int :=
  IntKind.wrap IntKind.i64 (y0 + (1 : Int))

def k133 : kex → List (Nat × SV)
  | (y0, y1) => [(3, (.one ⟨false, [(.val (.int IntKind.i64 y0))]⟩)), (0, (.one ⟨false, [(.val (.string y1))]⟩))]

def k12q : kex → List (Nat × Entry)
  | (_, _) => []

def k12r : Nat → kex → List (Nat × SV)
  | 0, (_, _) => [(2, (.one ⟨false, [(.val (.bool false))]⟩))]
  | _, (_, _) => []

def k12k : Nat → kex → List (Nat × Entry)
  | 0, (_, _) => []
  | _, (_, _) => []

def kka : kex → LT kex
  | (y0, y1) => .ite (kmy y0 y1) (.need [(kxz y0), (kmy y0 y1)] (.ite (kta y0 y1) (.ext 0 []) (.nrm ((kxx y0), y1) []))) (.ext 1 [])

def krm (s : St) : Option kex :=
  (match s.look 3 with
  | some ⟨none, (.one ⟨false, [(.val (.int IntKind.i64 y0))]⟩)⟩ =>
  (match s.look 0 with
  | some ⟨none, (.one ⟨false, [(.val (.string y1))]⟩)⟩ =>
  some (y0, y1)
  | _ => none)
  | _ => none)

def k51 : Lp kex where
  h := ⟨[4, 5, 6, 7, 10, 11, 12, 13, 14, 2, 8, 9, 3], [], [], []⟩
  JL := k133
  JE := k12q
  XL := k12r
  XE := k12k
  q := fun j => match j with | 0 => .ret | _ => .exit 0
  tags := [0, 1]
  lt := kka
  fuel := fun (y0, y1) => y0.natAbs + y1.size
  fix := fun (_, y1) (y0, _) => (y0, y1)
  σ := []
  rd := krm

theorem k10k : LoopOk Tryz.prog (fun k => Nat.blt k Tryz.f266.ntmps) k51.F (loopAt Tryz.f266 0) := by
  refine Lp.ok (tbl := [ki7, kzu, ku8]) (lf := []) hmix k51 (by kernel_rfl) (LOk.nil _) (fun _ => rfl) (fun j _ => by unfold k51; match j with | 0 => rfl | _ + 1 => rfl) ?_ ?_ ?_ ?_ (fun _ => rfl) ?_
  · intro x; obtain ⟨y0, y1⟩ := x; kernel_rfl
  · intro x; obtain ⟨y0, y1⟩ := x; kernel_rfl
  · intro s x h
    have h : krm s = some x := h
    unfold krm at h
    repeat' split at h
    all_goals cases h
    exact ⟨absS_cons (by assumption) rfl (absS_cons (by assumption) rfl (rfl)), rfl⟩
  · intro x; obtain ⟨y0, y1⟩ := x; kernel_rfl
  · intro x z; obtain ⟨y0, y1⟩ := x; exact (And.intro (And.intro trivial rfl) trivial)

def ksj (x0 : ByteArray) : Bool :=
  Nat.beq (Prod.fst (Lp.res k51 ((0 : Int), x0))) (0 : Nat)

def ksr (x0 : ByteArray) : Bool :=
  k1u (↑(ByteArray.size x0) : Int) (1 : Int) (12 : Int)

def kx6 (x0 : ByteArray) : Bool :=
  bif ksj x0 then false
  else bif ksr x0 then kns (↑(UInt8.toNat (Option.getD x0[Int.toNat (0 : Int)]? (0 : UInt8))) : Int) else false

def kx8 (x0 : ByteArray) : Bool :=
  allT
  [Lp.fin k51 ((0 : Int), x0), ksj x0 || (!(ksr x0 && true) || leI (0 : Int) (0 : Int)),
    ksj x0 || (!(ksr x0 && true) || ltI (0 : Int) (↑(ByteArray.size x0) : Int))]

def k11g : List SV → List Entry → Option Out
  | [.one ⟨false, [.val (.string x0)]⟩], [] => some ⟨(.one ⟨false, [(.val (.bool (kx6 x0)))]⟩), [], [], [(kx8 x0)]⟩
  | _, _ => none

def k15s : PF Tryz.prog := PF.ofG Tryz.prog [ki7, kzu, ku8] [k51.F] hmix 266 Tryz.f266 Tryz.func266 (LOk.fnT (l := [loopAt Tryz.f266 0]) (by kernel_rfl) (.cons k10k (.nil _))) k11g (by
  intro vs es r h; unfold k11g at h; split at h
  · cases h; kernel_rfl
  · cases h)

def krv  : List ByteArray :=
  [{ data := #[(112 : UInt8), (114 : UInt8), (111 : UInt8), (103 : UInt8), (114 : UInt8), (97 : UInt8), (109 : UInt8)] },
  { data := #[(105 : UInt8), (110 : UInt8)] }, { data := #[(118 : UInt8), (97 : UInt8), (114 : UInt8)] },
  { data := #[(111 : UInt8), (117 : UInt8), (116 : UInt8)] }, { data := #[(103 : UInt8), (117 : UInt8), (97 : UInt8), (114 : UInt8), (100 : UInt8)] },
  { data := #[(101 : UInt8), (110 : UInt8), (100 : UInt8)] }, { data := #[(97 : UInt8), (110 : UInt8), (100 : UInt8)] },
  { data := #[(111 : UInt8), (114 : UInt8)] }, { data := #[(110 : UInt8), (111 : UInt8), (116 : UInt8)] },
  { data := #[(116 : UInt8), (114 : UInt8), (117 : UInt8), (101 : UInt8)] },
  { data := #[(102 : UInt8), (97 : UInt8), (108 : UInt8), (115 : UInt8), (101 : UInt8)] }, { data := #[(111 : UInt8), (110 : UInt8)] },
  { data := #[(111 : UInt8), (102 : UInt8), (102 : UInt8)] }, { data := #[(114 : UInt8), (105 : UInt8), (115 : UInt8), (101 : UInt8)] },
  { data := #[(108 : UInt8), (97 : UInt8), (116 : UInt8), (99 : UInt8), (104 : UInt8)] },
  { data := #[(99 : UInt8), (111 : UInt8), (117 : UInt8), (110 : UInt8), (116 : UInt8)] },
  { data := #[(112 : UInt8), (97 : UInt8), (105 : UInt8), (114 : UInt8)] }]

def kwo : List SV → List Entry → Option Out
  | [], [] => some ⟨(.one ⟨false, [(.ref 0)]⟩), [], [(.row true 9 (CTy.str) (krv))], []⟩
  | _, _ => none

def kwd : PF Tryz.prog := PF.ofG Tryz.prog [] [] hmix 278 Tryz.f278 Tryz.func278 (fun c _ => LOk.nil c) kwo (by
  intro vs es r h; unfold kwo at h; split at h
  · cases h; kernel_rfl
  · cases h)

abbrev k7n := Int × ByteArray × List ByteArray

def kfq (y0 : Int) (y2 : List ByteArray) : Bool :=
  ltI y0 (↑(List.length y2) : Int)

def kik (y0 : Int) : Bool :=
  leI (0 : Int) y0

def kid (y0 : Int) (y2 : List ByteArray) : Bool :=
  ltN (Int.toNat y0) (List.length y2)

def ki8 (y0 : Int) (y1 : ByteArray) (y2 : List ByteArray) : Bool :=
  ByteArray.toList (Option.getD y2[Int.toNat y0]? ByteArray.empty) == ByteArray.toList y1

def kib (y0 : Int) : Int :=
  IntKind.wrap IntKind.i64 (y0 + (1 : Int))

def kzf : k7n → List (Nat × SV)
  | (y0, y1, _) => [(4, (.one ⟨false, [(.val (.int IntKind.i64 y0))]⟩)), (3, (.one ⟨false, [(.ref 0)]⟩)), (0, (.one ⟨false, [(.val (.string y1))]⟩))]

def kzp : k7n → List (Nat × Entry)
  | (_, _, y2) => [(0, (.row true 9 (CTy.str) y2))]

def kzr : Nat → k7n → List (Nat × SV)
  | 0, (y0, _, _) => [(2, (.one ⟨false, [(.val (.int IntKind.i64 y0))]⟩))]
  | _, (_, _, _) => []

def kzi : Nat → k7n → List (Nat × Entry)
  | 0, (_, _, y2) => [(0, (.row true 9 (CTy.str) y2))]
  | _, (_, _, y2) => [(0, (.row true 9 (CTy.str) y2))]

def kh3 : k7n → LT k7n
  | (y0, y1, y2) => .ite (kfq y0 y2) (.need [(kik y0), (kfq y0 y2), (kid y0 y2)] (.ite (ki8 y0 y1 y2) (.ext 0 [(0, 0)]) (.nrm ((kib y0), y1, y2) [(0, 0)]))) (.ext 1 [(0, 0)])

def kp0 (s : St) : Option k7n :=
  (match s.look 4 with
  | some ⟨none, (.one ⟨false, [(.val (.int IntKind.i64 y0))]⟩)⟩ =>
  (match s.look 3 with
  | some ⟨none, (.one ⟨false, [(.ref 128)]⟩)⟩ =>
  (match s.look 0 with
  | some ⟨none, (.one ⟨false, [(.val (.string y1))]⟩)⟩ =>
  (match s.ent 128 with
  | some (.row true 9 (CTy.str) y2) =>
  some (y0, y1, y2)
  | _ => none)
  | _ => none)
  | _ => none)
  | _ => none)

def k31 : Lp k7n where
  h := ⟨[6, 7, 8, 9, 12, 13, 14, 15, 16, 17, 18, 2, 10, 11, 4], [0], [], []⟩
  JL := kzf
  JE := kzp
  XL := kzr
  XE := kzi
  q := fun j => match j with | 0 => .ret | _ => .exit 0
  tags := [0, 1]
  lt := kh3
  fuel := fun (y0, y1, y2) => y0.natAbs + y1.size + y2.length
  fix := fun (_, y1, y2) (y0, _, _) => (y0, y1, y2)
  σ := [(0, 128)]
  rd := kp0

theorem ky5 : LoopOk Tryz.prog (fun k => Nat.blt k Tryz.f267.ntmps) k31.F (loopAt Tryz.f267 0) := by
  refine Lp.ok (tbl := [kwd]) (lf := []) hmix k31 (by kernel_rfl) (LOk.nil _) (fun _ => rfl) (fun j _ => by unfold k31; match j with | 0 => rfl | _ + 1 => rfl) ?_ ?_ ?_ ?_ (fun _ => rfl) ?_
  · intro x; obtain ⟨y0, y1, y2⟩ := x; kernel_rfl
  · intro x; obtain ⟨y0, y1, y2⟩ := x; kernel_rfl
  · intro s x h
    have h : kp0 s = some x := h
    unfold kp0 at h
    repeat' split at h
    all_goals cases h
    exact ⟨absS_cons (by assumption) rfl (absS_cons (by assumption) rfl (absS_cons (by assumption) rfl (rfl))), absE_cons rfl (by assumption) rfl (rfl)⟩
  · intro x; obtain ⟨y0, y1, y2⟩ := x; kernel_rfl
  · intro x z; obtain ⟨y0, y1, y2⟩ := x; exact (And.intro (And.intro trivial rfl) trivial)

def kon (x0 : ByteArray) : Int × ByteArray × List ByteArray :=
  ((0 : Int), x0, krv)

def kpo (x0 : ByteArray) : Int :=
  bif Nat.beq (Prod.fst (Lp.res k31 (kon x0))) (0 : Nat) then
  Prod.fst (Prod.snd (Lp.res k31 (kon x0)))
  else (-1 : Int)

def kpn (x0 : ByteArray) : Bool :=
  allT [Lp.fin k31 (kon x0)]

def kxt : List SV → List Entry → Option Out
  | [.one ⟨false, [.val (.string x0)]⟩], [] => some ⟨(.one ⟨false, [(.val (.int IntKind.i64 (kpo x0)))]⟩), [], [], [(kpn x0)]⟩
  | _, _ => none

def k143 : PF Tryz.prog := PF.ofG Tryz.prog [kwd] [k31.F] hmix 267 Tryz.f267 Tryz.func267 (LOk.fnT (l := [loopAt Tryz.f267 0]) (by kernel_rfl) (.cons ky5 (.nil _))) kxt (by
  intro vs es r h; unfold kxt at h; split at h
  · cases h; kernel_rfl
  · cases h)

def kfo (x0 : ByteArray) (x1 : Int) : Int :=
  ibs x0 x1

def kl5 : List SV → List Entry → Option Out
  | [.one ⟨false, [.val (.string x0)]⟩, .one ⟨false, [.val (.int .u8 x1)]⟩], [] => some ⟨(.one ⟨false, [(.val (.int IntKind.i64 (kfo x0 x1)))]⟩), [], [], []⟩
  | _, _ => none

def krk : PF Tryz.prog := PF.ofG Tryz.prog [] [] hmix 279 Tryz.f279 Tryz.func279 (fun c _ => LOk.nil c) kl5 (by
  intro vs es r h; unfold kl5 at h; split at h
  · cases h; kernel_rfl
  · cases h)

def knm (x0 : ByteArray) (x1 : Int) : Int :=
  kfo x0 x1

def kvl : List SV → List Entry → Option Out
  | [.one ⟨false, [.val (.string x0)]⟩, .one ⟨false, [.val (.int .u8 x1)]⟩], [] => some ⟨(.one ⟨false, [(.val (.int IntKind.i64 (knm x0 x1)))]⟩), [], [], []⟩
  | _, _ => none

def kqw : PF Tryz.prog := PF.ofG Tryz.prog [krk] [] hmix 273 Tryz.f273 Tryz.func273 (fun c _ => LOk.nil c) kvl (by
  intro vs es r h; unfold kvl at h; split at h
  · cases h; kernel_rfl
  · cases h)

abbrev kld := Int × Int × ByteArray × ByteArray

def kjg (y0 : Int) (y1 : Int) (y2 : ByteArray) : Bool :=
  ltI (IntKind.wrap IntKind.i64 (y0 + y1)) (↑(ByteArray.size y2) : Int)

def kyw (y0 : Int) (y1 : Int) (y2 : ByteArray) : Bool :=
  !(kjg y0 y1 y2 && true) || leI (0 : Int) (IntKind.wrap IntKind.i64 (y0 + y1))

def kyi (y0 : Int) (y1 : Int) (y2 : ByteArray) : Bool :=
  !(kjg y0 y1 y2 && true) || kjg y0 y1 y2

def kvm (y0 : Int) (y1 : Int) (y2 : ByteArray) (y3 : ByteArray) : Bool :=
  bif kjg y0 y1 y2 then
  leI (0 : Int) (knm y3 (↑(UInt8.toNat (Option.getD y2[Int.toNat (IntKind.wrap IntKind.i64 (y0 + y1))]? (0 : UInt8))) : Int))
  else false

def k13s (y1 : Int) : Int :=
  IntKind.wrap IntKind.i64 (y1 + (1 : Int))

def k15g : kld → List (Nat × SV)
  | (y0, y1, y2, y3) => [(1, (.one ⟨false, [(.val (.int IntKind.i64 y0))]⟩)), (7, (.one ⟨false, [(.val (.int IntKind.i64 y1))]⟩)), (0, (.one ⟨false, [(.val (.string y2))]⟩)), (2, (.one ⟨false, [(.val (.string y3))]⟩))]

def k15r : kld → List (Nat × Entry)
  | (_, _, _, _) => []

def k15m : Nat → kld → List (Nat × SV)
  | _, (_, y1, _, _) => [(7, (.one ⟨false, [(.val (.int IntKind.i64 y1))]⟩))]

def k15i : Nat → kld → List (Nat × Entry)
  | _, (_, _, _, _) => []

def kqu : kld → LT kld
  | (y0, y1, y2, y3) => .need [(kyw y0 y1 y2), (kyi y0 y1 y2)] (.ite (kvm y0 y1 y2 y3) (.nrm (y0, (k13s y1), y2, y3) []) (.ext 0 []))

def kxi (s : St) : Option kld :=
  (match s.look 1 with
  | some ⟨none, (.one ⟨false, [(.val (.int IntKind.i64 y0))]⟩)⟩ =>
  (match s.look 7 with
  | some ⟨none, (.one ⟨false, [(.val (.int IntKind.i64 y1))]⟩)⟩ =>
  (match s.look 0 with
  | some ⟨none, (.one ⟨false, [(.val (.string y2))]⟩)⟩ =>
  (match s.look 2 with
  | some ⟨none, (.one ⟨false, [(.val (.string y3))]⟩)⟩ =>
  some (y0, y1, y2, y3)
  | _ => none)
  | _ => none)
  | _ => none)
  | _ => none)

def k8b : Lp kld where
  h := ⟨[8, 9, 10, 11, 12, 13, 14, 15, 16, 17, 18, 19, 20, 21, 22, 23, 24, 25, 7], [], [], []⟩
  JL := k15g
  JE := k15r
  XL := k15m
  XE := k15i
  q := fun j => match j with | _ => .exit 0
  tags := [0]
  lt := kqu
  fuel := fun (y0, y1, y2, y3) => y0.natAbs + y1.natAbs + y2.size + y3.size
  fix := fun (y0, _, y2, y3) (_, y1, _, _) => (y0, y1, y2, y3)
  σ := []
  rd := kxi

theorem k14o : LoopOk Tryz.prog (fun k => Nat.blt k Tryz.f274.ntmps) k8b.F (loopAt Tryz.f274 0) := by
  refine Lp.ok (tbl := [kqw]) (lf := []) hmix k8b (by kernel_rfl) (LOk.nil _) (fun _ => rfl) (fun _ _ => rfl) ?_ ?_ ?_ ?_ (fun _ => rfl) ?_
  · intro x; obtain ⟨y0, y1, y2, y3⟩ := x; kernel_rfl
  · intro x; obtain ⟨y0, y1, y2, y3⟩ := x; kernel_rfl
  · intro s x h
    have h : kxi s = some x := h
    unfold kxi at h
    repeat' split at h
    all_goals cases h
    exact ⟨absS_cons (by assumption) rfl (absS_cons (by assumption) rfl (absS_cons (by assumption) rfl (absS_cons (by assumption) rfl (rfl)))), rfl⟩
  · intro x; obtain ⟨y0, y1, y2, y3⟩ := x; kernel_rfl
  · intro x z; obtain ⟨y0, y1, y2, y3⟩ := x; exact (And.intro rfl trivial)

def k15e (x0 : ByteArray) (x1 : Int) (x2 : ByteArray) : Int × Int × ByteArray × ByteArray :=
  (x1, (0 : Int), x0, x2)

def k15w (x0 : ByteArray) (x1 : Int) (x2 : ByteArray) : Int :=
  Prod.fst (Prod.snd (Prod.snd (Lp.res k8b (k15e x0 x1 x2))))

def k15x (x0 : ByteArray) (x1 : Int) (x2 : ByteArray) : Bool :=
  allT [Lp.fin k8b (k15e x0 x1 x2)]

def k168 : List SV → List Entry → Option Out
  | [.one ⟨false, [.val (.string x0)]⟩, .one ⟨false, [.val (.int .i64 x1)]⟩, .one ⟨false, [.val (.string x2)]⟩], [] => some ⟨(.one ⟨false, [(.val (.int IntKind.i64 (k15w x0 x1 x2)))]⟩), [], [], [(k15x x0 x1 x2)]⟩
  | _, _ => none

def k17c : PF Tryz.prog := PF.ofG Tryz.prog [kqw] [k8b.F] hmix 274 Tryz.f274 Tryz.func274 (LOk.fnT (l := [loopAt Tryz.f274 0]) (by kernel_rfl) (.cons k14o (.nil _))) k168 (by
  intro vs es r h; unfold k168 at h; split at h
  · cases h; kernel_rfl
  · cases h)

def kj1 (x0 : ByteArray) : Bool :=
  k3s (↑(ByteArray.size x0) : Int) (1 : Int) (12 : Int)

def koj (x0 : ByteArray) : Bool :=
  bif kj1 x0 then
  leI (0 : Int)
    (knm
      {
        data :=
          #[(97 : UInt8), (98 : UInt8), (99 : UInt8), (100 : UInt8), (101 : UInt8), (102 : UInt8), (103 : UInt8), (104 : UInt8), (105 : UInt8),
            (106 : UInt8), (107 : UInt8), (108 : UInt8), (109 : UInt8), (110 : UInt8), (111 : UInt8), (112 : UInt8), (113 : UInt8), (114 : UInt8),
            (115 : UInt8), (116 : UInt8), (117 : UInt8), (118 : UInt8), (119 : UInt8), (120 : UInt8), (121 : UInt8), (122 : UInt8)] }
      (↑(UInt8.toNat (Option.getD x0[Int.toNat (0 : Int)]? (0 : UInt8))) : Int))
  else false

def kyq (x0 : ByteArray) : Bool :=
  bif koj x0 then
  k15w x0 (0 : Int)
      {
        data :=
          #[(97 : UInt8), (98 : UInt8), (99 : UInt8), (100 : UInt8), (101 : UInt8), (102 : UInt8), (103 : UInt8), (104 : UInt8), (105 : UInt8),
            (106 : UInt8), (107 : UInt8), (108 : UInt8), (109 : UInt8), (110 : UInt8), (111 : UInt8), (112 : UInt8), (113 : UInt8), (114 : UInt8),
            (115 : UInt8), (116 : UInt8), (117 : UInt8), (118 : UInt8), (119 : UInt8), (120 : UInt8), (121 : UInt8), (122 : UInt8), (48 : UInt8),
            (49 : UInt8), (50 : UInt8), (51 : UInt8), (52 : UInt8), (53 : UInt8), (54 : UInt8), (55 : UInt8), (56 : UInt8), (57 : UInt8),
            (95 : UInt8)] } ==
    (↑(ByteArray.size x0) : Int)
  else false

def kyz (x0 : ByteArray) : Bool :=
  allT
  [!(kj1 x0 && true) || leI (0 : Int) (0 : Int), !(kj1 x0 && true) || ltI (0 : Int) (↑(ByteArray.size x0) : Int),
    !(koj x0 && true) ||
      k15x x0 (0 : Int)
        {
          data :=
            #[(97 : UInt8), (98 : UInt8), (99 : UInt8), (100 : UInt8), (101 : UInt8), (102 : UInt8), (103 : UInt8), (104 : UInt8), (105 : UInt8),
              (106 : UInt8), (107 : UInt8), (108 : UInt8), (109 : UInt8), (110 : UInt8), (111 : UInt8), (112 : UInt8), (113 : UInt8), (114 : UInt8),
              (115 : UInt8), (116 : UInt8), (117 : UInt8), (118 : UInt8), (119 : UInt8), (120 : UInt8), (121 : UInt8), (122 : UInt8), (48 : UInt8),
              (49 : UInt8), (50 : UInt8), (51 : UInt8), (52 : UInt8), (53 : UInt8), (54 : UInt8), (55 : UInt8), (56 : UInt8), (57 : UInt8),
              (95 : UInt8)] }]

def k136 : List SV → List Entry → Option Out
  | [.one ⟨false, [.val (.string x0)]⟩], [] => some ⟨(.one ⟨false, [(.val (.bool (kyq x0)))]⟩), [], [], [(kyz x0)]⟩
  | _, _ => none

def k161 : PF Tryz.prog := PF.ofG Tryz.prog [ksx, kqw, k17c] [] hmix 257 Tryz.f257 Tryz.func257 (fun c _ => LOk.nil c) k136 (by
  intro vs es r h; unfold k136 at h; split at h
  · cases h; kernel_rfl
  · cases h)

abbrev k2k := Int × Int × ByteArray × List ByteArray

def k9h (y0 : Int) (y1 : Int) : Bool :=
  ltI y0 y1

def k9m (y0 : Int) : Bool :=
  leI (0 : Int) y0

def k9g (y0 : Int) (y3 : List ByteArray) : Bool :=
  ltI y0 (↑(List.length y3) : Int)

def k9l (y0 : Int) (y3 : List ByteArray) : Bool :=
  ltN (Int.toNat y0) (List.length y3)

def k9i (y0 : Int) (y2 : ByteArray) (y3 : List ByteArray) : Bool :=
  ByteArray.toList y2 == ByteArray.toList (Option.getD y3[Int.toNat y0]? ByteArray.empty)

def k9k (y0 : Int) : Int :=
  IntKind.wrap IntKind.i64 (y0 + (1 : Int))

def krg : k2k → List (Nat × SV)
  | (y0, y1, y2, _) => [(8, (.one ⟨false, [(.val (.int IntKind.i64 y0))]⟩)), (7, (.one ⟨false, [(.val (.int IntKind.i64 y1))]⟩)), (1, (.one ⟨false, [(.val (.string y2))]⟩)), (0, (.one ⟨false, [(.ref 0)]⟩))]

def ksa : k2k → List (Nat × Entry)
  | (_, _, _, y3) => [(0, (.row false 9 (CTy.str) y3))]

def kri : Nat → k2k → List (Nat × SV)
  | 0, (y0, _, _, _) => [(4, (.one ⟨false, [(.val (.int IntKind.i64 y0))]⟩))]
  | _, (_, _, _, _) => []

def krs : Nat → k2k → List (Nat × Entry)
  | 0, (_, _, _, y3) => [(0, (.row false 9 (CTy.str) y3))]
  | _, (_, _, _, y3) => [(0, (.row false 9 (CTy.str) y3))]

def k8p : k2k → LT k2k
  | (y0, y1, y2, y3) => .ite (k9h y0 y1) (.need [(k9m y0), (k9g y0 y3), (k9l y0 y3)] (.ite (k9i y0 y2 y3) (.ext 0 [(0, 0)]) (.nrm ((k9k y0), y1, y2, y3) [(0, 0)]))) (.ext 1 [(0, 0)])

def kg0 (s : St) : Option k2k :=
  (match s.look 8 with
  | some ⟨none, (.one ⟨false, [(.val (.int IntKind.i64 y0))]⟩)⟩ =>
  (match s.look 7 with
  | some ⟨none, (.one ⟨false, [(.val (.int IntKind.i64 y1))]⟩)⟩ =>
  (match s.look 1 with
  | some ⟨none, (.one ⟨false, [(.val (.string y2))]⟩)⟩ =>
  (match s.look 0 with
  | some ⟨none, (.one ⟨false, [(.ref 0)]⟩)⟩ =>
  (match s.ent 0 with
  | some (.row false 9 (CTy.str) y3) =>
  some (y0, y1, y2, y3)
  | _ => none)
  | _ => none)
  | _ => none)
  | _ => none)
  | _ => none)

def k1e : Lp k2k where
  h := ⟨[9, 10, 5, 11, 12, 13, 14, 15, 16, 17, 4, 18, 8], [0], [], []⟩
  JL := krg
  JE := ksa
  XL := kri
  XE := krs
  q := fun j => match j with | 0 => .ret | _ => .exit 0
  tags := [0, 1]
  lt := k8p
  fuel := fun (y0, y1, y2, y3) => y0.natAbs + y1.natAbs + y2.size + y3.length
  fix := fun (_, y1, y2, y3) (y0, _, _, _) => (y0, y1, y2, y3)
  σ := [(0, 0)]
  rd := kg0

theorem kqo : LoopOk Tryz.prog (fun k => Nat.blt k Tryz.f120.ntmps) k1e.F (loopAt Tryz.f120 0) := by
  refine Lp.ok (tbl := []) (lf := []) hmix k1e (by kernel_rfl) (LOk.nil _) (fun _ => rfl) (fun j _ => by unfold k1e; match j with | 0 => rfl | _ + 1 => rfl) ?_ ?_ ?_ ?_ (fun _ => rfl) ?_
  · intro x; obtain ⟨y0, y1, y2, y3⟩ := x; kernel_rfl
  · intro x; obtain ⟨y0, y1, y2, y3⟩ := x; kernel_rfl
  · intro s x h
    have h : kg0 s = some x := h
    unfold kg0 at h
    repeat' split at h
    all_goals cases h
    exact ⟨absS_cons (by assumption) rfl (absS_cons (by assumption) rfl (absS_cons (by assumption) rfl (absS_cons (by assumption) rfl (rfl)))), absE_cons rfl (by assumption) rfl (rfl)⟩
  · intro x; obtain ⟨y0, y1, y2, y3⟩ := x; kernel_rfl
  · intro x z; obtain ⟨y0, y1, y2, y3⟩ := x; exact (And.intro (And.intro trivial rfl) trivial)

def ke1 (x0 : ByteArray) (x1 : List ByteArray) : Int × Int × ByteArray × List ByteArray :=
  ((0 : Int), (↑(List.length x1) : Int), x0, x1)

def khu (x0 : ByteArray) (x1 : List ByteArray) : Int :=
  bif Nat.beq (Prod.fst (Lp.res k1e (ke1 x0 x1))) (0 : Nat) then
  Prod.fst (Prod.snd (Lp.res k1e (ke1 x0 x1)))
  else (-1 : Int)

def khy (x0 : ByteArray) (x1 : List ByteArray) : Bool :=
  allT [Lp.fin k1e (ke1 x0 x1)]

def ko2 : List SV → List Entry → Option Out
  | [.one ⟨false, [.ref 0]⟩, .one ⟨false, [.val (.string x0)]⟩], [.row false 9 (.str) x1] => some ⟨(.one ⟨false, [(.val (.int IntKind.i64 (khu x0 x1)))]⟩), [(.row false 9 (CTy.str) x1)], [], [(khy x0 x1)]⟩
  | _, _ => none

def ki4 : PF Tryz.prog := PF.ofG Tryz.prog [] [k1e.F] hmix 120 Tryz.f120 Tryz.func120 (LOk.fnT (l := [loopAt Tryz.f120 0]) (by kernel_rfl) (.cons kqo (.nil _))) ko2 (by
  intro vs es r h; unfold ko2 at h; split at h
  · cases h; kernel_rfl
  · cases h)

def kgj (x0 : ByteArray) (x1 : List ByteArray) : Bool :=
  leI (0 : Int) (khu x0 x1)

def kgh (x0 : ByteArray) (x1 : List ByteArray) : Bool :=
  allT [khy x0 x1]

def klc : List SV → List Entry → Option Out
  | [.one ⟨false, [.ref 0]⟩, .one ⟨false, [.val (.string x0)]⟩], [.row false 9 (.str) x1] => some ⟨(.one ⟨false, [(.val (.bool (kgj x0 x1)))]⟩), [(.row false 9 (CTy.str) x1)], [], [(kgh x0 x1)]⟩
  | _, _ => none

def kge : PF Tryz.prog := PF.ofG Tryz.prog [ki4, PF.lend ki4, PF.fz ki4] [] hmix 234 Tryz.f234 Tryz.func234 (fun c _ => LOk.nil c) klc (by
  intro vs es r h; unfold klc at h; split at h
  · cases h; kernel_rfl
  · cases h)

def kuw (x0 : ByteArray) : Bool :=
  kgj x0 (List.drop (Int.toNat (0 : Int)) (List.take (Int.toNat (↑(List.length tab0) : Int)) tab0))

def kua (x0 : ByteArray) : Bool :=
  allT [kgh x0 (List.drop (Int.toNat (0 : Int)) (List.take (Int.toNat (↑(List.length tab0) : Int)) tab0))]

def kyp : List SV → List Entry → Option Out
  | [.one ⟨false, [.val (.string x0)]⟩], [] => some ⟨(.one ⟨false, [(.val (.bool (kuw x0)))]⟩), [], [], [(kua x0)]⟩
  | _, _ => none

def k14c : PF Tryz.prog := PF.ofG Tryz.prog [kge, PF.lend kge, PF.fz kge] [] hmix 258 Tryz.f258 Tryz.func258 (fun c _ => LOk.nil c) kyp (by
  intro vs es r h; unfold kyp at h; split at h
  · cases h; kernel_rfl
  · cases h)

end Go.SX

namespace Go.SX
open Go.Proofs
set_option maxRecDepth 100000

/-- A loop over numbers that stops at the first of a kind. -/
theorem Lp.scan {X : Type} (p : Lp X) (st : Nat → X) (N : Nat) (P : Nat → Bool) (e : Nat) (hN : N ≤ p.fuel (st 0))
    (hs : ∀ b, b < N → (p.lt (st b)).nds = true ∧ (p.lt (st b)).each (fun y => y = st (b + 1)) ∧ (p.lt (st b)).fn (fun _ => ()) = (bif P b then .inl 0 else .inr ()))
    (he : (p.lt (st N)).out = some (.inl e)) : p.fin (st 0) = true ∧ (p.res (st 0)).1 = bif (List.range N).any P then 0 else e := by
  have key := p.along (fun i (_ : Unit) => st i) (fun _ => ()) (fun (b : Nat) (_ : Unit) => bif P b then .inl 0 else .inr ()) e (fun _ _ => True) (List.range N) () trivial (by rw [List.length_range]; exact hN)
    (fun i b a hb _ => by
      obtain ⟨rfl, hlt⟩ := range_get hb
      obtain ⟨h1, h2, h3⟩ := hs b hlt
      exact ⟨h1, h2, h3, fun _ _ => trivial⟩) (fun a _ => by rw [List.length_range]; exact he)
  rw [walk_stop (P := P) (j := 0) (fun b => rfl)] at key
  exact ⟨key.1, by rw [key.2]⟩

/-- A byte of a text. -/
def bAt (s : ByteArray) (b : Nat) : Int := ((s[b]?.getD 0).toNat : Int)
def letB (c : Int) : Bool := inR c 97 122
def innB (c : Int) : Bool := letB c || (inR c 48 57 || c == 95)
/-- A word. -/
def wordB (s : ByteArray) : Bool := inR (s.size : Int) 1 12 && (letB (bAt s 0) && (List.range s.size).all fun b => innB (bAt s b))
/-- A keyword. -/
def keyB (s : ByteArray) : Bool := tab0.any fun k => k.toList == s.toList
/-- A name. -/
def nameB (s : ByteArray) : Bool := wordB s && !keyB s

def abcS : ByteArray := ⟨#[97, 98, 99, 100, 101, 102, 103, 104, 105, 106, 107, 108, 109, 110, 111, 112, 113, 114, 115, 116, 117, 118, 119, 120, 121, 122]⟩
def wbS : ByteArray := ⟨#[97, 98, 99, 100, 101, 102, 103, 104, 105, 106, 107, 108, 109, 110, 111, 112, 113, 114, 115, 116, 117, 118, 119, 120, 121, 122, 48, 49, 50, 51, 52, 53, 54, 55, 56, 57, 95]⟩

theorem k18b : ∀ n : Nat, n < 256 → leI 0 (ibs abcS (n : Int)) = letB (n : Int) := by decide +kernel
theorem wb_nat : ∀ n : Nat, n < 256 → leI 0 (ibs wbS (n : Int)) = innB (n : Int) := by decide +kernel

theorem abc_ok (s : ByteArray) (b : Nat) : leI 0 (ibs abcS (bAt s b)) = letB (bAt s b) := k18b _ (UInt8.toNat_lt _)
theorem wb_ok (s : ByteArray) (b : Nat) : leI 0 (ibs wbS (bAt s b)) = innB (bAt s b) := wb_nat _ (UInt8.toNat_lt _)

theorem specInner (c : Int) : ksk c = innB c := by
  simp only [ksk, kns, kw0, inR_eq, innB, letB]
  cases inR c 97 122 <;> cases inR c 48 57 <;> rfl

theorem k17f (s : ByteArray) (hn : s.size ≤ 9223372036854775807) :
    k51.fin ((0 : Int), s) = true ∧ (k51.res ((0 : Int), s)).1 = bif (List.range s.size).any (fun b => !innB (bAt s b)) then 0 else 1 := by
  refine Lp.scan k51 (fun b => ((b : Int), s)) s.size (fun b => !innB (bAt s b)) 1 (by simp only [k51]; omega) (fun b hb => ?_) ?_
  · have hdec : ltI (b : Int) (s.size : Int) = true := ltI_t (by omega)
    have hw : IntKind.i64.wrap ((b : Int) + 1) = ((b + 1 : Nat) : Int) := by rw [wrap_i64 (by omega) (by omega)]; omega
    have hnn : leI (0 : Int) (b : Int) = true := leI_t (by omega)
    have i2 : kta (b : Int) s = !innB (bAt s b) := by simp only [kta, specInner, Int.toNat_natCast, bAt]
    refine ⟨?_, ?_, ?_⟩
    · simp [k51, kka, LT.nds, allT, kmy, kxz, hdec, hnn]
    · simp [k51, kka, LT.each, kxx, hw]
    · simp only [k51, kka, LT.fn, kmy, hdec, i2, cond_true]
  · simp [k51, kka, LT.out, kmy]

theorem k16n (s : ByteArray) (h : leN s.size 9223372036854775807 = true) : kx6 s = wordB s ∧ kx8 s = true := by
  obtain ⟨w1, w2⟩ := k17f s (leN_iff.1 h)
  have e5 : ((List.range s.size).any fun b => !innB (bAt s b)) = !(List.range s.size).all fun b => innB (bAt s b) := by simp [List.all_eq_not_any_not]
  rw [e5] at w2
  have eb : ((UInt8.toNat (Option.getD s[Int.toNat (0 : Int)]? (0 : UInt8)) : Nat) : Int) = bAt s 0 := rfl
  have h0 : leI 0 0 = true := rfl
  simp only [kx6, kx8, ksj, ksr, w1, w2, eb, h0, kns, k1u, inR_eq, wordB, letB, allT, Bool.or_true, cond_true]
  cases hr : inR (s.size : Int) 1 12 with
  | false => cases (List.range s.size).all fun b => innB (bAt s b) <;> simp [Nat.beq]
  | true =>
    have := kul.1 hr
    rw [ltI_t (by omega)]
    cases inR (bAt s 0) 97 122 <;> cases (List.range s.size).all fun b => innB (bAt s b) <;> simp [Nat.beq]

theorem w_run (s : ByteArray) (hn : s.size ≤ 9223372036854775806) :
    k8b.fin ((0 : Int), (0 : Int), s, wbS) = true ∧ ((k8b.res ((0 : Int), (0 : Int), s, wbS)).2.2.1 == (s.size : Int)) = (List.range s.size).all fun b => innB (bAt s b) := by
  have hz : ∀ i : Nat, i ≤ s.size → IntKind.i64.wrap ((0 : Int) + (i : Int)) = (i : Int) := fun i hi => by rw [wrap_i64 (by omega) (by omega)]; omega
  have key := k8b.along (fun i (_ : Unit) => ((0 : Int), (i : Int), s, wbS)) (fun _ => ()) (fun (b : Nat) (_ : Unit) => bif !innB (bAt s b) then .inl 0 else .inr ()) 0 (fun _ _ => True) (List.range s.size) () trivial (by simp only [k8b, List.length_range]; omega)
    (fun i b a hb _ => by
      obtain ⟨rfl, hlt⟩ := range_get hb
      have hdec : ltI (b : Int) (s.size : Int) = true := ltI_t (by omega)
      have hnn : leI (0 : Int) (b : Int) = true := leI_t (by omega)
      have hw : IntKind.i64.wrap ((b : Int) + 1) = ((b + 1 : Nat) : Int) := by rw [wrap_i64 (by omega) (by omega)]; omega
      have ha : kjg 0 (b : Int) s = true := by simp only [kjg, hz b (by omega), hdec]
      have hb2 : kvm 0 (b : Int) s wbS = innB (bAt s b) := by
        simp only [kvm, ha, cond_true, hz b (by omega), Int.toNat_natCast, knm, kfo]
        exact wb_ok s b
      refine ⟨?_, ?_, ?_, fun _ _ => trivial⟩
      · have hz2 := hz b (by omega)
        rw [Int.zero_add] at hz2
        simp [k8b, kqu, LT.nds, allT, kyw, kyi, ha, hz2]
      · simp [k8b, kqu, LT.each, k13s, hw]
      · simp only [k8b, kqu, LT.fn, hb2]
        cases innB (bAt s b) <;> rfl)
    (fun a _ => by
      have hdec : ltI (s.size : Int) (s.size : Int) = false := by simp
      have ha : kjg 0 (s.size : Int) s = false := by simp only [kjg, hz s.size (by omega), hdec]
      rw [List.length_range]
      simp [k8b, kqu, LT.out, kvm, kyw, kyi, allT, ha])
  rw [walk_stop (P := fun b => !innB (bAt s b)) (j := 0) (fun b => rfl)] at key
  refine ⟨key.1, ?_⟩
  have k2 : k8b.res ((0 : Int), (0 : Int), s, wbS) = _ := key.2
  rw [k2]
  simp only [Nat.zero_add]
  rw [Bool.eq_iff_iff, beq_iff_eq, List.all_eq_true]
  have hl : ∀ (l : List Nat) (P : Nat → Bool), (l.takeWhile P).length = l.length ↔ ∀ x ∈ l, P x = true := by
    intro l P
    induction l with
    | nil => simp
    | cons a r ih =>
      rw [List.takeWhile_cons]
      cases h : P a with
      | false => simp [h]
      | true => simp [h, ih]
  have h2 := hl (List.range s.size) (fun b => !!innB (bAt s b))
  rw [List.length_range] at h2
  constructor
  · intro h x hx; have := h2.1 (by exact_mod_cast h) x hx; simpa using this
  · intro h; exact_mod_cast h2.2 (fun x hx => by simpa using h x hx)

theorem k16s (s : ByteArray) : kyq s = wordB s ∧ kyz s = true := by
  have eb : ((UInt8.toNat (Option.getD s[Int.toNat (0 : Int)]? (0 : UInt8)) : Nat) : Int) = bAt s 0 := rfl
  have e0 : kj1 s = inR (s.size : Int) 1 12 := by simp only [kj1, k3s, inR_eq]
  have e1 : koj s = (inR (s.size : Int) 1 12 && letB (bAt s 0)) := by
    have : koj s = bif kj1 s then leI 0 (ibs abcS (bAt s 0)) else false := rfl
    rw [this, e0, abc_ok]
    cases inR (s.size : Int) 1 12 <;> rfl
  have e2 : kyq s = bif koj s then (k8b.res ((0 : Int), (0 : Int), s, wbS)).2.2.1 == (s.size : Int) else false := rfl
  have e3 : kyz s = allT [!(kj1 s && true) || leI (0) (0), !(kj1 s && true) || ltI (0) (↑(ByteArray.size s)), !(koj s && true) || allT [k8b.fin ((0 : Int), (0 : Int), s, wbS)]] := rfl
  have h0 : leI 0 0 = true := rfl
  rw [e2, e3, e1, e0, h0]
  cases hr : inR (s.size : Int) 1 12 with
  | false => simp [wordB, hr, allT]
  | true =>
    have := kul.1 hr
    obtain ⟨w1, w2⟩ := w_run s (by omega)
    rw [w1, w2, ltI_t (by omega)]
    simp only [wordB, hr, allT, Bool.true_and, Bool.and_true, Bool.or_true, cond_true]
    cases letB (bAt s 0) <;> simp

def ki1 (y1 : ByteArray) (b : ByteArray) : (Unit) → Nat ⊕ (Unit)
  | _ => (bif ((ByteArray.toList (b) == ByteArray.toList y1)) then (.inl 0) else (.inr ()))

def kas (y1 : ByteArray) (y2 : List ByteArray) (i : Nat) : (Unit) → k7n
  | _ => ((i : Int), y1, y2)

def kp8 : k7n → Unit
  | (_, _, _) => ()

theorem k10y (y1 : ByteArray) (y2 : List ByteArray)  (hn : y2.length ≤ 9223372036854775807)  :
    k31.fin ((0 : Int), y1, y2) = true ∧ k31.res ((0 : Int), y1, y2) = ((walkL (ki1 y1) 1 y2 0 ()).1, (kas y1 y2) (walkL (ki1 y1) 1 y2 0 ()).2.1 (walkL (ki1 y1) 1 y2 0 ()).2.2) := by
  have key := k31.along (kas y1 y2) kp8 (ki1 y1) 1 (fun _ _ => True) y2 () (by trivial) (by simp only [k31, kas]; omega) (fun i b a hb hI => ?_) (fun a hI => ?_)
  · exact key
  · obtain ⟨⟩ := a
    have hlt := (List.getElem?_eq_some_iff.1 hb).1
    have hget : ∀ d, Option.getD y2[i]? d = b := fun d => by rw [hb]; rfl
    have hw := wrap64 hlt hn
    have hdec : ltI (i : Int) (y2.length : Int) = true := ltI_t (by omega)
    have hnn : leI (0 : Int) (i : Int) = true := leI_t (by omega)
    have hltd : ltN i y2.length = true := ltN_t hlt
    refine ⟨?_, ?_, ?_, ?_⟩
    · simp [kfq, kik, kid, ki8, kib, kh3, k31, LT.nds, allT, kas, hdec, hnn, hltd, hget]
    · simp [kfq, kik, kid, ki8, kib, kh3, k31, LT.each, kas, kp8, hw]
    · simp only [kfq, kik, kid, ki8, kib, kh3, k31, LT.fn, kas, kp8, ki1, Int.toNat_natCast, hdec, hnn, hltd, hget, cond_true, Bool.cond_self]
    · exact fun _ _ => trivial
  · obtain ⟨⟩ := a
    simp [kfq, kik, kid, ki8, kib, kh3, k31, LT.out, kas]

def k9j (y2 : ByteArray) (b : ByteArray) : (Unit) → Nat ⊕ (Unit)
  | _ => (bif ((ByteArray.toList y2 == ByteArray.toList (b))) then (.inl 0) else (.inr ()))

def k3b (y2 : ByteArray) (y3 : List ByteArray) (i : Nat) : (Unit) → k2k
  | _ => ((i : Int), (↑(List.length y3) : Int), y2, y3)

def kfr : k2k → Unit
  | (_, _, _, _) => ()

theorem ksy (y2 : ByteArray) (y3 : List ByteArray)  (hn : y3.length ≤ 9223372036854775807)  :
    k1e.fin ((0 : Int), (↑(List.length y3) : Int), y2, y3) = true ∧ k1e.res ((0 : Int), (↑(List.length y3) : Int), y2, y3) = ((walkL (k9j y2) 1 y3 0 ()).1, (k3b y2 y3) (walkL (k9j y2) 1 y3 0 ()).2.1 (walkL (k9j y2) 1 y3 0 ()).2.2) := by
  have key := k1e.along (k3b y2 y3) kfr (k9j y2) 1 (fun _ _ => True) y3 () (by trivial) (by simp only [k1e, k3b]; omega) (fun i b a hb hI => ?_) (fun a hI => ?_)
  · exact key
  · obtain ⟨⟩ := a
    have hlt := (List.getElem?_eq_some_iff.1 hb).1
    have hget : ∀ d, Option.getD y3[i]? d = b := fun d => by rw [hb]; rfl
    have hw := wrap64 hlt hn
    have hdec : ltI (i : Int) (y3.length : Int) = true := ltI_t (by omega)
    have hnn : leI (0 : Int) (i : Int) = true := leI_t (by omega)
    have hltd : ltN i y3.length = true := ltN_t hlt
    refine ⟨?_, ?_, ?_, ?_⟩
    · simp [k9h, k9m, k9g, k9l, k9i, k9k, k8p, k1e, LT.nds, allT, k3b, hdec, hnn, hltd, hget]
    · simp [k9h, k9m, k9g, k9l, k9i, k9k, k8p, k1e, LT.each, k3b, kfr, hw]
    · simp only [k9h, k9m, k9g, k9l, k9i, k9k, k8p, k1e, LT.fn, k3b, kfr, k9j, Int.toNat_natCast, hdec, hnn, hltd, hget, cond_true, Bool.cond_self]
    · exact fun _ _ => trivial
  · obtain ⟨⟩ := a
    simp [k9h, k9m, k9g, k9l, k9i, k9k, k8p, k1e, LT.out, k3b]

theorem key17 : tab0.length ≤ 9223372036854775807 := by decide

theorem k17i (s : ByteArray) : ltI (kpo s) 0 = !keyB s ∧ kpn s = true := by
  have e0 : krv = tab0 := rfl
  obtain ⟨w1, w2⟩ := k10y s tab0 key17
  rw [walk_stop (P := fun k => k.toList == s.toList) (j := 0) (fun k => rfl)] at w2
  simp only [kpo, kpn, kon, e0, w1, w2, allT, keyB, kas]
  cases tab0.any fun k => k.toList == s.toList with
  | false => exact ⟨rfl, rfl⟩
  | true =>
    simp only [cond_true, Nat.beq]
    refine ⟨?_, trivial⟩
    exact ltI_not.2 (by omega)

theorem k174 (s : ByteArray) : kuw s = keyB s ∧ kua s = true := by
  have e0 : List.drop (Int.toNat (0)) (List.take (Int.toNat (↑(List.length tab0))) tab0) = tab0 := rfl
  obtain ⟨w1, w2⟩ := ksy s tab0 key17
  rw [walk_stop (P := fun k => s.toList == k.toList) (j := 0) (fun k => rfl)] at w2
  have e1 : (fun k : ByteArray => s.toList == k.toList) = fun k => k.toList == s.toList := funext fun k => BEq.comm
  rw [e1] at w2
  simp only [kuw, kua, e0, kgj, kgh, khu, khy, ke1, w1, w2, allT, keyB, k3b]
  cases tab0.any fun k => k.toList == s.toList with
  | false => exact ⟨rfl, rfl⟩
  | true =>
    simp only [cond_true, Nat.beq]
    rw [leI_t (by omega)]; simp

def k11e : List SV → List Entry → Option Out
  | [.one ⟨false, [.val (.string x0)]⟩], [] => some ⟨(.one ⟨false, [(.val (.bool (wordB x0)))]⟩), [], [], [leN x0.size 9223372036854775807]⟩
  | _, _ => none

def k15t : PF Tryz.prog := PF.alt k15s k11e (by
  intro args es o h hnd; unfold k11e at h; split at h
  · rename_i x0
    cases h
    have hnd := nd_fst hnd
    have hh := k16n x0 hnd
    obtain ⟨e0, en⟩ := hh
    exact altok rfl (nd_one en) (by simp only [e0] <;> rfl) rfl rfl
  · cases h)

def k137 : List SV → List Entry → Option Out
  | [.one ⟨false, [.val (.string x0)]⟩], [] => some ⟨(.one ⟨false, [(.val (.bool (wordB x0)))]⟩), [], [], []⟩
  | _, _ => none

def k163 : PF Tryz.prog := PF.alt k161 k137 (by
  intro args es o h hnd; unfold k137 at h; split at h
  · rename_i x0
    cases h
    have hh := k16s x0
    obtain ⟨e0, en⟩ := hh
    exact altok rfl (nd_one en) (by simp only [e0] <;> rfl) rfl rfl
  · cases h)

def kyu : List SV → List Entry → Option Out
  | [.one ⟨false, [.val (.string x0)]⟩], [] => some ⟨(.one ⟨false, [(.val (.bool (keyB x0)))]⟩), [], [], []⟩
  | _, _ => none

def k14k : PF Tryz.prog := PF.alt k14c kyu (by
  intro args es o h hnd; unfold kyu at h; split at h
  · rename_i x0
    cases h
    have hh := k174 x0
    obtain ⟨e0, en⟩ := hh
    exact altok rfl (nd_one en) (by simp only [e0] <;> rfl) rfl rfl
  · cases h)

end Go.SX

namespace Go.SX
open Go.Proofs
set_option maxRecDepth 100000

def ktv (x0 : ByteArray) : Bool :=
  bif wordB x0 then ltI (kpo x0) (0 : Int) else false

def kts (x0 : ByteArray) : Bool :=
  allT [leN (ByteArray.size x0) (9223372036854775807 : Nat), !(wordB x0 && true) || kpn x0]

def k11k : List SV → List Entry → Option Out
  | [.one ⟨false, [.val (.string x0)]⟩], [] => some ⟨(.one ⟨false, [(.val (.bool (ktv x0)))]⟩), [], [], [(kts x0)]⟩
  | _, _ => none

def k15u : PF Tryz.prog := PF.ofG Tryz.prog [k15t, k143] [] hmix 239 Tryz.f239 Tryz.func239 (fun c _ => LOk.nil c) k11k (by
  intro vs es r h; unfold k11k at h; split at h
  · cases h; kernel_rfl
  · cases h)

def kuf (x0 : Int) : Bool :=
  bif bif bif x0 == (7 : Int) then true else x0 == (8 : Int) then true else x0 == (11 : Int) then true else x0 == (12 : Int)

def kz6 : List SV → List Entry → Option Out
  | [.one ⟨false, [.val (.int .i64 x0)]⟩], [] => some ⟨(.one ⟨false, [(.val (.bool (kuf x0)))]⟩), [], [], []⟩
  | _, _ => none

def k14f : PF Tryz.prog := PF.ofG Tryz.prog [] [] hmix 251 Tryz.f251 Tryz.func251 (fun c _ => LOk.nil c) kz6 (by
  intro vs es r h; unfold kz6 at h; split at h
  · cases h; kernel_rfl
  · cases h)

def kx7 (x0 : Int) : Bool :=
  k1u x0 (1 : Int) (12 : Int)

def k11j : List SV → List Entry → Option Out
  | [.one ⟨false, [.val (.int .i64 x0)]⟩], [] => some ⟨(.one ⟨false, [(.val (.bool (kx7 x0)))]⟩), [], [], []⟩
  | _, _ => none

def k15o : PF Tryz.prog := PF.ofG Tryz.prog [ki7] [] hmix 252 Tryz.f252 Tryz.func252 (fun c _ => LOk.nil c) k11j (by
  intro vs es r h; unfold k11j at h; split at h
  · cases h; kernel_rfl
  · cases h)

def kw1 (x0 : Int) (x2 : Int) : Bool :=
  bif bif !kx7 x0 then true else !k1u x2 (0 : Int) (9999 : Int) then true
  else bif !kuf x0 then x2 != (0 : Int) else false

def ktz (x0 : Int) (x1 : ByteArray) (x2 : Int) : Bool :=
  bif kw1 x0 x2 then false else bif x0 == (1 : Int) then ktv x1 else ByteArray.toList x1 == ByteArray.toList { data := #[] }

def ktu (x0 : Int) (x1 : ByteArray) (x2 : Int) : Bool :=
  allT [kw1 x0 x2 || (!x0 == (1 : Int) || kts x1)]

def k11x : List SV → List Entry → Option Out
  | [.one ⟨true, [.val (.int .i64 x0), .val (.string x1), .val (.int .i64 x2)]⟩], [] => some ⟨(.one ⟨false, [(.val (.bool (ktz x0 x1 x2)))]⟩), [], [], [(ktu x0 x1 x2)]⟩
  | _, _ => none

def k15p : PF Tryz.prog := PF.ofG Tryz.prog [ki7, k15u, k14f, k15o] [] hmix 212 Tryz.f212 Tryz.func212 (fun c _ => LOk.nil c) k11x (by
  intro vs es r h; unfold k11x at h; split at h
  · cases h; kernel_rfl
  · cases h)

def kwx (x0 : Int) (x1 : ByteArray) (x2 : Int) : Bool :=
  bif ktz x0 x1 x2 then leI (7 : Int) x0 else false

def kxs (x0 : Int) (x1 : ByteArray) (x2 : Int) : Bool :=
  allT [ktu x0 x1 x2]

def k11i : List SV → List Entry → Option Out
  | [.one ⟨true, [.val (.int .i64 x0), .val (.string x1), .val (.int .i64 x2)]⟩], [] => some ⟨(.one ⟨false, [(.val (.bool (kwx x0 x1 x2)))]⟩), [], [], [(kxs x0 x1 x2)]⟩
  | _, _ => none

def k15l : PF Tryz.prog := PF.ofG Tryz.prog [k15p] [] hmix 154 Tryz.f154 Tryz.func154 (fun c _ => LOk.nil c) k11i (by
  intro vs es r h; unfold k11i at h; split at h
  · cases h; kernel_rfl
  · cases h)

def kvd (x0 : ByteArray) : Bool :=
  bif wordB x0 then !keyB x0 else false

def k13h : List SV → List Entry → Option Out
  | [.one ⟨false, [.val (.string x0)]⟩], [] => some ⟨(.one ⟨false, [(.val (.bool (kvd x0)))]⟩), [], [], []⟩
  | _, _ => none

def k162 : PF Tryz.prog := PF.ofG Tryz.prog [k163, k14k] [] hmix 225 Tryz.f225 Tryz.func225 (fun c _ => LOk.nil c) k13h (by
  intro vs es r h; unfold k13h at h; split at h
  · cases h; kernel_rfl
  · cases h)

def kt7 (x0 : Int) : Bool :=
  bif bif bif x0 == (7 : Int) then true else x0 == (8 : Int) then true else x0 == (11 : Int) then true else x0 == (12 : Int)

def kxu : List SV → List Entry → Option Out
  | [.one ⟨false, [.val (.int .i64 x0)]⟩], [] => some ⟨(.one ⟨false, [(.val (.bool (kt7 x0)))]⟩), [], [], []⟩
  | _, _ => none

def k13z : PF Tryz.prog := PF.ofG Tryz.prog [] [] hmix 253 Tryz.f253 Tryz.func253 (fun c _ => LOk.nil c) kxu (by
  intro vs es r h; unfold kxu at h; split at h
  · cases h; kernel_rfl
  · cases h)

def kv8 (x0 : Int) (x1 : ByteArray) (x2 : Int) : Bool :=
  bif bif !k3s x0 (1 : Int) (12 : Int) then true else !(x0 == (1 : Int)) == !ByteArray.toList x1 == ByteArray.toList { data := #[] } then
  false
  else
  bif kt7 x0 then k3s x2 (0 : Int) (9999 : Int)
  else bif x2 == (0 : Int) then bif x0 != (1 : Int) then true else kvd x1 else false

def k13c : List SV → List Entry → Option Out
  | [.one ⟨true, [.val (.int .i64 x0), .val (.string x1), .val (.int .i64 x2)]⟩], [] => some ⟨(.one ⟨false, [(.val (.bool (kv8 x0 x1 x2)))]⟩), [], [], []⟩
  | _, _ => none

def k15z : PF Tryz.prog := PF.ofG Tryz.prog [ksx, k162, k13z] [] hmix 215 Tryz.f215 Tryz.func215 (fun c _ => LOk.nil c) k13c (by
  intro vs es r h; unfold k13c at h; split at h
  · cases h; kernel_rfl
  · cases h)

def kxe (x0 : Int) (x1 : ByteArray) (x2 : Int) : Bool :=
  bif kv8 x0 x1 x2 then leI (7 : Int) x0 else false

def k127 : List SV → List Entry → Option Out
  | [.one ⟨true, [.val (.int .i64 x0), .val (.string x1), .val (.int .i64 x2)]⟩], [] => some ⟨(.one ⟨false, [(.val (.bool (kxe x0 x1 x2)))]⟩), [], [], []⟩
  | _, _ => none

def k15h : PF Tryz.prog := PF.ofG Tryz.prog [k15z] [] hmix 161 Tryz.f161 Tryz.func161 (fun c _ => LOk.nil c) k127 (by
  intro vs es r h; unfold k127 at h; split at h
  · cases h; kernel_rfl
  · cases h)

def kiv (x0 : Int) (x2 : Int) (x3 : Int) (x4 : Int) (x5 : Int) : Bool :=
  bif bif x0 == (7 : Int) then x0 == (7 : Int) else x0 == (8 : Int) then
  bif bif k3s x3 (0 : Int) x2 then x4 == (0 : Int) else false then x5 == (0 : Int) else false
  else
  bif x0 == (11 : Int) then bif bif k3s x3 (0 : Int) x2 then k3s x4 (0 : Int) (1 : Int) else false then x5 == (0 : Int) else false
  else
    bif x0 == (12 : Int) then
      bif x4 == (0 : Int) then
        bif bif k3s x3 (0 : Int) x2 then x5 == (0 : Int) else false then true
        else bif x3 == IntKind.wrap IntKind.i64 (x2 + (1 : Int)) then x5 == (1 : Int) else false
      else false
    else bif bif k3s x3 (0 : Int) (1 : Int) then x4 == (0 : Int) else false then x5 == (0 : Int) else false

def ky1 : List SV → List Entry → Option Out
  | [.one ⟨true, [.val (.int .i64 x0), .val (.string _x1), .val (.int .i64 x2)]⟩, .one ⟨true, [.val (.int .i64 x3), .val (.int .i64 x4), .val (.int .i64 x5)]⟩], [] => some ⟨(.one ⟨false, [(.val (.bool (kiv x0 x2 x3 x4 x5)))]⟩), [], [], []⟩
  | _, _ => none

def kxv : PF Tryz.prog := PF.ofG Tryz.prog [ksx] [] hmix 185 Tryz.f185 Tryz.func185 (fun c _ => LOk.nil c) ky1 (by
  intro vs es r h; unfold ky1 at h; split at h
  · cases h; kernel_rfl
  · cases h)

def k2u (x0 : Int) (x2 : Int) (x3 : Int) (x4 : Int) (x5 : Int) : Bool :=
  bif bif x0 == (9 : Int) then x0 == (9 : Int) else x0 == (10 : Int) then
  bif bif k1u x3 (0 : Int) (1 : Int) then x4 == (0 : Int) else false then x5 == (0 : Int) else false
  else
  bif x0 == (11 : Int) then bif bif k1u x3 (0 : Int) x2 then k1u x4 (0 : Int) (1 : Int) else false then x5 == (0 : Int) else false
  else
    bif x0 == (12 : Int) then
      bif x4 == (0 : Int) then
        bif bif k1u x3 (0 : Int) x2 then x5 == (0 : Int) else false then true
        else bif x3 == IntKind.wrap IntKind.i64 (x2 + (1 : Int)) then x5 == (1 : Int) else false
      else false
    else bif bif k1u x3 (0 : Int) x2 then x4 == (0 : Int) else false then x5 == (0 : Int) else false

def kw8 : List SV → List Entry → Option Out
  | [.one ⟨true, [.val (.int .i64 x0), .val (.string _x1), .val (.int .i64 x2)]⟩, .one ⟨true, [.val (.int .i64 x3), .val (.int .i64 x4), .val (.int .i64 x5)]⟩], [] => some ⟨(.one ⟨false, [(.val (.bool (k2u x0 x2 x3 x4 x5)))]⟩), [], [], []⟩
  | _, _ => none

def kwb : PF Tryz.prog := PF.ofG Tryz.prog [ki7] [] hmix 169 Tryz.f169 Tryz.func169 (fun c _ => LOk.nil c) kw8 (by
  intro vs es r h; unfold kw8 at h; split at h
  · cases h; kernel_rfl
  · cases h)

end Go.SX

namespace Go.SX
open Go.Proofs
set_option maxRecDepth 100000

/-- Kinds of terms that have a number. -/
def countK (k : Int) : Bool := k == 7 || (k == 8 || (k == 11 || k == 12))
/-- A valid term. -/
def termB (k : Int) (s : ByteArray) (n : Int) : Bool := inR k 1 12 && (inR n 0 9999 && ((countK k || n == 0) && (bif k == 1 then nameB s else s.toList == [])))
/-- A valid block. -/
def blockB (k : Int) (s : ByteArray) (n : Int) : Bool := termB k s n && leI 7 k
/-- A possible state of a block. -/
def possB (k n a b c : Int) : Bool := k2u k n a b c

theorem k16l : ByteArray.toList { data := #[] } = [] := by rw [Go.Lib.toList_data]

theorem k18f {s : ByteArray} (h : nameB s = true) : (s.toList == []) = false := by
  simp only [nameB, wordB, Bool.and_eq_true, kul] at h
  have h1 : s.size = s.toList.length := by rw [Go.Lib.size_eq, Go.Lib.toList_data]
  cases hs : s.toList with
  | nil =>
    rw [hs] at h1
    have h2 : s.size = 0 := h1
    omega
  | cons a l => rfl

theorem n0_in {n : Int} (h : (n == 0) = true) : inR n 0 9999 = true := by
  have : n = 0 := by simpa using h
  rw [this]; rfl

theorem k16w (k : Int) (s : ByteArray) (n : Int) (h : leN s.size 9223372036854775807 = true) : ktz k s n = termB k s n ∧ ktu k s n = true := by
  obtain ⟨e1, e2⟩ := k17i s
  have e3 : ktv s = nameB s := by simp only [ktv, e1, nameB]; cases wordB s <;> rfl
  have e4 : kts s = true := by simp only [kts, e2, h, allT, Bool.or_true, cond_true]
  simp only [ktz, ktu, kw1, e3, e4, kx7, k1u, inR_eq, k16l, kuf, termB, countK, allT, Bool.or_true, cond_true]
  refine ⟨?_, trivial⟩
  simp only [bne]
  generalize (bif k == 1 then nameB s else s.toList == []) = q
  generalize inR k 1 12 = q1
  generalize inR n 0 9999 = q2
  generalize (k == 7) = q3
  generalize (k == 8) = q4
  generalize (k == 11) = q5
  generalize (k == 12) = q6
  generalize (n == 0) = q7
  revert q q1 q2 q3 q4 q5 q6 q7
  decide

theorem k16q (k : Int) (s : ByteArray) (n : Int) : kv8 k s n = termB k s n := by
  have e3 : kvd s = nameB s := by simp only [kvd, nameB]; cases wordB s <;> rfl
  simp only [kv8, e3, k3s, inR_eq, k16l, kt7, termB, countK]
  by_cases h1 : k = 1
  · subst h1
    have z7 : ((1 : Int) == 7) = false := rfl
    have z8 : ((1 : Int) == 8) = false := rfl
    have z11 : ((1 : Int) == 11) = false := rfl
    have z12 : ((1 : Int) == 12) = false := rfl
    have z1 : ((1 : Int) == 1) = true := rfl
    have zn : ((1 : Int) != 1) = false := rfl
    have zr : inR (1 : Int) 1 12 = true := rfl
    rw [z7, z8, z11, z12, z1, zn, zr]
    have hs : nameB s = true → (s.toList == []) = false := k18f
    have h0 : (n == 0) = true → inR n 0 9999 = true := n0_in
    generalize (s.toList == []) = q at hs ⊢
    generalize (n == 0) = q2 at h0 ⊢
    generalize inR n 0 9999 = q3 at h0 ⊢
    generalize nameB s = q4 at hs ⊢
    revert q q2 q3 q4
    decide
  · have z1 : (k == 1) = false := by simpa using h1
    have zn : (k != 1) = true := by simpa using h1
    rw [z1, zn]
    have h0 : (n == 0) = true → inR n 0 9999 = true := n0_in
    generalize (s.toList == []) = q
    generalize (n == 0) = q2 at h0 ⊢
    generalize inR n 0 9999 = q3 at h0 ⊢
    generalize inR k 1 12 = q1
    generalize (k == 7) = p3
    generalize (k == 8) = p4
    generalize (k == 11) = p5
    generalize (k == 12) = p6
    generalize nameB s = p7
    revert q q1 q2 q3 p3 p4 p5 p6 p7
    decide

theorem k16g (k : Int) (s : ByteArray) (n : Int) (h : leN s.size 9223372036854775807 = true) : kwx k s n = blockB k s n ∧ kxs k s n = true := by
  obtain ⟨e1, e2⟩ := k16w k s n h
  simp only [kwx, kxs, e1, e2, blockB, allT, cond_true]
  refine ⟨?_, trivial⟩
  cases termB k s n <;> rfl

theorem k16c (k : Int) (s : ByteArray) (n : Int) : kxe k s n = blockB k s n := by
  simp only [kxe, k16q, blockB]
  cases termB k s n <;> rfl

theorem k14i {k : Int} {s : ByteArray} {n : Int} (h : blockB k s n = true) : (7 ≤ k ∧ k ≤ 12) ∧ (0 ≤ n ∧ n ≤ 9999) ∧ (countK k = true ∨ n = 0) := by
  simp only [blockB, termB, Bool.and_eq_true, kul, leI_iff, Bool.or_eq_true, beq_iff_eq] at h
  obtain ⟨⟨h1, h2, h3, _⟩, h4⟩ := h
  exact ⟨⟨h4, h1.2⟩, h2, h3⟩

/-- The kinds of blocks. -/
theorem kinds {k : Int} (h : 7 ≤ k ∧ k ≤ 12) : k = 7 ∨ k = 8 ∨ k = 9 ∨ k = 10 ∨ k = 11 ∨ k = 12 := by omega

theorem k18d {k n a b c : Int} (h : 7 ≤ k ∧ k ≤ 12) : kiv k n a b c = possB k n a b c := by
  rcases kinds h with rfl | rfl | rfl | rfl | rfl | rfl <;> rfl

theorem k14l {k n a b c : Int} (h : possB k n a b c = true) (hn : 0 ≤ n ∧ n ≤ 9999) : (0 ≤ a ∧ a ≤ 10000) ∧ (b = 0 ∨ b = 1) ∧ (c = 0 ∨ c = 1) := by
  have hw : IntKind.i64.wrap (n + 1) = n + 1 := wrap_i64 (by omega) (by omega)
  simp only [possB, k2u, k1u, inR_eq, hw] at h
  cases h1 : (bif k == 9 then k == 9 else k == 10) with
  | true =>
    rw [h1] at h
    cases h2 : inR a 0 1 <;> rw [h2] at h <;> simp at h
    have := kul.1 h2
    omega
  | false =>
    rw [h1] at h
    cases h3 : k == 11 with
    | true =>
      rw [h3] at h
      cases h2 : inR a 0 n <;> cases h4 : inR b 0 1 <;> rw [h2] at h <;> simp [h4] at h
      have := kul.1 h2
      have := kul.1 h4
      omega
    | false =>
      rw [h3] at h
      cases h5 : k == 12 with
      | true =>
        rw [h5] at h
        cases h2 : inR a 0 n <;> rw [h2] at h <;> simp at h
        · omega
        · have := kul.1 h2
          omega
      | false =>
        rw [h5] at h
        cases h2 : inR a 0 n <;> rw [h2] at h <;> simp at h
        have := kul.1 h2
        omega

def k10z : List SV → List Entry → Option Out
  | [.one ⟨true, [.val (.int .i64 x0), .val (.string x1), .val (.int .i64 x2)]⟩], [] => some ⟨(.one ⟨false, [(.val (.bool (blockB x0 x1 x2)))]⟩), [], [], [leN x1.size 9223372036854775807]⟩
  | _, _ => none

def k114 : PF Tryz.prog := PF.alt k15l k10z (by
  intro args es o h hnd; unfold k10z at h; split at h
  · rename_i x0 x1 x2
    cases h
    have hnd := nd_fst hnd
    have hh := k16g x0 x1 x2 hnd
    obtain ⟨e0, en⟩ := hh
    exact altok rfl (nd_one en) (by simp only [e0] <;> rfl) rfl rfl
  · cases h)

def k11h : List SV → List Entry → Option Out
  | [.one ⟨true, [.val (.int .i64 x0), .val (.string x1), .val (.int .i64 x2)]⟩], [] => some ⟨(.one ⟨false, [(.val (.bool (blockB x0 x1 x2)))]⟩), [], [], []⟩
  | _, _ => none

def k11c : PF Tryz.prog := PF.alt k15h k11h (by
  intro args es o h hnd; unfold k11h at h; split at h
  · rename_i x0 x1 x2
    cases h
    have hh := k16c x0 x1 x2
    have e0 := hh
    exact altok rfl (fun _ h => by cases h) (by simp only [e0] <;> rfl) rfl rfl
  · cases h)

end Go.SX

namespace Go.SX
open Go.Proofs
set_option maxRecDepth 100000

def kx5 (x1 : ByteArray) (x3 : Int) : Int :=
  IntKind.wrap IntKind.i64 (x3 - (↑(ByteArray.size x1) : Int))

def kg9 (x1 : ByteArray) (x3 : Int) : Int :=
  bif ltI (kx5 x1 x3) (0 : Int) then (-1 : Int) else kx5 x1 x3

def k13f : List SV → List Entry → Option Out
  | [.one ⟨true, [.val (.int .i64 _x0), .val (.string x1), .val (.int .i64 _x2)]⟩, .one ⟨false, [.val (.int .i64 x3)]⟩], [] => some ⟨(.one ⟨false, [(.val (.int IntKind.i64 (kg9 x1 x3)))]⟩), [], [], []⟩
  | _, _ => none

def k13d : PF Tryz.prog := PF.ofG Tryz.prog [] [] hmix 152 Tryz.f152 Tryz.func152 (fun c _ => LOk.nil c) k13f (by
  intro vs es r h; unfold k13f at h; split at h
  · cases h; kernel_rfl
  · cases h)

def kn4 (x0 : Int) : Int :=
  bif bif x0 == (1 : Int) then x0 == (1 : Int) else bif x0 == (2 : Int) then x0 == (2 : Int) else x0 == (3 : Int) then (0 : Int)
  else
  bif
      bif x0 == (4 : Int) then x0 == (4 : Int)
      else bif x0 == (7 : Int) then x0 == (7 : Int) else bif x0 == (8 : Int) then x0 == (8 : Int) else x0 == (9 : Int) then
    (1 : Int)
  else (2 : Int)

def kzv : List SV → List Entry → Option Out
  | [.one ⟨false, [.val (.int .i64 x0)]⟩], [] => some ⟨(.one ⟨false, [(.val (.int IntKind.i64 (kn4 x0)))]⟩), [], [], []⟩
  | _, _ => none

def k14v : PF Tryz.prog := PF.ofG Tryz.prog [] [] hmix 224 Tryz.f224 Tryz.func224 (fun c _ => LOk.nil c) kzv (by
  intro vs es r h; unfold kzv at h; split at h
  · cases h; kernel_rfl
  · cases h)

abbrev kbt := Int × List Int

def kiu (y0 : Int) (y1 : List Int) : Bool :=
  ltI y0 (↑(List.length y1) : Int)

def km2 (y0 : Int) : Bool :=
  leI (0 : Int) y0

def kms (y0 : Int) (y1 : List Int) : Bool :=
  ltN (Int.toNat y0) (List.length y1)

def kmm (y0 : Int) (y1 : List Int) : Bool :=
  !k1u (Option.getD y1[Int.toNat y0]? (0 : Int)) (0 : Int) (1 : Int)

def kme (y0 : Int) : Int :=
  IntKind.wrap IntKind.i64 (y0 + (1 : Int))

def k12d : kbt → List (Nat × SV)
  | (y0, _) => [(5, (.one ⟨false, [(.val (.int IntKind.i64 y0))]⟩)), (0, (.one ⟨false, [(.ref 0)]⟩))]

def k12s : kbt → List (Nat × Entry)
  | (_, y1) => [(0, (.row false 2 (CTy.int IntKind.i64) y1))]

def k12c : Nat → kbt → List (Nat × SV)
  | 0, (_, _) => [(4, (.one ⟨false, [(.val (.bool false))]⟩))]
  | _, (_, _) => []

def k12f : Nat → kbt → List (Nat × Entry)
  | 0, (_, y1) => [(0, (.row false 2 (CTy.int IntKind.i64) y1))]
  | _, (_, y1) => [(0, (.row false 2 (CTy.int IntKind.i64) y1))]

def kkm : kbt → LT kbt
  | (y0, y1) => .ite (kiu y0 y1) (.need [(km2 y0), (kiu y0 y1), (kms y0 y1)] (.ite (kmm y0 y1) (.ext 0 [(0, 0)]) (.nrm ((kme y0), y1) [(0, 0)]))) (.ext 1 [(0, 0)])

def ks9 (s : St) : Option kbt :=
  (match s.look 5 with
  | some ⟨none, (.one ⟨false, [(.val (.int IntKind.i64 y0))]⟩)⟩ =>
  (match s.look 0 with
  | some ⟨none, (.one ⟨false, [(.ref 0)]⟩)⟩ =>
  (match s.ent 0 with
  | some (.row false 2 (CTy.int IntKind.i64) y1) =>
  some (y0, y1)
  | _ => none)
  | _ => none)
  | _ => none)

def k4v : Lp kbt where
  h := ⟨[6, 7, 8, 9, 12, 13, 14, 15, 16, 17, 4, 10, 11, 5], [0], [], []⟩
  JL := k12d
  JE := k12s
  XL := k12c
  XE := k12f
  q := fun j => match j with | 0 => .ret | _ => .exit 0
  tags := [0, 1]
  lt := kkm
  fuel := fun (y0, y1) => y0.natAbs + y1.length
  fix := fun (_, y1) (y0, _) => (y0, y1)
  σ := [(0, 0)]
  rd := ks9

theorem k10q : LoopOk Tryz.prog (fun k => Nat.blt k Tryz.f88.ntmps) k4v.F (loopAt Tryz.f88 0) := by
  refine Lp.ok (tbl := [ki7]) (lf := []) hmix k4v (by kernel_rfl) (LOk.nil _) (fun _ => rfl) (fun j _ => by unfold k4v; match j with | 0 => rfl | _ + 1 => rfl) ?_ ?_ ?_ ?_ (fun _ => rfl) ?_
  · intro x; obtain ⟨y0, y1⟩ := x; kernel_rfl
  · intro x; obtain ⟨y0, y1⟩ := x; kernel_rfl
  · intro s x h
    have h : ks9 s = some x := h
    unfold ks9 at h
    repeat' split at h
    all_goals cases h
    exact ⟨absS_cons (by assumption) rfl (absS_cons (by assumption) rfl (rfl)), absE_cons rfl (by assumption) rfl (rfl)⟩
  · intro x; obtain ⟨y0, y1⟩ := x; kernel_rfl
  · intro x z; obtain ⟨y0, y1⟩ := x; exact (And.intro (And.intro trivial rfl) trivial)

def kxh (x0 : Int) (x1 : List Int) : Bool :=
  bif Nat.beq (Prod.fst (Lp.res k4v ((0 : Int), x1))) (0 : Nat) then false else (↑(List.length x1) : Int) == x0

def kxb (x1 : List Int) : Bool :=
  allT [Lp.fin k4v ((0 : Int), x1)]

def k116 : List SV → List Entry → Option Out
  | [.one ⟨false, [.ref 0]⟩, .one ⟨false, [.val (.int .i64 x0)]⟩], [.row false 2 (.int .i64) x1] => some ⟨(.one ⟨false, [(.val (.bool (kxh x0 x1)))]⟩), [(.row false 2 (CTy.int IntKind.i64) x1)], [], [(kxb x1)]⟩
  | _, _ => none

def k15j : PF Tryz.prog := PF.ofG Tryz.prog [ki7] [k4v.F] hmix 88 Tryz.f88 Tryz.func88 (LOk.fnT (l := [loopAt Tryz.f88 0]) (by kernel_rfl) (.cons k10q (.nil _))) k116 (by
  intro vs es r h; unfold k116 at h; split at h
  · cases h; kernel_rfl
  · cases h)

def k7m (x0 : Bool) : Int :=
  bif x0 then (1 : Int) else (0 : Int)

def k13o : List SV → List Entry → Option Out
  | [.one ⟨false, [.val (.bool x0)]⟩], [] => some ⟨(.one ⟨false, [(.val (.int IntKind.i64 (k7m x0)))]⟩), [], [], []⟩
  | _, _ => none

def k13l : PF Tryz.prog := PF.ofG Tryz.prog [] [] hmix 244 Tryz.f244 Tryz.func244 (fun c _ => LOk.nil c) k13o (by
  intro vs es r h; unfold k13o at h; split at h
  · cases h; kernel_rfl
  · cases h)

def k65 (x3 : Int) (x4 : Int) (x5 : Int) : Bool :=
  bif bif x3 == (1 : Int) then x4 == (0 : Int) else false then x5 == (0 : Int) else false

def k71 (x3 : Int) (x4 : Int) (x5 : Int) : Bool :=
  (bif k65 x3 x4 x5 then (0 : Int) else x3) == (0 : Int)

def k7r (x3 : Int) (x4 : Int) (x5 : Int) : Bool :=
  bif k71 x3 x4 x5 then x4 != x5 else false

def k8v (x1 : Int) (x3 : Int) (x4 : Int) (x5 : Int) : Int :=
  IntKind.wrap IntKind.i64 ((bif k65 x3 x4 x5 then (0 : Int) else x1) + (1 : Int))

def k93 (x0 : Int) (x1 : Int) (x3 : Int) (x4 : Int) (x5 : Int) : Int :=
  bif k7r x3 x4 x5 then k7m (ltI x0 (k8v x1 x3 x4 x5))
  else bif k71 x3 x4 x5 then (0 : Int) else bif k65 x3 x4 x5 then (0 : Int) else x3

def kb1 (x0 : Int) (x1 : Int) (x3 : Int) (x4 : Int) (x5 : Int) : Int :=
  k7m (bif bif x4 == (1 : Int) then x5 == (1 : Int) else false then k93 x0 x1 x3 x4 x5 == (0 : Int) else false)

def kb2 (x1 : Int) (x3 : Int) (x4 : Int) (x5 : Int) : Int :=
  bif k7r x3 x4 x5 then k8v x1 x3 x4 x5
  else bif k71 x3 x4 x5 then (0 : Int) else bif k65 x3 x4 x5 then (0 : Int) else x1

def kay (x2 : Int) (x3 : Int) (x4 : Int) (x5 : Int) : Int :=
  bif k7r x3 x4 x5 then (0 : Int) else bif k71 x3 x4 x5 then (0 : Int) else bif k65 x3 x4 x5 then (0 : Int) else x2

def kb0 (x0 : Int) (x1 : Int) (x3 : Int) (x4 : Int) (x5 : Int) : Int :=
  k93 x0 x1 x3 x4 x5

def k11q : List SV → List Entry → Option Out
  | [.one ⟨false, [.val (.int .i64 x0)]⟩, .one ⟨true, [.val (.int .i64 x1), .val (.int .i64 x2), .val (.int .i64 x3)]⟩, .one ⟨false, [.val (.int .i64 x4)]⟩, .one ⟨false, [.val (.int .i64 x5)]⟩], [] => some ⟨(.tup [⟨false, [(.val (.int IntKind.i64 (kb1 x0 x1 x3 x4 x5)))]⟩, ⟨true, [(.val (.int IntKind.i64 (kb2 x1 x3 x4 x5))), (.val (.int IntKind.i64 (kay x2 x3 x4 x5))), (.val (.int IntKind.i64 (kb0 x0 x1 x3 x4 x5)))]⟩]), [], [], []⟩
  | _, _ => none

def k15n : PF Tryz.prog := PF.ofG Tryz.prog [k13l] [] hmix 245 Tryz.f245 Tryz.func245 (fun c _ => LOk.nil c) k11q (by
  intro vs es r h; unfold k11q at h; split at h
  · cases h; kernel_rfl
  · cases h)

def k2l (x6 : List Int) : Int :=
  Option.getD x6[Int.toNat (0 : Int)]? (0 : Int)

def k70 (x3 : Int) : Int :=
  IntKind.wrap IntKind.i64 (x3 + (1 : Int))

def k95 (x2 : Int) (x3 : Int) (x6 : List Int) : Int :=
  IntKind.wrap IntKind.i64 (ifLt (k70 x3) x2 (k70 x3) x2 * k2l x6)

def k58 (x6 : List Int) : Int :=
  bif ltI (1 : Int) (↑(List.length x6) : Int) then Option.getD x6[Int.toNat (1 : Int)]? (0 : Int) else (0 : Int)

def k90 (x3 : Int) (x6 : List Int) : Int :=
  bif k58 x6 == (1 : Int) then (0 : Int) else bif k2l x6 == (1 : Int) then (1 : Int) else x3

def k8y (x2 : Int) (x3 : Int) (x4 : Int) (x6 : List Int) : Int :=
  bif k58 x6 == (1 : Int) then (0 : Int)
  else bif bif k2l x6 == (1 : Int) then x4 == (0 : Int) else false then ifLt (k70 x3) x2 (k70 x3) x2 else x3

def k8w (x3 : Int) : Int :=
  IntKind.wrap IntKind.i64 (x3 - (1 : Int))

def k92 (x6 : List Int) : Int :=
  bif k2l x6 == (1 : Int) then (0 : Int) else (0 : Int)

def k7o (x6 : List Int) : Bool :=
  !ltI (1 : Int) (↑(List.length x6) : Int)

def k50 (x0 : Int) (x2 : Int) (x3 : Int) (x4 : Int) (x5 : Int) (x6 : List Int) : Int :=
  bif x0 == (7 : Int) then k7m (bif k2l x6 == (1 : Int) then k95 x2 x3 x6 == x2 else false)
  else
  bif x0 == (8 : Int) then bif k2l x6 == (1 : Int) then (1 : Int) else k7m (ltI (0 : Int) x3)
  else
    bif x0 == (9 : Int) then k7m (bif k2l x6 == (1 : Int) then x3 == (0 : Int) else false)
    else
      bif x0 == (10 : Int) then k90 x3 x6
      else
        bif x0 == (11 : Int) then k7m (k8y x2 x3 x4 x6 == x2)
        else kb1 x2 x3 x5 (k2l x6) (k58 x6)

def k7e (x0 : Int) (x2 : Int) (x3 : Int) (x4 : Int) (x5 : Int) (x6 : List Int) : Int :=
  bif x0 == (7 : Int) then k95 x2 x3 x6
  else
  bif x0 == (8 : Int) then bif k2l x6 == (1 : Int) then x2 else ifLt (0 : Int) (k8w x3) (k8w x3) (0 : Int)
  else
    bif x0 == (9 : Int) then k2l x6
    else
      bif x0 == (10 : Int) then k90 x3 x6
      else bif x0 == (11 : Int) then k8y x2 x3 x4 x6 else kb2 x3 x5 (k2l x6) (k58 x6)

def k7l (x0 : Int) (x4 : Int) (x5 : Int) (x6 : List Int) : Int :=
  bif x0 == (7 : Int) then (0 : Int)
  else
  bif x0 == (8 : Int) then k92 x6
  else
    bif x0 == (9 : Int) then (0 : Int)
    else
      bif x0 == (10 : Int) then (0 : Int)
      else bif x0 == (11 : Int) then k2l x6 else kay x4 x5 (k2l x6) (k58 x6)

def k7d (x0 : Int) (x2 : Int) (x3 : Int) (x5 : Int) (x6 : List Int) : Int :=
  bif x0 == (7 : Int) then (0 : Int)
  else
  bif x0 == (8 : Int) then k92 x6
  else
    bif x0 == (9 : Int) then (0 : Int)
    else
      bif x0 == (10 : Int) then (0 : Int)
      else bif x0 == (11 : Int) then (0 : Int) else kb0 x2 x3 x5 (k2l x6) (k58 x6)

def k9q (x6 : List Int) : Bool :=
  allT
  [ltI (0 : Int) (↑(List.length x6) : Int), ltN (Int.toNat (0 : Int)) (List.length x6), k7o x6 || leI (0 : Int) (1 : Int),
    k7o x6 || ltI (1 : Int) (↑(List.length x6) : Int), k7o x6 || ltN (Int.toNat (1 : Int)) (List.length x6)]

def k112 : List SV → List Entry → Option Out
  | [.one ⟨true, [.val (.int .i64 x0), .val (.string _x1), .val (.int .i64 x2)]⟩, .one ⟨true, [.val (.int .i64 x3), .val (.int .i64 x4), .val (.int .i64 x5)]⟩, .one ⟨false, [.ref 0]⟩], [.row false 2 (.int .i64) x6] => some ⟨(.tup [⟨false, [(.val (.int IntKind.i64 (k50 x0 x2 x3 x4 x5 x6)))]⟩, ⟨true, [(.val (.int IntKind.i64 (k7e x0 x2 x3 x4 x5 x6))), (.val (.int IntKind.i64 (k7l x0 x4 x5 x6))), (.val (.int IntKind.i64 (k7d x0 x2 x3 x5 x6)))]⟩]), [(.row false 2 (CTy.int IntKind.i64) x6)], [], [(k9q x6)]⟩
  | _, _ => none

def kwy : PF Tryz.prog := PF.ofG Tryz.prog [k13l, k15n] [] hmix 190 Tryz.f190 Tryz.func190 (fun c _ => LOk.nil c) k112 (by
  intro vs es r h; unfold k112 at h; split at h
  · cases h; kernel_rfl
  · cases h)

def k13p : List SV → List Entry → Option Out
  | [.one ⟨true, [.val (.int .i64 x0), .val (.string x1), .val (.int .i64 x2)]⟩], [] => some ⟨(.one ⟨true, [(.val (.int IntKind.i64 x0)), (.val (.string x1)), (.val (.int IntKind.i64 x2))]⟩), [], [], []⟩
  | _, _ => none

def k13n : PF Tryz.prog := PF.ofG Tryz.prog [] [] hmix 156 Tryz.f156 Tryz.func156 (fun c _ => LOk.nil c) k13p (by
  intro vs es r h; unfold k13p at h; split at h
  · cases h; kernel_rfl
  · cases h)

def k14j (x0 : Int) : Bool :=
  bif x0 != (0 : Int) then x0 != (1 : Int) else false

def kz4 : List SV → List Entry → Option Out
  | [.one ⟨false, [.val (.int .i64 x0)]⟩], [] => some ⟨(.one ⟨false, [(.val (.bool (k14j x0)))]⟩), [], [], []⟩
  | _, _ => none

def k14g : PF Tryz.prog := PF.ofG Tryz.prog [] [] hmix 219 Tryz.f219 Tryz.func219 (fun c _ => LOk.nil c) kz4 (by
  intro vs es r h; unfold kz4 at h; split at h
  · cases h; kernel_rfl
  · cases h)

def kji (x0 : Int) : Bool :=
  bif x0 != (0 : Int) then x0 != (1 : Int) else false

def ksw : List SV → List Entry → Option Out
  | [(.one ⟨false, [(.val (.int IntKind.i64 x0))]⟩)], [] => some ⟨(.one ⟨false, [(.val (.bool (kji x0)))]⟩), [], [], []⟩
  | _, _ => none

def kt2 : PF Tryz.prog := PF.ofG Tryz.prog [] [] hmix 219 Tryz.f219 Tryz.func219 (fun c _ => LOk.nil c) ksw (by
  intro vs es r h; unfold ksw at h; split at h
  · cases h; kernel_rfl
  · cases h)

abbrev k1o := Int × Int × List Int

def k4m (y0 : Int) (y1 : Int) : Bool :=
  ltI y0 y1

def k4q (y0 : Int) : Bool :=
  leI (0 : Int) y0

def k4p (y0 : Int) (y2 : List Int) : Bool :=
  ltI y0 (↑(List.length y2) : Int)

def k4o (y0 : Int) (y2 : List Int) : Bool :=
  ltN (Int.toNat y0) (List.length y2)

def k4t (y0 : Int) (y2 : List Int) : Bool :=
  kji (Option.getD y2[Int.toNat y0]? (0 : Int))

def k4s (y0 : Int) : Int :=
  IntKind.wrap IntKind.i64 (y0 + (1 : Int))

def kno : k1o → List (Nat × SV)
  | (y0, y1, _) => [(8, (.one ⟨false, [(.val (.int IntKind.i64 y0))]⟩)), (7, (.one ⟨false, [(.val (.int IntKind.i64 y1))]⟩)), (1, (.one ⟨false, [(.val (.func (.func 219) ⟨[]⟩ ⟨[]⟩))]⟩)), (0, (.one ⟨false, [(.ref 0)]⟩))]

def knn : k1o → List (Nat × Entry)
  | (_, _, y2) => [(0, (.row false 2 (CTy.int IntKind.i64) y2))]

def knq : Nat → k1o → List (Nat × SV)
  | 0, (y0, _, _) => [(4, (.one ⟨false, [(.val (.int IntKind.i64 y0))]⟩))]
  | _, (_, _, _) => []

def knp : Nat → k1o → List (Nat × Entry)
  | 0, (_, _, y2) => [(0, (.row false 2 (CTy.int IntKind.i64) y2))]
  | _, (_, _, y2) => [(0, (.row false 2 (CTy.int IntKind.i64) y2))]

def k4g : k1o → LT k1o
  | (y0, y1, y2) => .ite (k4m y0 y1) (.need [(k4q y0), (k4p y0 y2), (k4o y0 y2)] (.ite (k4t y0 y2) (.ext 0 [(0, 0)]) (.nrm ((k4s y0), y1, y2) [(0, 0)]))) (.ext 1 [(0, 0)])

def kb4 (s : St) : Option k1o :=
  (match s.look 8 with
  | some ⟨none, (.one ⟨false, [(.val (.int IntKind.i64 y0))]⟩)⟩ =>
  (match s.look 7 with
  | some ⟨none, (.one ⟨false, [(.val (.int IntKind.i64 y1))]⟩)⟩ =>
  (match s.look 1 with
  | some ⟨none, (.one ⟨false, [(.val (.func (.func 219) ⟨[]⟩ ⟨[]⟩))]⟩)⟩ =>
  (match s.look 0 with
  | some ⟨none, (.one ⟨false, [(.ref 0)]⟩)⟩ =>
  (match s.ent 0 with
  | some (.row false 2 (CTy.int IntKind.i64) y2) =>
  some (y0, y1, y2)
  | _ => none)
  | _ => none)
  | _ => none)
  | _ => none)
  | _ => none)

def ky : Lp k1o where
  h := ⟨[9, 10, 5, 11, 12, 13, 14, 15, 16, 17, 4, 18, 8], [0], [], []⟩
  JL := kno
  JE := knn
  XL := knq
  XE := knp
  q := fun j => match j with | 0 => .ret | _ => .exit 0
  tags := [0, 1]
  lt := k4g
  fuel := fun (y0, y1, y2) => y0.natAbs + y1.natAbs + y2.length
  fix := fun (_, y1, y2) (y0, _, _) => (y0, y1, y2)
  σ := [(0, 0)]
  rd := kb4

theorem kmr : LoopOk Tryz.prog (fun k => Nat.blt k Tryz.f255.ntmps) ky.F (loopAt Tryz.f255 0) := by
  refine Lp.ok (tbl := [kt2]) (lf := []) hmix ky (by kernel_rfl) (LOk.nil _) (fun _ => rfl) (fun j _ => by unfold ky; match j with | 0 => rfl | _ + 1 => rfl) ?_ ?_ ?_ ?_ (fun _ => rfl) ?_
  · intro x; obtain ⟨y0, y1, y2⟩ := x; kernel_rfl
  · intro x; obtain ⟨y0, y1, y2⟩ := x; kernel_rfl
  · intro s x h
    have h : kb4 s = some x := h
    unfold kb4 at h
    repeat' split at h
    all_goals cases h
    exact ⟨absS_cons (by assumption) rfl (absS_cons (by assumption) rfl (absS_cons (by assumption) rfl (absS_cons (by assumption) rfl (rfl)))), absE_cons rfl (by assumption) rfl (rfl)⟩
  · intro x; obtain ⟨y0, y1, y2⟩ := x; kernel_rfl
  · intro x z; obtain ⟨y0, y1, y2⟩ := x; exact (And.intro (And.intro trivial rfl) trivial)

def k8e (x0 : List Int) : Int × Int × List Int :=
  ((0 : Int), (↑(List.length x0) : Int), x0)

def kcu (x0 : List Int) : Int :=
  bif Nat.beq (Prod.fst (Lp.res ky (k8e x0))) (0 : Nat) then
  Prod.fst (Prod.snd (Lp.res ky (k8e x0)))
  else (-1 : Int)

def kcw (x0 : List Int) : Bool :=
  allT [Lp.fin ky (k8e x0)]

def kh8 : List SV → List Entry → Option Out
  | [(.one ⟨false, [(.ref 0)]⟩), (.one ⟨false, [(.val (.func (.func 219) ⟨[]⟩ ⟨[]⟩))]⟩)], [(.row false 2 (CTy.int IntKind.i64) x0)] => some ⟨(.one ⟨false, [(.val (.int IntKind.i64 (kcu x0)))]⟩), [(.row false 2 (CTy.int IntKind.i64) x0)], [], [(kcw x0)]⟩
  | _, _ => none

def kd2 : PF Tryz.prog := PF.ofG Tryz.prog [kt2] [ky.F] hmix 255 Tryz.f255 Tryz.func255 (LOk.fnT (l := [loopAt Tryz.f255 0]) (by kernel_rfl) (.cons kmr (.nil _))) kh8 (by
  intro vs es r h; unfold kh8 at h; split at h
  · cases h; kernel_rfl
  · cases h)

def kbf (x0 : List Int) : Bool :=
  leI (0 : Int) (kcu x0)

def kbh (x0 : List Int) : Bool :=
  allT [kcw x0]

def kgg : List SV → List Entry → Option Out
  | [(.one ⟨false, [(.ref 0)]⟩), (.one ⟨false, [(.val (.func (.func 219) ⟨[]⟩ ⟨[]⟩))]⟩)], [(.row false 2 (CTy.int IntKind.i64) x0)] => some ⟨(.one ⟨false, [(.val (.bool (kbf x0)))]⟩), [(.row false 2 (CTy.int IntKind.i64) x0)], [], [(kbh x0)]⟩
  | _, _ => none

def kbj : PF Tryz.prog := PF.ofG Tryz.prog [kd2, PF.lend kd2, PF.fz kd2] [] hmix 218 Tryz.f218 Tryz.func218 (fun c _ => LOk.nil c) kgg (by
  intro vs es r h; unfold kgg at h; split at h
  · cases h; kernel_rfl
  · cases h)

def kwz (x0 : Int) (x1 : List Int) : Bool :=
  bif (↑(List.length x1) : Int) == x0 then !kbf x1 else false

def kww (x0 : Int) (x1 : List Int) : Bool :=
  allT [!((↑(List.length x1) : Int) == x0 && true) || kbh x1]

def k11y : List SV → List Entry → Option Out
  | [.one ⟨false, [.ref 0]⟩, .one ⟨false, [.val (.int .i64 x0)]⟩], [.row false 2 (.int .i64) x1] => some ⟨(.one ⟨false, [(.val (.bool (kwz x0 x1)))]⟩), [(.row false 2 (CTy.int IntKind.i64) x1)], [], [(kww x0 x1)]⟩
  | _, _ => none

def k15v : PF Tryz.prog := PF.ofG Tryz.prog [k14g, kbj, PF.lend kbj, PF.fz kbj] [] hmix 165 Tryz.f165 Tryz.func165 (fun c _ => LOk.nil c) k11y (by
  intro vs es r h; unfold k11y at h; split at h
  · cases h; kernel_rfl
  · cases h)

def kc8 (x0 : Bool) : Int :=
  bif x0 then (1 : Int) else (0 : Int)

def k14p : List SV → List Entry → Option Out
  | [.one ⟨false, [.val (.bool x0)]⟩], [] => some ⟨(.one ⟨false, [(.val (.int IntKind.i64 (kc8 x0)))]⟩), [], [], []⟩
  | _, _ => none

def k10c : PF Tryz.prog := PF.ofG Tryz.prog [] [] hmix 269 Tryz.f269 Tryz.func269 (fun c _ => LOk.nil c) k14p (by
  intro vs es r h; unfold k14p at h; split at h
  · cases h; kernel_rfl
  · cases h)

def kez (x2 : Int) (x4 : Bool) : Bool :=
  bif x4 then x2 == (0 : Int) else false

def kf3 (x1 : Int) : Int :=
  IntKind.wrap IntKind.i64 (x1 + (1 : Int))

def kew (x0 : Int) (x1 : Int) (x2 : Int) (x4 : Bool) (x5 : Bool) : Int :=
  bif x5 then (0 : Int) else bif kez x2 x4 then ifLt x0 (kf3 x1) x0 (kf3 x1) else x1

def kg8 (x0 : Int) (x1 : Int) (x2 : Int) (x4 : Bool) (x5 : Bool) : Int :=
  kc8 (kew x0 x1 x2 x4 x5 == x0)

def kgc (x0 : Int) (x1 : Int) (x2 : Int) (x4 : Bool) (x5 : Bool) : Int :=
  kew x0 x1 x2 x4 x5

def kgk (x4 : Bool) : Int :=
  kc8 x4

def kg6 (x2 : Int) (x3 : Int) (x4 : Bool) (x5 : Bool) : Int :=
  bif x5 then x3 else bif kez x2 x4 then x3 else x3

def kyj : List SV → List Entry → Option Out
  | [.one ⟨false, [.val (.int .i64 x0)]⟩, .one ⟨true, [.val (.int .i64 x1), .val (.int .i64 x2), .val (.int .i64 x3)]⟩, .one ⟨false, [.val (.bool x4)]⟩, .one ⟨false, [.val (.bool x5)]⟩], [] => some ⟨(.tup [⟨false, [(.val (.int IntKind.i64 (kg8 x0 x1 x2 x4 x5)))]⟩, ⟨true, [(.val (.int IntKind.i64 (kgc x0 x1 x2 x4 x5))), (.val (.int IntKind.i64 (kgk x4))), (.val (.int IntKind.i64 (kg6 x2 x3 x4 x5)))]⟩]), [], [], []⟩
  | _, _ => none

def k14r : PF Tryz.prog := PF.ofG Tryz.prog [k10c] [] hmix 270 Tryz.f270 Tryz.func270 (fun c _ => LOk.nil c) kyj (by
  intro vs es r h; unfold kyj at h; split at h
  · cases h; kernel_rfl
  · cases h)

def k7g (x3 : Int) (x4 : Bool) (x5 : Bool) : Bool :=
  bif bif x3 == (1 : Int) then !x4 else false then !x5 else false

def kcq (x3 : Int) (x4 : Bool) (x5 : Bool) : Bool :=
  (bif k7g x3 x4 x5 then (0 : Int) else x3) == (0 : Int)

def keg (x3 : Int) (x4 : Bool) (x5 : Bool) : Bool :=
  bif kcq x3 x4 x5 then !x4 == x5 else false

def kgl (x1 : Int) (x3 : Int) (x4 : Bool) (x5 : Bool) : Int :=
  IntKind.wrap IntKind.i64 ((bif k7g x3 x4 x5 then (0 : Int) else x1) + (1 : Int))

def kgi (x0 : Int) (x1 : Int) (x3 : Int) (x4 : Bool) (x5 : Bool) : Int :=
  bif keg x3 x4 x5 then kc8 (ltI x0 (kgl x1 x3 x4 x5))
  else bif kcq x3 x4 x5 then bif k7g x3 x4 x5 then (0 : Int) else x3 else bif k7g x3 x4 x5 then (0 : Int) else x3

def khb (x0 : Int) (x1 : Int) (x3 : Int) (x4 : Bool) (x5 : Bool) : Int :=
  kc8 (bif bif x4 then x5 else false then kgi x0 x1 x3 x4 x5 == (0 : Int) else false)

def kh9 (x1 : Int) (x3 : Int) (x4 : Bool) (x5 : Bool) : Int :=
  bif keg x3 x4 x5 then kgl x1 x3 x4 x5
  else bif kcq x3 x4 x5 then (0 : Int) else bif k7g x3 x4 x5 then (0 : Int) else x1

def kha (x2 : Int) (x3 : Int) (x4 : Bool) (x5 : Bool) : Int :=
  bif keg x3 x4 x5 then bif k7g x3 x4 x5 then x2 else x2
  else bif kcq x3 x4 x5 then bif k7g x3 x4 x5 then x2 else x2 else bif k7g x3 x4 x5 then x2 else x2

def khc (x0 : Int) (x1 : Int) (x3 : Int) (x4 : Bool) (x5 : Bool) : Int :=
  kgi x0 x1 x3 x4 x5

def kzw : List SV → List Entry → Option Out
  | [.one ⟨false, [.val (.int .i64 x0)]⟩, .one ⟨true, [.val (.int .i64 x1), .val (.int .i64 x2), .val (.int .i64 x3)]⟩, .one ⟨false, [.val (.bool x4)]⟩, .one ⟨false, [.val (.bool x5)]⟩], [] => some ⟨(.tup [⟨false, [(.val (.int IntKind.i64 (khb x0 x1 x3 x4 x5)))]⟩, ⟨true, [(.val (.int IntKind.i64 (kh9 x1 x3 x4 x5))), (.val (.int IntKind.i64 (kha x2 x3 x4 x5))), (.val (.int IntKind.i64 (khc x0 x1 x3 x4 x5)))]⟩]), [], [], []⟩
  | _, _ => none

def k14z : PF Tryz.prog := PF.ofG Tryz.prog [k10c] [] hmix 271 Tryz.f271 Tryz.func271 (fun c _ => LOk.nil c) kzw (by
  intro vs es r h; unfold kzw at h; split at h
  · cases h; kernel_rfl
  · cases h)

def k59 (x6 : List Int) : Bool :=
  Option.getD x6[Int.toNat (0 : Int)]? (0 : Int) == (1 : Int)

def knv (x3 : Int) : Int :=
  IntKind.wrap IntKind.i64 (x3 + (1 : Int))

def kob (x2 : Int) (x3 : Int) (x6 : List Int) : Int :=
  IntKind.wrap IntKind.i64 (kc8 (k59 x6) * ifLt x2 (knv x3) x2 (knv x3))

def kjq (x6 : List Int) : Int :=
  IntKind.wrap IntKind.i64 ((↑(List.length x6) : Int) - (1 : Int))

def kc9 (x6 : List Int) : Bool :=
  Option.getD x6[Int.toNat (kjq x6)]? (0 : Int) == (1 : Int)

def knw (x3 : Int) (x6 : List Int) : Int :=
  bif kc9 x6 then (0 : Int) else bif k59 x6 then (1 : Int) else x3

def ko9 (x3 : Int) : Int :=
  IntKind.wrap IntKind.i64 (x3 - (1 : Int))

def kor (x0 : Int) (x2 : Int) (x3 : Int) (x4 : Int) (x5 : Int) (x6 : List Int) : Int :=
  bif x0 == (7 : Int) then kc8 (bif k59 x6 then kob x2 x3 x6 == x2 else false)
  else
  bif x0 == (8 : Int) then bif k59 x6 then (1 : Int) else kc8 (ltI (0 : Int) x3)
  else
    bif x0 == (9 : Int) then kc8 (bif k59 x6 then x3 == (0 : Int) else false)
    else
      bif x0 == (10 : Int) then knw x3 x6
      else
        bif x0 == (11 : Int) then kg8 x2 x3 x4 (k59 x6) (kc9 x6)
        else khb x2 x3 x5 (k59 x6) (kc9 x6)

def kn7 (x0 : Int) (x2 : Int) (x3 : Int) (x4 : Int) (x5 : Int) (x6 : List Int) : Int :=
  bif x0 == (7 : Int) then kob x2 x3 x6
  else
  bif x0 == (8 : Int) then bif k59 x6 then x2 else ifLt (ko9 x3) (0 : Int) (0 : Int) (ko9 x3)
  else
    bif x0 == (9 : Int) then kc8 (k59 x6)
    else
      bif x0 == (10 : Int) then knw x3 x6
      else
        bif x0 == (11 : Int) then kgc x2 x3 x4 (k59 x6) (kc9 x6)
        else kh9 x3 x5 (k59 x6) (kc9 x6)

def kn3 (x0 : Int) (x4 : Int) (x5 : Int) (x6 : List Int) : Int :=
  bif x0 == (7 : Int) then x4
  else
  bif x0 == (8 : Int) then bif k59 x6 then x4 else x4
  else
    bif x0 == (9 : Int) then x4
    else
      bif x0 == (10 : Int) then bif kc9 x6 then x4 else bif k59 x6 then x4 else x4
      else bif x0 == (11 : Int) then kgk (k59 x6) else kha x4 x5 (k59 x6) (kc9 x6)

def kn5 (x0 : Int) (x2 : Int) (x3 : Int) (x4 : Int) (x5 : Int) (x6 : List Int) : Int :=
  bif x0 == (7 : Int) then x5
  else
  bif x0 == (8 : Int) then bif k59 x6 then x5 else x5
  else
    bif x0 == (9 : Int) then x5
    else
      bif x0 == (10 : Int) then bif kc9 x6 then x5 else bif k59 x6 then x5 else x5
      else
        bif x0 == (11 : Int) then kg6 x4 x5 (k59 x6) (kc9 x6)
        else khc x2 x3 x5 (k59 x6) (kc9 x6)

def kom (x6 : List Int) : Bool :=
  allT
  [ltI (0 : Int) (↑(List.length x6) : Int), ltN (Int.toNat (0 : Int)) (List.length x6), leI (0 : Int) (kjq x6),
    ltI (kjq x6) (↑(List.length x6) : Int), ltN (Int.toNat (kjq x6)) (List.length x6)]

def k159 : List SV → List Entry → Option Out
  | [.one ⟨true, [.val (.int .i64 x0), .val (.string _x1), .val (.int .i64 x2)]⟩, .one ⟨true, [.val (.int .i64 x3), .val (.int .i64 x4), .val (.int .i64 x5)]⟩, .one ⟨false, [.ref 0]⟩], [.row false 2 (.int .i64) x6] => some ⟨(.tup [⟨false, [(.val (.int IntKind.i64 (kor x0 x2 x3 x4 x5 x6)))]⟩, ⟨true, [(.val (.int IntKind.i64 (kn7 x0 x2 x3 x4 x5 x6))), (.val (.int IntKind.i64 (kn3 x0 x4 x5 x6))), (.val (.int IntKind.i64 (kn5 x0 x2 x3 x4 x5 x6)))]⟩]), [(.row false 2 (CTy.int IntKind.i64) x6)], [], [(kom x6)]⟩
  | _, _ => none

def k12m : PF Tryz.prog := PF.ofG Tryz.prog [k10c, k14r, k14z] [] hmix 246 Tryz.f246 Tryz.func246 (fun c _ => LOk.nil c) k159 (by
  intro vs es r h; unfold k159 at h; split at h
  · cases h; kernel_rfl
  · cases h)

def kvo : List SV → List Entry → Option Out
  | [.one ⟨true, [.val (.int .i64 x0), .val (.int .i64 x1), .val (.int .i64 x2)]⟩], [] => some ⟨(.one ⟨true, [(.val (.int IntKind.i64 x0)), (.val (.int IntKind.i64 x1)), (.val (.int IntKind.i64 x2))]⟩), [], [], []⟩
  | _, _ => none

def kvb : PF Tryz.prog := PF.ofG Tryz.prog [] [] hmix 170 Tryz.f170 Tryz.func170 (fun c _ => LOk.nil c) kvo (by
  intro vs es r h; unfold kvo at h; split at h
  · cases h; kernel_rfl
  · cases h)

def kjc (x0 : Int) (x1 : Int) (x2 : Int) (x3 : Int) (x4 : Int) (x5 : Int) : Bool :=
  bif x0 != x3 then false else bif x1 != x4 then false else bif x2 != x5 then false else true

def kvc : List SV → List Entry → Option Out
  | [.one ⟨true, [.val (.int .i64 x0), .val (.int .i64 x1), .val (.int .i64 x2)]⟩, .one ⟨true, [.val (.int .i64 x3), .val (.int .i64 x4), .val (.int .i64 x5)]⟩], [] => some ⟨(.one ⟨false, [(.val (.bool (kjc x0 x1 x2 x3 x4 x5)))]⟩), [], [], []⟩
  | _, _ => none

def kvi : PF Tryz.prog := PF.ofG Tryz.prog [] [] hmix 171 Tryz.f171 Tryz.func171 (fun c _ => LOk.nil c) kvc (by
  intro vs es r h; unfold kvc at h; split at h
  · cases h; kernel_rfl
  · cases h)

end Go.SX

namespace Go.SX
open Go.Proofs
set_option maxRecDepth 100000

/-- So many bits. -/
def bitsB (n : Int) (l : List Int) : Bool := l.all (fun v => inR v 0 1) && ((l.length : Int) == n)
/-- How many values a term of a kind takes. -/
def takesK (k : Int) : Int := kn4 k

theorem keh {n : Int} {l : List Int} : bitsB n l = true ↔ (∀ v ∈ l, v = 0 ∨ v = 1) ∧ (l.length : Int) = n := by
  simp only [bitsB, Bool.and_eq_true, List.all_eq_true, kul, beq_iff_eq]
  constructor
  · rintro ⟨h1, h2⟩; exact ⟨fun v hv => by have := h1 v hv; omega, h2⟩
  · rintro ⟨h1, h2⟩; exact ⟨fun v hv => by have := h1 v hv; omega, h2⟩

def kis  (b : Int) : (Unit) → Nat ⊕ (Unit)
  | _ => (bif ((!k1u (b) (0 : Int) (1 : Int))) then (.inl 0) else (.inr ()))

def kft (y1 : List Int) (i : Nat) : (Unit) → kbt
  | _ => ((i : Int), y1)

def kry : kbt → Unit
  | (_, _) => ()

theorem k13t (y1 : List Int)  (hn : y1.length ≤ 9223372036854775807)  :
    k4v.fin ((0 : Int), y1) = true ∧ k4v.res ((0 : Int), y1) = ((walkL (kis) 1 y1 0 ()).1, (kft y1) (walkL (kis) 1 y1 0 ()).2.1 (walkL (kis) 1 y1 0 ()).2.2) := by
  have key := k4v.along (kft y1) kry (kis) 1 (fun _ _ => True) y1 () (by trivial) (by simp only [k4v, kft]; omega) (fun i b a hb hI => ?_) (fun a hI => ?_)
  · exact key
  · obtain ⟨⟩ := a
    have hlt := (List.getElem?_eq_some_iff.1 hb).1
    have hget : ∀ d, Option.getD y1[i]? d = b := fun d => by rw [hb]; rfl
    have hw := wrap64 hlt hn
    have hdec : ltI (i : Int) (y1.length : Int) = true := ltI_t (by omega)
    have hnn : leI (0 : Int) (i : Int) = true := leI_t (by omega)
    have hltd : ltN i y1.length = true := ltN_t hlt
    refine ⟨?_, ?_, ?_, ?_⟩
    · simp [kiu, km2, kms, kmm, kme, kkm, k4v, LT.nds, allT, kft, hdec, hnn, hltd, hget]
    · simp [kiu, km2, kms, kmm, kme, kkm, k4v, LT.each, kft, kry, hw]
    · simp only [kiu, km2, kms, kmm, kme, kkm, k4v, LT.fn, kft, kry, kis, Int.toNat_natCast, hdec, hnn, hltd, hget, cond_true, Bool.cond_self]
    · exact fun _ _ => trivial
  · obtain ⟨⟩ := a
    simp [kiu, km2, kms, kmm, kme, kkm, k4v, LT.out, kft]

def k39  (b : Int) : (Unit) → Nat ⊕ (Unit)
  | _ => (bif ((kji (b))) then (.inl 0) else (.inr ()))

def k25 (y2 : List Int) (i : Nat) : (Unit) → k1o
  | _ => ((i : Int), (↑(List.length y2) : Int), y2)

def kb3 : k1o → Unit
  | (_, _, _) => ()

theorem kny (y2 : List Int)  (hn : y2.length ≤ 9223372036854775807)  :
    ky.fin ((0 : Int), (↑(List.length y2) : Int), y2) = true ∧ ky.res ((0 : Int), (↑(List.length y2) : Int), y2) = ((walkL (k39) 1 y2 0 ()).1, (k25 y2) (walkL (k39) 1 y2 0 ()).2.1 (walkL (k39) 1 y2 0 ()).2.2) := by
  have key := ky.along (k25 y2) kb3 (k39) 1 (fun _ _ => True) y2 () (by trivial) (by simp only [ky, k25]; omega) (fun i b a hb hI => ?_) (fun a hI => ?_)
  · exact key
  · obtain ⟨⟩ := a
    have hlt := (List.getElem?_eq_some_iff.1 hb).1
    have hget : ∀ d, Option.getD y2[i]? d = b := fun d => by rw [hb]; rfl
    have hw := wrap64 hlt hn
    have hdec : ltI (i : Int) (y2.length : Int) = true := ltI_t (by omega)
    have hnn : leI (0 : Int) (i : Int) = true := leI_t (by omega)
    have hltd : ltN i y2.length = true := ltN_t hlt
    refine ⟨?_, ?_, ?_, ?_⟩
    · simp [k4m, k4q, k4p, k4o, k4t, k4s, k4g, ky, LT.nds, allT, k25, hdec, hnn, hltd, hget]
    · simp [k4m, k4q, k4p, k4o, k4t, k4s, k4g, ky, LT.each, k25, kb3, hw]
    · simp only [k4m, k4q, k4p, k4o, k4t, k4s, k4g, ky, LT.fn, k25, kb3, k39, Int.toNat_natCast, hdec, hnn, hltd, hget, cond_true, Bool.cond_self]
    · exact fun _ _ => trivial
  · obtain ⟨⟩ := a
    simp [k4m, k4q, k4p, k4o, k4t, k4s, k4g, ky, LT.out, k25]

theorem k16t (n : Int) (l : List Int) (h : leN l.length 9223372036854775807 = true) : kxh n l = bitsB n l ∧ kxb l = true := by
  obtain ⟨w1, w2⟩ := k13t l (leN_iff.1 h)
  rw [walk_stop (P := fun v => !inR v 0 1) (j := 0) (fun v => by simp only [kis, k1u, inR_eq])] at w2
  have e5 : (l.any fun v => !inR v 0 1) = !l.all fun v => inR v 0 1 := by simp [List.all_eq_not_any_not]
  rw [e5] at w2
  simp only [kxh, kxb, w1, w2, allT, bitsB]
  cases (l.all fun v => inR v 0 1) <;> simp [Nat.beq]

theorem bit_in (v : Int) : (bif v != 0 then v != 1 else false) = !inR v 0 1 := by
  have : inR v 0 1 = (v == 0 || v == 1) := by rw [Bool.eq_iff_iff, kul]; simp; omega
  rw [this]
  cases h0 : v == 0 <;> simp [bne, h0]

theorem k16p (n : Int) (l : List Int) (h : leN l.length 9223372036854775807 = true) : kwz n l = bitsB n l ∧ kww n l = true := by
  obtain ⟨w1, w2⟩ := kny l (leN_iff.1 h)
  rw [walk_stop (P := fun v => !inR v 0 1) (j := 0) (fun v => by simp only [k39, kji, bit_in])] at w2
  have e5 : (l.any fun v => !inR v 0 1) = !l.all fun v => inR v 0 1 := by simp [List.all_eq_not_any_not]
  rw [e5] at w2
  have q : ∀ m : Nat, leI 0 (m : Int) = true := fun m => leI_t (by omega)
  have q2 : leI 0 (-1) = false := rfl
  simp only [kwz, kww, kbf, kbh, kcu, kcw, k8e, w1, w2, allT, bitsB, k25]
  cases (l.all fun v => inR v 0 1) <;> cases ((l.length : Int) == n) <;> simp [Nat.beq, q, q2]

theorem k158 (p q : Int) : ifLt p q p q = min p q := by rw [ifLt_eq]; cases h : ltI p q <;> simp <;> simp at h <;> omega
theorem k15a (p q : Int) : ifLt p q q p = max p q := by rw [ifLt_eq]; cases h : ltI p q <;> simp <;> simp at h <;> omega

theorem k134 {l : List Int} (h : bitsB 1 l = true) : ∃ x, l = [x] ∧ (x = 0 ∨ x = 1) := by
  obtain ⟨h1, h2⟩ := keh.1 h
  match l, h1, h2 with
  | [x], h1, _ => exact ⟨x, rfl, h1 x (by simp)⟩
  | [], _, h2 => simp at h2
  | _ :: _ :: _, _, h2 => simp at h2; omega

theorem k12t {l : List Int} (h : bitsB 2 l = true) : ∃ x y, l = [x, y] ∧ (x = 0 ∨ x = 1) ∧ (y = 0 ∨ y = 1) := by
  obtain ⟨h1, h2⟩ := keh.1 h
  match l, h1, h2 with
  | [x, y], h1, _ => exact ⟨x, y, rfl, h1 x (by simp), h1 y (by simp)⟩
  | [], _, h2 => simp at h2
  | [_], _, h2 => simp at h2
  | _ :: _ :: _ :: _, _, h2 => simp at h2; omega

/-- The program's step and the reference's. -/
theorem k17b {k n a b c : Int} {s : ByteArray} {l : List Int} (hB : blockB k s n = true) (hP : possB k n a b c = true) (hA : bitsB (takesK k) l = true) :
    kor k n a b c l = k50 k n a b c l ∧ kn7 k n a b c l = k7e k n a b c l ∧
    kn3 k b c l = k7l k b c l ∧ kn5 k n a b c l = k7d k n a c l ∧ kom l = true ∧ k9q l = true ∧
    possB k n (k7e k n a b c l) (k7l k b c l) (k7d k n a c l) = true := by
  obtain ⟨hk, hn, _⟩ := k14i hB
  have hw : IntKind.i64.wrap (n + 1) = n + 1 := wrap_i64 (by omega) (by omega)
  have hwa := (k14l hP hn).1
  have hwa1 : IntKind.i64.wrap (a + 1) = a + 1 := wrap_i64 (by omega) (by omega)
  have hwa2 : IntKind.i64.wrap (a - 1) = a - 1 := wrap_i64 (by omega) (by omega)
  have hm : IntKind.i64.wrap (min (a + 1) n) = min (a + 1) n := wrap_i64 (by omega) (by omega)
  have hm2 : IntKind.i64.wrap (min n (a + 1)) = min n (a + 1) := wrap_i64 (by omega) (by omega)
  have h01 : IntKind.i64.wrap (0 + 1) = 1 := rfl
  have n0 : IntKind.i64.wrap 0 = 0 := rfl
  have w1 : IntKind.i64.wrap 1 = 1 := rfl
  have l12 : ltI 1 2 = true := rfl
  have hb := (k14l hP hn).2.1
  have hc := (k14l hP hn).2.2
  rcases kinds hk with rfl | rfl | rfl | rfl | rfl | rfl
  · obtain ⟨x, rfl, hx⟩ := k134 hA
    have hp := hP
    simp [possB, k2u, k1u] at hp
    rcases hx with rfl | rfl <;> simp only [k59, knv, kob, kjq, kc9, knw, ko9, kor, kn7, kn3, kn5, kom, kez, kf3, kew, kg8, kgc, kgk, kg6, k7g, kcq, keg, kgl, kgi, khb, kh9, kha, khc, kc8, k2l, k70, k95, k58, k90, k8y, k8w, k92, k7o, k50, k7e, k7l, k7d, k9q, k65, k71, k7r, k8v, k93, kb1, kb2, kay, kb0, k7m, possB, k2u, k1u, allT, k158, k15a] <;> simp [hw, hwa1, hwa2, hm, hm2, h01, n0, w1, l12, hp, Bool.cond_eq_ite] <;> (repeat' split) <;> omega
  · obtain ⟨x, rfl, hx⟩ := k134 hA
    have hp := hP
    simp [possB, k2u, k1u] at hp
    rcases hx with rfl | rfl <;> simp only [k59, knv, kob, kjq, kc9, knw, ko9, kor, kn7, kn3, kn5, kom, kez, kf3, kew, kg8, kgc, kgk, kg6, k7g, kcq, keg, kgl, kgi, khb, kh9, kha, khc, kc8, k2l, k70, k95, k58, k90, k8y, k8w, k92, k7o, k50, k7e, k7l, k7d, k9q, k65, k71, k7r, k8v, k93, kb1, kb2, kay, kb0, k7m, possB, k2u, k1u, allT, k158, k15a] <;> simp [hw, hwa1, hwa2, hm, hm2, h01, n0, w1, l12, hp, Bool.cond_eq_ite] <;> (repeat' split) <;> omega
  · obtain ⟨x, rfl, hx⟩ := k134 hA
    have hp := hP
    simp [possB, k2u, k1u] at hp
    rcases hx with rfl | rfl <;> simp only [k59, knv, kob, kjq, kc9, knw, ko9, kor, kn7, kn3, kn5, kom, kez, kf3, kew, kg8, kgc, kgk, kg6, k7g, kcq, keg, kgl, kgi, khb, kh9, kha, khc, kc8, k2l, k70, k95, k58, k90, k8y, k8w, k92, k7o, k50, k7e, k7l, k7d, k9q, k65, k71, k7r, k8v, k93, kb1, kb2, kay, kb0, k7m, possB, k2u, k1u, allT, k158, k15a] <;> simp [hw, hwa1, hwa2, hm, hm2, h01, n0, w1, l12, hp, Bool.cond_eq_ite] <;> (repeat' split) <;> omega
  · obtain ⟨x, y, rfl, hx, hy⟩ := k12t hA
    have hp := hP
    simp [possB, k2u, k1u] at hp
    rcases hx with rfl | rfl <;> rcases hy with rfl | rfl <;> simp only [k59, knv, kob, kjq, kc9, knw, ko9, kor, kn7, kn3, kn5, kom, kez, kf3, kew, kg8, kgc, kgk, kg6, k7g, kcq, keg, kgl, kgi, khb, kh9, kha, khc, kc8, k2l, k70, k95, k58, k90, k8y, k8w, k92, k7o, k50, k7e, k7l, k7d, k9q, k65, k71, k7r, k8v, k93, kb1, kb2, kay, kb0, k7m, possB, k2u, k1u, allT, k158, k15a] <;> simp [hw, hwa1, hwa2, hm, hm2, h01, n0, w1, l12, hp, Bool.cond_eq_ite] <;> (repeat' split) <;> omega
  · obtain ⟨x, y, rfl, hx, hy⟩ := k12t hA
    have hp := hP
    rcases hb with rfl | rfl <;> rcases hc with rfl | rfl <;> rcases hx with rfl | rfl <;> rcases hy with rfl | rfl <;> simp [possB, k2u, k1u, hw] at hp <;> simp only [k59, knv, kob, kjq, kc9, knw, ko9, kor, kn7, kn3, kn5, kom, kez, kf3, kew, kg8, kgc, kgk, kg6, k7g, kcq, keg, kgl, kgi, khb, kh9, kha, khc, kc8, k2l, k70, k95, k58, k90, k8y, k8w, k92, k7o, k50, k7e, k7l, k7d, k9q, k65, k71, k7r, k8v, k93, kb1, kb2, kay, kb0, k7m, possB, k2u, k1u, allT, k158, k15a] <;> simp [hw, hwa1, hwa2, hm, hm2, h01, n0, w1, l12, hp, Bool.cond_eq_ite] <;> (repeat' split) <;> omega
  · obtain ⟨x, y, rfl, hx, hy⟩ := k12t hA
    have hp := hP
    rcases hb with rfl | rfl <;> rcases hc with rfl | rfl <;> rcases hx with rfl | rfl <;> rcases hy with rfl | rfl <;> simp [possB, k2u, k1u, hw] at hp <;> simp only [k59, knv, kob, kjq, kc9, knw, ko9, kor, kn7, kn3, kn5, kom, kez, kf3, kew, kg8, kgc, kgk, kg6, k7g, kcq, keg, kgl, kgi, khb, kh9, kha, khc, kc8, k2l, k70, k95, k58, k90, k8y, k8w, k92, k7o, k50, k7e, k7l, k7d, k9q, k65, k71, k7r, k8v, k93, kb1, kb2, kay, kb0, k7m, possB, k2u, k1u, allT, k158, k15a] <;> simp [hw, hwa1, hwa2, hm, hm2, h01, n0, w1, l12, hp, Bool.cond_eq_ite] <;> (repeat' split) <;> omega

def k125 : List SV → List Entry → Option Out
  | [.one ⟨false, [.ref 0]⟩, .one ⟨false, [.val (.int .i64 x0)]⟩], [.row false 2 (.int .i64) x1] => some ⟨(.one ⟨false, [(.val (.bool (bitsB x0 x1)))]⟩), [(.row false 2 (CTy.int IntKind.i64) x1)], [], [leN x1.length 9223372036854775807]⟩
  | _, _ => none

def kda : PF Tryz.prog := PF.alt k15j k125 (by
  intro args es o h hnd; unfold k125 at h; split at h
  · rename_i x0 x1
    cases h
    have hnd := nd_fst hnd
    have hh := k16t x0 x1 hnd
    obtain ⟨e0, en⟩ := hh
    exact altok rfl (nd_one en) (by simp only [e0] <;> rfl) rfl rfl
  · cases h)

def k11f : List SV → List Entry → Option Out
  | [.one ⟨false, [.ref 0]⟩, .one ⟨false, [.val (.int .i64 x0)]⟩], [.row false 2 (.int .i64) x1] => some ⟨(.one ⟨false, [(.val (.bool (bitsB x0 x1)))]⟩), [(.row false 2 (CTy.int IntKind.i64) x1)], [], [leN x1.length 9223372036854775807]⟩
  | _, _ => none

def kdb : PF Tryz.prog := PF.alt k15v k11f (by
  intro args es o h hnd; unfold k11f at h; split at h
  · rename_i x0 x1
    cases h
    have hnd := nd_fst hnd
    have hh := k16p x0 x1 hnd
    obtain ⟨e0, en⟩ := hh
    exact altok rfl (nd_one en) (by simp only [e0] <;> rfl) rfl rfl
  · cases h)

end Go.SX

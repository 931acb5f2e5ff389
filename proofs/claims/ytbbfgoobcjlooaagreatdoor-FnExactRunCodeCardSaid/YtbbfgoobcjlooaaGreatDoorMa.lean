/- What functions of the program come to, and what that says in plain words: part 1. -/
import Derived.Test.YtbbfgoobcjlooaaGreatDoorTXh
import Derived.Test.YtbbfgoobcjlooaaGreatDoorProg
set_option linter.unusedSimpArgs false
set_option linter.unusedVariables false
namespace Go.SX
open Go.Proofs
set_option maxRecDepth 100000
theorem hmix : Tryz.prog.follows .mixedOrders = true := by kernel_rfl

def krq (x0 : Int) (x1 : List Int) : Int :=
  IntKind.wrap IntKind.i64 (x0 - (↑(List.length x1) : Int))

def ksv (x0 : Int) (x1 : List Int) : Int :=
  bif ltI (krq x0 x1) (0 : Int) then (-1 : Int) else krq x0 x1

def kxp : List SV → List Entry → Option Out
  | [.one ⟨false, [.ref 0]⟩, .one ⟨false, [.val (.int .i64 x0)]⟩], [.row false 2 (.int .i64) x1] => some ⟨(.one ⟨false, [(.val (.int IntKind.i64 (ksv x0 x1)))]⟩), [(.row false 2 (CTy.int IntKind.i64) x1)], [], []⟩
  | _, _ => none

def k12l : PF Tryz.prog := PF.ofG Tryz.prog [] [] hmix 86 Tryz.f86 Tryz.func86 (fun c _ => LOk.nil c) kxp (by
  intro vs es r h; unfold kxp at h; split at h
  · cases h; kernel_rfl
  · cases h)

def k1r (x0 : Int) (x1 : Int) (x2 : Int) : Bool :=
  bif leI x1 x0 then leI x0 x2 else false

def k123 : List SV → List Entry → Option Out
  | [.one ⟨false, [.val (.int .i64 x0)]⟩, .one ⟨false, [.val (.int .i64 x1)]⟩, .one ⟨false, [.val (.int .i64 x2)]⟩], [] => some ⟨(.one ⟨false, [(.val (.bool (k1r x0 x1 x2)))]⟩), [], [], []⟩
  | _, _ => none

def ki1 : PF Tryz.prog := PF.ofG Tryz.prog [] [] hmix 153 Tryz.f153 Tryz.func153 (fun c _ => LOk.nil c) k123 (by
  intro vs es r h; unfold k123 at h; split at h
  · cases h; kernel_rfl
  · cases h)

def kvt (x0 : List Int) : Bool :=
  allT [leN ((0 : Nat) + List.length x0) (9223372036854775807 : Nat), leN (((0 : Nat) + List.length x0) * (8 : Nat)) (140737488355328 : Nat)]

def k11b : List SV → List Entry → Option Out
  | [.one ⟨false, [.ref 0]⟩], [.row false 2 (.int .i64) x0] => some ⟨(.one ⟨false, [(.ref 1)]⟩), [(.row false 2 (CTy.int IntKind.i64) x0)], [(.row true 2 (CTy.int IntKind.i64) x0)], [(kvt x0)]⟩
  | _, _ => none

def k13n : PF Tryz.prog := PF.ofG Tryz.prog [] [] hmix 173 Tryz.f173 Tryz.func173 (fun c _ => LOk.nil c) k11b (by
  intro vs es r h; unfold k11b at h; split at h
  · cases h; kernel_rfl
  · cases h)

abbrev k8f := Int × List Int × List Int

def kfl (y0 : Int) (y1 : List Int) : Bool :=
  ltI y0 (↑(List.length y1) : Int)

def kfm (y0 : Int) : Bool :=
  leI (0 : Int) y0

def kiw (y0 : Int) (y1 : List Int) : Bool :=
  ltN (Int.toNat y0) (List.length y1)

def kir (y0 : Int) (y2 : List Int) : Bool :=
  ltI y0 (↑(List.length y2) : Int)

def kim (y0 : Int) (y2 : List Int) : Bool :=
  ltN (Int.toNat y0) (List.length y2)

def kis (y0 : Int) : Int :=
  IntKind.wrap IntKind.i64 (y0 + (1 : Int))

def kjb (y0 : Int) (y1 : List Int) (y2 : List Int) : List Int :=
  List.set y2 (Int.toNat y0) (Option.getD y1[Int.toNat y0]? (0 : Int))

def kzu : k8f → List (Nat × SV)
  | (y0, _, _) => [(4, (.one ⟨false, [(.val (.int IntKind.i64 y0))]⟩)), (0, (.one ⟨false, [(.ref 0)]⟩)), (3, (.one ⟨false, [(.ref 1)]⟩))]

def kz4 : k8f → List (Nat × Entry)
  | (_, y1, y2) => [(0, (.row false 2 (CTy.int IntKind.i64) y1)), (1, (.row true 2 (CTy.int IntKind.i64) y2))]

def kyw : Nat → k8f → List (Nat × SV)
  | _, (_, _, _) => []

def kzt : Nat → k8f → List (Nat × Entry)
  | _, (_, y1, y2) => [(0, (.row false 2 (CTy.int IntKind.i64) y1)), (1, (.row true 2 (CTy.int IntKind.i64) y2))]

def kht : k8f → LT k8f
  | (y0, y1, y2) => .ite (kfl y0 y1) (.need [(kfm y0), (kfl y0 y1), (kiw y0 y1), (kfm y0), (kir y0 y2), (kim y0 y2)] (.nrm ((kis y0), y1, (kjb y0 y1 y2)) [(0, 0), (1, 1)])) (.ext 0 [(0, 0), (1, 1)])

def ko6 (s : St) : Option k8f :=
  (match s.look 4 with
  | some ⟨none, (.one ⟨false, [(.val (.int IntKind.i64 y0))]⟩)⟩ =>
  (match s.look 0 with
  | some ⟨none, (.one ⟨false, [(.ref 0)]⟩)⟩ =>
  (match s.look 3 with
  | some ⟨none, (.one ⟨false, [(.ref 320)]⟩)⟩ =>
  (match s.ent 0 with
  | some (.row false 2 (CTy.int IntKind.i64) y1) =>
  (match s.ent 320 with
  | some (.row true 2 (CTy.int IntKind.i64) y2) =>
  some (y0, y1, y2)
  | _ => none)
  | _ => none)
  | _ => none)
  | _ => none)
  | _ => none)

def k42 : Lp k8f where
  h := ⟨[8, 9, 10, 11, 14, 15, 16, 17, 18, 19, 20, 12, 13, 4], [0, 1], [], []⟩
  JL := kzu
  JE := kz4
  XL := kyw
  XE := kzt
  q := fun j => match j with | _ => .exit 0
  tags := [0]
  lt := kht
  fuel := fun (y0, y1, y2) => y0.natAbs + y1.length + y2.length
  fix := fun (_, y1, _) (y0, _, y2) => (y0, y1, y2)
  σ := [(0, 0), (1, 320)]
  rd := ko6

theorem kws : LoopOk Tryz.prog (fun k => Nat.blt k Tryz.f29.ntmps) k42.F (loopAt Tryz.f29 0) := by
  refine Lp.ok (tbl := []) (lf := []) hmix k42 (by kernel_rfl) (LOk.nil _) (fun _ => rfl) (fun _ _ => rfl) ?_ ?_ ?_ ?_ (fun _ => rfl) ?_
  · intro x; obtain ⟨y0, y1, y2⟩ := x; kernel_rfl
  · intro x; obtain ⟨y0, y1, y2⟩ := x; kernel_rfl
  · intro s x h
    have h : ko6 s = some x := h
    unfold ko6 at h
    repeat' split at h
    all_goals cases h
    exact ⟨absS_cons (by assumption) rfl (absS_cons (by assumption) rfl (absS_cons (by assumption) rfl (rfl))), absE_cons rfl (by assumption) rfl (absE_cons rfl (by assumption) rfl (rfl))⟩
  · intro x; obtain ⟨y0, y1, y2⟩ := x; kernel_rfl
  · intro x z; obtain ⟨y0, y1, y2⟩ := x; exact (And.intro rfl trivial)

def ko4 (x0 : List Int) : Int × List Int × List Int :=
  ((0 : Int), x0, List.replicate (Int.toNat (↑(List.length x0) : Int)) (0 : Int))

def kpn (x0 : List Int) : List Int :=
  Prod.snd (Prod.snd (Prod.snd (Lp.res k42 (ko4 x0))))

def kpr (x0 : List Int) : Bool :=
  allT
  [leI (0 : Int) (↑(List.length x0) : Int), leI (↑(List.length x0) : Int) (↑(List.length x0) : Int),
    leI ((↑(8 : Nat) : Int) * (↑(List.length x0) : Int)) (281474976710656 : Int), leI (↑(List.length x0) : Int) (9223372036854775807 : Int),
    Lp.fin k42 (ko4 x0)]

def kxv : List SV → List Entry → Option Out
  | [.one ⟨false, [.ref 0]⟩], [.row false 2 (.int .i64) x0] => some ⟨(.one ⟨false, [(.ref 1)]⟩), [(.row false 2 (CTy.int IntKind.i64) x0)], [(.row true 2 (CTy.int IntKind.i64) (kpn x0))], [(kpr x0)]⟩
  | _, _ => none

def k12k : PF Tryz.prog := PF.ofG Tryz.prog [] [k42.F] hmix 29 Tryz.f29 Tryz.func29 (LOk.fnT (l := [loopAt Tryz.f29 0]) (by kernel_rfl) (.cons kws (.nil _))) kxv (by
  intro vs es r h; unfold kxv at h; split at h
  · cases h; kernel_rfl
  · cases h)

def k9e (x0 : Int) (x1 : Int) (x2 : Int) : Bool :=
  bif leI x1 x0 then leI x0 x2 else false

def k10t : List SV → List Entry → Option Out
  | [.one ⟨false, [.val (.int .i64 x0)]⟩, .one ⟨false, [.val (.int .i64 x1)]⟩, .one ⟨false, [.val (.int .i64 x2)]⟩], [] => some ⟨(.one ⟨false, [(.val (.bool (k9e x0 x1 x2)))]⟩), [], [], []⟩
  | _, _ => none

def ksi : PF Tryz.prog := PF.ofG Tryz.prog [] [] hmix 158 Tryz.f158 Tryz.func158 (fun c _ => LOk.nil c) k10t (by
  intro vs es r h; unfold k10t at h; split at h
  · cases h; kernel_rfl
  · cases h)

def ke5 (x0 : List Int) : Bool :=
  allT
  [ltN (0 : Nat) (List.length x0), false || leN ((0 : Nat) + List.length x0) (9223372036854775807 : Nat),
    false || leN (((0 : Nat) + List.length x0) * (8 : Nat)) (140737488355328 : Nat)]

def knc : List SV → List Entry → Option Out
  | [.one ⟨false, [.ref 0]⟩], [.row false 2 (.int .i64) x0] => some ⟨(.one ⟨false, [(.ref 1)]⟩), [(.row false 2 (CTy.int IntKind.i64) x0)], [(.row true 2 (CTy.int IntKind.i64) x0)], [(ke5 x0)]⟩
  | _, _ => none

def ksx : PF Tryz.prog := PF.ofG Tryz.prog [] [] hmix 194 Tryz.f194 Tryz.func194 (fun c _ => LOk.nil c) knc (by
  intro vs es r h; unfold knc at h; split at h
  · cases h; kernel_rfl
  · cases h)

abbrev k8k := Int × List Int × List Int

def kfk (y0 : Int) (y1 : List Int) : Bool :=
  ltI y0 (↑(List.length y1) : Int)

def kfp (y0 : Int) : Bool :=
  leI (0 : Int) y0

def kj8 (y0 : Int) (y1 : List Int) : Bool :=
  ltN (Int.toNat y0) (List.length y1)

def kix (y0 : Int) (y2 : List Int) : Bool :=
  ltI y0 (↑(List.length y2) : Int)

def kin (y0 : Int) (y2 : List Int) : Bool :=
  ltN (Int.toNat y0) (List.length y2)

def kj4 (y0 : Int) (y1 : List Int) (y2 : List Int) : Bool :=
  Option.getD y1[Int.toNat y0]? (0 : Int) != Option.getD y2[Int.toNat y0]? (0 : Int)

def kj9 (y0 : Int) : Int :=
  IntKind.wrap IntKind.i64 (y0 + (1 : Int))

def kz0 : k8k → List (Nat × SV)
  | (y0, _, _) => [(5, (.one ⟨false, [(.val (.int IntKind.i64 y0))]⟩)), (0, (.one ⟨false, [(.ref 0)]⟩)), (1, (.one ⟨false, [(.ref 1)]⟩))]

def kz2 : k8k → List (Nat × Entry)
  | (_, y1, y2) => [(0, (.row false 2 (CTy.int IntKind.i64) y1)), (1, (.row false 2 (CTy.int IntKind.i64) y2))]

def kzs : Nat → k8k → List (Nat × SV)
  | 0, (_, _, _) => [(4, (.one ⟨false, [(.val (.bool false))]⟩))]
  | _, (_, _, _) => []

def kys : Nat → k8k → List (Nat × Entry)
  | 0, (_, y1, y2) => [(0, (.row false 2 (CTy.int IntKind.i64) y1)), (1, (.row false 2 (CTy.int IntKind.i64) y2))]
  | _, (_, y1, y2) => [(0, (.row false 2 (CTy.int IntKind.i64) y1)), (1, (.row false 2 (CTy.int IntKind.i64) y2))]

def khh : k8k → LT k8k
  | (y0, y1, y2) => .ite (kfk y0 y1) (.need [(kfp y0), (kfk y0 y1), (kj8 y0 y1), (kfp y0), (kix y0 y2), (kin y0 y2)] (.ite (kj4 y0 y1 y2) (.ext 0 [(0, 0), (1, 1)]) (.nrm ((kj9 y0), y1, y2) [(0, 0), (1, 1)]))) (.ext 1 [(0, 0), (1, 1)])

def ko8 (s : St) : Option k8k :=
  (match s.look 5 with
  | some ⟨none, (.one ⟨false, [(.val (.int IntKind.i64 y0))]⟩)⟩ =>
  (match s.look 0 with
  | some ⟨none, (.one ⟨false, [(.ref 0)]⟩)⟩ =>
  (match s.look 1 with
  | some ⟨none, (.one ⟨false, [(.ref 1)]⟩)⟩ =>
  (match s.ent 0 with
  | some (.row false 2 (CTy.int IntKind.i64) y1) =>
  (match s.ent 1 with
  | some (.row false 2 (CTy.int IntKind.i64) y2) =>
  some (y0, y1, y2)
  | _ => none)
  | _ => none)
  | _ => none)
  | _ => none)
  | _ => none)

def k3d : Lp k8k where
  h := ⟨[11, 12, 13, 14, 17, 18, 19, 20, 21, 22, 23, 24, 25, 4, 15, 16, 5], [0, 1], [], []⟩
  JL := kz0
  JE := kz2
  XL := kzs
  XE := kys
  q := fun j => match j with | 0 => .ret | _ => .exit 0
  tags := [0, 1]
  lt := khh
  fuel := fun (y0, y1, y2) => y0.natAbs + y1.length + y2.length
  fix := fun (_, y1, y2) (y0, _, _) => (y0, y1, y2)
  σ := [(0, 0), (1, 1)]
  rd := ko8

theorem kx5 : LoopOk Tryz.prog (fun k => Nat.blt k Tryz.f31.ntmps) k3d.F (loopAt Tryz.f31 0) := by
  refine Lp.ok (tbl := []) (lf := []) hmix k3d (by kernel_rfl) (LOk.nil _) (fun _ => rfl) (fun j _ => by unfold k3d; match j with | 0 => rfl | _ + 1 => rfl) ?_ ?_ ?_ ?_ (fun _ => rfl) ?_
  · intro x; obtain ⟨y0, y1, y2⟩ := x; kernel_rfl
  · intro x; obtain ⟨y0, y1, y2⟩ := x; kernel_rfl
  · intro s x h
    have h : ko8 s = some x := h
    unfold ko8 at h
    repeat' split at h
    all_goals cases h
    exact ⟨absS_cons (by assumption) rfl (absS_cons (by assumption) rfl (absS_cons (by assumption) rfl (rfl))), absE_cons rfl (by assumption) rfl (absE_cons rfl (by assumption) rfl (rfl))⟩
  · intro x; obtain ⟨y0, y1, y2⟩ := x; kernel_rfl
  · intro x z; obtain ⟨y0, y1, y2⟩ := x; exact (And.intro (And.intro trivial rfl) trivial)

def koj (x0 : List Int) (x1 : List Int) : Bool :=
  (↑(List.length x0) : Int) != (↑(List.length x1) : Int)

def kos (x0 : List Int) (x1 : List Int) : Int × List Int × List Int :=
  ((0 : Int), x0, x1)

def kpw (x0 : List Int) (x1 : List Int) : Bool :=
  bif koj x0 x1 then false else bif Nat.beq (Prod.fst (Lp.res k3d (kos x0 x1))) (0 : Nat) then false else true

def kpu (x0 : List Int) (x1 : List Int) : Bool :=
  allT [koj x0 x1 || Lp.fin k3d (kos x0 x1)]

def kxn : List SV → List Entry → Option Out
  | [.one ⟨false, [.ref 0]⟩, .one ⟨false, [.ref 1]⟩], [.row false 2 (.int .i64) x0, .row false 2 (.int .i64) x1] => some ⟨(.one ⟨false, [(.val (.bool (kpw x0 x1)))]⟩), [(.row false 2 (CTy.int IntKind.i64) x0), (.row false 2 (CTy.int IntKind.i64) x1)], [], [(kpu x0 x1)]⟩
  | _, _ => none

def k12o : PF Tryz.prog := PF.ofG Tryz.prog [] [k3d.F] hmix 31 Tryz.f31 Tryz.func31 (LOk.fnT (l := [loopAt Tryz.f31 0]) (by kernel_rfl) (.cons kx5 (.nil _))) kxn (by
  intro vs es r h; unfold kxn at h; split at h
  · cases h; kernel_rfl
  · cases h)

abbrev k6a := Int × Int × List Int

def kdt (y0 : Int) (y2 : List Int) : Bool :=
  ltI y0 (↑(List.length y2) : Int)

def kfz (y0 : Int) : Bool :=
  leI (0 : Int) y0

def kfx (y0 : Int) (y2 : List Int) : Bool :=
  ltN (Int.toNat y0) (List.length y2)

def kg3 (y0 : Int) : Int :=
  IntKind.wrap IntKind.i64 (y0 + (1 : Int))

def kgh (y1 : Int) : Int :=
  IntKind.wrap IntKind.i64 (y1 + (1 : Int))

def kg6 (y0 : Int) (y1 : Int) (y2 : List Int) : List Int :=
  List.set y2 (Int.toNat y0) y1

def kwt : k6a → List (Nat × SV)
  | (y0, y1, _) => [(5, (.one ⟨false, [(.val (.int IntKind.i64 y0))]⟩)), (0, (.one ⟨false, [(.ref 0)]⟩)), (1, (.one ⟨false, [(.val (.int IntKind.i64 y1))]⟩))]

def kwp : k6a → List (Nat × Entry)
  | (_, _, y2) => [(0, (.row true 2 (CTy.int IntKind.i64) y2))]

def kwn : Nat → k6a → List (Nat × SV)
  | _, (_, y1, _) => [(1, (.one ⟨false, [(.val (.int IntKind.i64 y1))]⟩))]

def kwv : Nat → k6a → List (Nat × Entry)
  | _, (_, _, y2) => [(0, (.row true 2 (CTy.int IntKind.i64) y2))]

def kf0 : k6a → LT k6a
  | (y0, y1, y2) => .ite (kdt y0 y2) (.need [(kfz y0), (kdt y0 y2), (kfx y0 y2)] (.nrm ((kg3 y0), (kgh y1), (kg6 y0 y1 y2)) [(0, 0)])) (.ext 0 [(0, 0)])

def kmx (s : St) : Option k6a :=
  (match s.look 5 with
  | some ⟨none, (.one ⟨false, [(.val (.int IntKind.i64 y0))]⟩)⟩ =>
  (match s.look 0 with
  | some ⟨none, (.one ⟨false, [(.ref 0)]⟩)⟩ =>
  (match s.look 1 with
  | some ⟨none, (.one ⟨false, [(.val (.int IntKind.i64 y1))]⟩)⟩ =>
  (match s.ent 0 with
  | some (.row true 2 (CTy.int IntKind.i64) y2) =>
  some (y0, y1, y2)
  | _ => none)
  | _ => none)
  | _ => none)
  | _ => none)

def k2u : Lp k6a where
  h := ⟨[6, 7, 8, 9, 12, 13, 14, 15, 16, 17, 1, 10, 11, 5], [0], [], []⟩
  JL := kwt
  JE := kwp
  XL := kwn
  XE := kwv
  q := fun j => match j with | _ => .exit 0
  tags := [0]
  lt := kf0
  fuel := fun (y0, y1, y2) => y0.natAbs + y1.natAbs + y2.length
  fix := fun (_, _, _) (y0, y1, y2) => (y0, y1, y2)
  σ := [(0, 0)]
  rd := kmx

theorem kvh : LoopOk Tryz.prog (fun k => Nat.blt k Tryz.f34.ntmps) k2u.F (loopAt Tryz.f34 0) := by
  refine Lp.ok (tbl := []) (lf := []) hmix k2u (by kernel_rfl) (LOk.nil _) (fun _ => rfl) (fun _ _ => rfl) ?_ ?_ ?_ ?_ (fun _ => rfl) ?_
  · intro x; obtain ⟨y0, y1, y2⟩ := x; kernel_rfl
  · intro x; obtain ⟨y0, y1, y2⟩ := x; kernel_rfl
  · intro s x h
    have h : kmx s = some x := h
    unfold kmx at h
    repeat' split at h
    all_goals cases h
    exact ⟨absS_cons (by assumption) rfl (absS_cons (by assumption) rfl (absS_cons (by assumption) rfl (rfl))), absE_cons rfl (by assumption) rfl (rfl)⟩
  · intro x; obtain ⟨y0, y1, y2⟩ := x; kernel_rfl
  · intro x z; obtain ⟨y0, y1, y2⟩ := x; exact (And.intro rfl trivial)

def kj1 (x0 : Int) (x1 : List Int) : Int × Int × List Int :=
  ((0 : Int), x0, x1)

def kij (x0 : Int) (x1 : List Int) : Int × List Int :=
  Prod.snd (Prod.snd (Lp.res k2u (kj1 x0 x1)))

def kkj (x0 : Int) (x1 : List Int) : Int :=
  Prod.fst (kij x0 x1)

def kk1 (x0 : Int) (x1 : List Int) : List Int :=
  Prod.snd (kij x0 x1)

def kk4 (x0 : Int) (x1 : List Int) : Bool :=
  allT [Lp.fin k2u (kj1 x0 x1)]

def kv8 : List SV → List Entry → Option Out
  | [.one ⟨false, [.ref 0]⟩, .one ⟨false, [.val (.int .i64 x0)]⟩], [.row true 2 (.int .i64) x1] => some ⟨(.one ⟨false, [(.val (.int IntKind.i64 (kkj x0 x1)))]⟩), [(.row true 2 (CTy.int IntKind.i64) (kk1 x0 x1))], [], [(kk4 x0 x1)]⟩
  | _, _ => none

def k11p : PF Tryz.prog := PF.ofG Tryz.prog [] [k2u.F] hmix 34 Tryz.f34 Tryz.func34 (LOk.fnT (l := [loopAt Tryz.f34 0]) (by kernel_rfl) (.cons kvh (.nil _))) kv8 (by
  intro vs es r h; unfold kv8 at h; split at h
  · cases h; kernel_rfl
  · cases h)

abbrev k6d := Int × Int × List Int

def kdo (y0 : Int) (y2 : List Int) : Bool :=
  ltI y0 (↑(List.length y2) : Int)

def kga (y0 : Int) : Bool :=
  leI (0 : Int) y0

def kfs (y0 : Int) (y2 : List Int) : Bool :=
  ltN (Int.toNat y0) (List.length y2)

def kge (y0 : Int) (y1 : Int) (y2 : List Int) : Bool :=
  Option.getD y2[Int.toNat y0]? (0 : Int) != y1

def kdu  : Int :=
  (-1 : Int)

def kgd (y0 : Int) : Int :=
  IntKind.wrap IntKind.i64 (y0 + (1 : Int))

def kg5 (y1 : Int) : Int :=
  IntKind.wrap IntKind.i64 (y1 + (1 : Int))

def kwq : k6d → List (Nat × SV)
  | (y0, y1, _) => [(5, (.one ⟨false, [(.val (.int IntKind.i64 y0))]⟩)), (0, (.one ⟨false, [(.ref 0)]⟩)), (1, (.one ⟨false, [(.val (.int IntKind.i64 y1))]⟩))]

def kwu : k6d → List (Nat × Entry)
  | (_, _, y2) => [(0, (.row false 2 (CTy.int IntKind.i64) y2))]

def kx7 : Nat → k6d → List (Nat × SV)
  | 0, (_, _, _) => [(4, (.one ⟨false, [(.val (.int IntKind.i64 (kdu)))]⟩))]
  | _, (_, y1, _) => [(1, (.one ⟨false, [(.val (.int IntKind.i64 y1))]⟩))]

def kx0 : Nat → k6d → List (Nat × Entry)
  | 0, (_, _, y2) => [(0, (.row false 2 (CTy.int IntKind.i64) y2))]
  | _, (_, _, y2) => [(0, (.row false 2 (CTy.int IntKind.i64) y2))]

def kf2 : k6d → LT k6d
  | (y0, y1, y2) => .ite (kdo y0 y2) (.need [(kga y0), (kdo y0 y2), (kfs y0 y2)] (.ite (kge y0 y1 y2) (.ext 0 [(0, 0)]) (.nrm ((kgd y0), (kg5 y1), y2) [(0, 0)]))) (.ext 1 [(0, 0)])

def kmt (s : St) : Option k6d :=
  (match s.look 5 with
  | some ⟨none, (.one ⟨false, [(.val (.int IntKind.i64 y0))]⟩)⟩ =>
  (match s.look 0 with
  | some ⟨none, (.one ⟨false, [(.ref 0)]⟩)⟩ =>
  (match s.look 1 with
  | some ⟨none, (.one ⟨false, [(.val (.int IntKind.i64 y1))]⟩)⟩ =>
  (match s.ent 0 with
  | some (.row false 2 (CTy.int IntKind.i64) y2) =>
  some (y0, y1, y2)
  | _ => none)
  | _ => none)
  | _ => none)
  | _ => none)

def k2h : Lp k6d where
  h := ⟨[6, 7, 8, 9, 12, 13, 14, 15, 16, 17, 4, 18, 19, 1, 10, 11, 5], [0], [], []⟩
  JL := kwq
  JE := kwu
  XL := kx7
  XE := kx0
  q := fun j => match j with | 0 => .ret | _ => .exit 0
  tags := [0, 1]
  lt := kf2
  fuel := fun (y0, y1, y2) => y0.natAbs + y1.natAbs + y2.length
  fix := fun (_, _, y2) (y0, y1, _) => (y0, y1, y2)
  σ := [(0, 0)]
  rd := kmt

theorem kvi : LoopOk Tryz.prog (fun k => Nat.blt k Tryz.f35.ntmps) k2h.F (loopAt Tryz.f35 0) := by
  refine Lp.ok (tbl := []) (lf := []) hmix k2h (by kernel_rfl) (LOk.nil _) (fun _ => rfl) (fun j _ => by unfold k2h; match j with | 0 => rfl | _ + 1 => rfl) ?_ ?_ ?_ ?_ (fun _ => rfl) ?_
  · intro x; obtain ⟨y0, y1, y2⟩ := x; kernel_rfl
  · intro x; obtain ⟨y0, y1, y2⟩ := x; kernel_rfl
  · intro s x h
    have h : kmt s = some x := h
    unfold kmt at h
    repeat' split at h
    all_goals cases h
    exact ⟨absS_cons (by assumption) rfl (absS_cons (by assumption) rfl (absS_cons (by assumption) rfl (rfl))), absE_cons rfl (by assumption) rfl (rfl)⟩
  · intro x; obtain ⟨y0, y1, y2⟩ := x; kernel_rfl
  · intro x z; obtain ⟨y0, y1, y2⟩ := x; exact (And.intro (And.intro trivial rfl) trivial)

def kio (x0 : Int) (x1 : List Int) : Int × Int × List Int :=
  ((0 : Int), x0, x1)

def kkr (x0 : Int) (x1 : List Int) : Int :=
  bif Nat.beq (Prod.fst (Lp.res k2h (kio x0 x1))) (0 : Nat) then kdu
  else Prod.fst (Prod.snd (Prod.snd (Lp.res k2h (kio x0 x1))))

def knk (x0 : Int) (x1 : List Int) : Bool :=
  allT [Lp.fin k2h (kio x0 x1)]

def kvb : List SV → List Entry → Option Out
  | [.one ⟨false, [.ref 0]⟩, .one ⟨false, [.val (.int .i64 x0)]⟩], [.row false 2 (.int .i64) x1] => some ⟨(.one ⟨false, [(.val (.int IntKind.i64 (kkr x0 x1)))]⟩), [(.row false 2 (CTy.int IntKind.i64) x1)], [], [(knk x0 x1)]⟩
  | _, _ => none

def k11l : PF Tryz.prog := PF.ofG Tryz.prog [] [k2h.F] hmix 35 Tryz.f35 Tryz.func35 (LOk.fnT (l := [loopAt Tryz.f35 0]) (by kernel_rfl) (.cons kvi (.nil _))) kvb (by
  intro vs es r h; unfold kvb at h; split at h
  · cases h; kernel_rfl
  · cases h)

end Go.SX

namespace Go.SX
open Go.Proofs
set_option maxRecDepth 100000

def inR (a lo hi : Int) : Bool := leI lo a && leI a hi
def eqL (xs ys : List Int) : Bool := decide (xs = ys)

theorem k101 (xs : List Int) : eqL xs xs = true := by simp [eqL]

theorem ks3 {a lo hi : Int} : inR a lo hi = true ↔ lo ≤ a ∧ a ≤ hi := by simp [inR]

theorem inR_eq (a lo hi : Int) : (bif leI lo a then leI a hi else false) = inR a lo hi := by
  unfold inR; cases leI lo a <;> rfl

def kdn (y1 : List Int) (b : Nat) : (List Int) → Nat ⊕ (List Int)
  | y2 => (.inr ((List.set y2 (b) (Option.getD y1[b]? (0 : Int)))))

def kaf (y1 : List Int) (i : Nat) : (List Int) → k8f
  | y2 => ((i : Int), y1, y2)

def ko5 : k8f → List Int
  | (_, _, y2) => y2

theorem k10c (y1 : List Int) (y2 : List Int) (hn : y1.length ≤ 9223372036854775807) (hl : y2.length = y1.length) :
    k42.fin ((0 : Int), y1, y2) = true ∧ k42.res ((0 : Int), y1, y2) = ((walkL (kdn y1) 0 (List.range y1.length) 0 y2).1, (kaf y1) (walkL (kdn y1) 0 (List.range y1.length) 0 y2).2.1 (walkL (kdn y1) 0 (List.range y1.length) 0 y2).2.2) := by
  have key := k42.along (kaf y1) ko5 (kdn y1) 0 (fun _ a => a.length = y1.length) (List.range y1.length) y2 hl (by simp only [k42, kaf, List.length_range]; omega) (fun i b a hb hI => ?_) (fun a hI => ?_)
  · exact key
  · obtain y2 := a
    obtain ⟨rfl, hlt⟩ := range_get hb
    have hw : IntKind.i64.wrap ((b : Int) + 1) = ((b + 1 : Nat) : Int) := by rw [wrap_i64 (by omega) (by omega)]; omega
    have hdec : ltI (b : Int) (y1.length : Int) = true := ltI_t (by omega)
    have hnn : leI (0 : Int) (b : Int) = true := leI_t (by omega)
    have hltd : ltN b y1.length = true := ltN_t (by omega)
    refine ⟨?_, ?_, ?_, ?_⟩
    · simp [kfl, kfm, kiw, kir, kim, kis, kjb, kht, k42, LT.nds, allT, kaf, hdec, hnn, hltd, hI]
    · simp [kfl, kfm, kiw, kir, kim, kis, kjb, kht, k42, LT.each, kaf, ko5, hw, hI]
    · simp only [kfl, kfm, kiw, kir, kim, kis, kjb, kht, k42, LT.fn, kaf, ko5, kdn, Int.toNat_natCast, hdec, cond_true]
    · intro a' hf; simp only [kdn, Sum.inr.injEq] at hf; subst hf; simpa using hI
  · obtain y2 := a
    simp [kfl, kfm, kiw, kir, kim, kis, kjb, kht, k42, LT.out, kaf, List.length_range]

def kip (y1 : List Int) (y2 : List Int) (b : Nat) : (Unit) → Nat ⊕ (Unit)
  | _ => (bif ((Option.getD y1[b]? (0 : Int) != Option.getD y2[b]? (0 : Int))) then (.inl 0) else (.inr ()))

def kci (y1 : List Int) (y2 : List Int) (i : Nat) : (Unit) → k8k
  | _ => ((i : Int), y1, y2)

def kog : k8k → Unit
  | (_, _, _) => ()

theorem k106 (y1 : List Int) (y2 : List Int)  (hn : y1.length ≤ 9223372036854775807) (he : y2.length = y1.length) :
    k3d.fin ((0 : Int), y1, y2) = true ∧ k3d.res ((0 : Int), y1, y2) = ((walkL (kip y1 y2) 1 (List.range y1.length) 0 ()).1, (kci y1 y2) (walkL (kip y1 y2) 1 (List.range y1.length) 0 ()).2.1 (walkL (kip y1 y2) 1 (List.range y1.length) 0 ()).2.2) := by
  have key := k3d.along (kci y1 y2) kog (kip y1 y2) 1 (fun _ _ => True) (List.range y1.length) () (by trivial) (by simp only [k3d, kci, List.length_range]; omega) (fun i b a hb hI => ?_) (fun a hI => ?_)
  · exact key
  · obtain ⟨⟩ := a
    obtain ⟨rfl, hlt⟩ := range_get hb
    have hw : IntKind.i64.wrap ((b : Int) + 1) = ((b + 1 : Nat) : Int) := by rw [wrap_i64 (by omega) (by omega)]; omega
    have hdec : ltI (b : Int) (y1.length : Int) = true := ltI_t (by omega)
    have hnn : leI (0 : Int) (b : Int) = true := leI_t (by omega)
    have hltd : ltN b y1.length = true := ltN_t (by omega)
    refine ⟨?_, ?_, ?_, ?_⟩
    · simp [kfk, kfp, kj8, kix, kin, kj4, kj9, khh, k3d, LT.nds, allT, kci, hdec, hnn, hltd, he]
    · simp [kfk, kfp, kj8, kix, kin, kj4, kj9, khh, k3d, LT.each, kci, kog, hw, he]
    · simp only [kfk, kfp, kj8, kix, kin, kj4, kj9, khh, k3d, LT.fn, kci, kog, kip, Int.toNat_natCast, hdec, cond_true]
    · exact fun _ _ => trivial
  · obtain ⟨⟩ := a
    simp [kfk, kfp, kj8, kix, kin, kj4, kj9, khh, k3d, LT.out, kci, List.length_range]

def kbh  (b : Nat) : (Int × List Int) → Nat ⊕ (Int × List Int)
  | (y1, y2) => (.inr (((IntKind.wrap IntKind.i64 (y1 + (1 : Int)))), ((List.set y2 (b) y1))))

def k6r  (i : Nat) : (Int × List Int) → k6a
  | (y1, y2) => ((i : Int), y1, y2)

def kn9 : k6a → Int × List Int
  | (_, y1, y2) => (y1, y2)

theorem kya  (y1 : Int) (y2 : List Int) (n : Nat) (hl : y2.length = n) (hn : n ≤ 9223372036854775807)  :
    k2u.fin ((0 : Int), y1, y2) = true ∧ k2u.res ((0 : Int), y1, y2) = ((walkL (kbh) 0 (List.range n) 0 (y1, y2)).1, (k6r) (walkL (kbh) 0 (List.range n) 0 (y1, y2)).2.1 (walkL (kbh) 0 (List.range n) 0 (y1, y2)).2.2) := by
  have key := k2u.along (k6r) kn9 (kbh) 0 (fun _ a => a.2.length = n) (List.range n) (y1, y2) hl (by simp only [k2u, k6r, List.length_range]; omega) (fun i b a hb hI => ?_) (fun a hI => ?_)
  · exact key
  · obtain ⟨y1, y2⟩ := a
    obtain ⟨rfl, hlt⟩ := range_get hb
    have hI0 : y2.length = n := hI
    have hw : IntKind.i64.wrap ((b : Int) + 1) = ((b + 1 : Nat) : Int) := by rw [wrap_i64 (by omega) (by omega)]; omega
    have hdec : ltI (b : Int) (y2.length : Int) = true := ltI_t (by omega)
    have hnn : leI (0 : Int) (b : Int) = true := leI_t (by omega)
    have hltd : ltN b y2.length = true := ltN_t (by omega)
    refine ⟨?_, ?_, ?_, ?_⟩
    · simp [kdt, kfz, kfx, kg3, kgh, kg6, kf0, k2u, LT.nds, allT, k6r, hdec, hnn, hltd]
    · simp [kdt, kfz, kfx, kg3, kgh, kg6, kf0, k2u, LT.each, k6r, kn9, hw]
    · simp only [kdt, kfz, kfx, kg3, kgh, kg6, kf0, k2u, LT.fn, k6r, kn9, kbh, Int.toNat_natCast, hdec, hnn, hltd, cond_true, Bool.cond_self]
    · intro a' hf; simp only [kbh, Sum.inr.injEq] at hf; subst hf; simp [hI0]
  · obtain ⟨y1, y2⟩ := a
    have hI0 : y2.length = n := hI
    simp [kdt, kfz, kfx, kg3, kgh, kg6, kf0, k2u, LT.out, k6r, hI0, List.length_range]

def kdr  (b : Int) : (Int) → Nat ⊕ (Int)
  | y1 => (bif ((b != y1)) then (.inl 0) else (.inr ((IntKind.wrap IntKind.i64 (y1 + (1 : Int))))))

def k8s (y2 : List Int) (i : Nat) : (Int) → k6d
  | y1 => ((i : Int), y1, y2)

def kn2 : k6d → Int
  | (_, y1, _) => y1

theorem kr7 (y2 : List Int) (y1 : Int) (hn : y2.length ≤ 9223372036854775807)  :
    k2h.fin ((0 : Int), y1, y2) = true ∧ k2h.res ((0 : Int), y1, y2) = ((walkL (kdr) 1 y2 0 y1).1, (k8s y2) (walkL (kdr) 1 y2 0 y1).2.1 (walkL (kdr) 1 y2 0 y1).2.2) := by
  have key := k2h.along (k8s y2) kn2 (kdr) 1 (fun _ _ => True) y2 y1 (by trivial) (by simp only [k2h, k8s]; omega) (fun i b a hb hI => ?_) (fun a hI => ?_)
  · exact key
  · obtain y1 := a
    have hlt := (List.getElem?_eq_some_iff.1 hb).1
    have hget : ∀ d, Option.getD y2[i]? d = b := fun d => by rw [hb]; rfl
    have hw := wrap64 hlt hn
    have hdec : ltI (i : Int) (y2.length : Int) = true := ltI_t (by omega)
    have hnn : leI (0 : Int) (i : Int) = true := leI_t (by omega)
    have hltd : ltN i y2.length = true := ltN_t hlt
    refine ⟨?_, ?_, ?_, ?_⟩
    · simp [kdo, kga, kfs, kge, kdu, kgd, kg5, kf2, k2h, LT.nds, allT, k8s, hdec, hnn, hltd, hget]
    · simp [kdo, kga, kfs, kge, kdu, kgd, kg5, kf2, k2h, LT.each, k8s, kn2, hw]
    · simp only [kdo, kga, kfs, kge, kdu, kgd, kg5, kf2, k2h, LT.fn, k8s, kn2, kdr, Int.toNat_natCast, hdec, hnn, hltd, hget, cond_true, Bool.cond_self]
    · exact fun _ _ => trivial
  · obtain y1 := a
    simp [kdo, kga, kfs, kge, kdu, kgd, kg5, kf2, k2h, LT.out, k8s]

theorem k159 (xs : List Int) (hn : leN xs.length 1048576 = true) : kpn xs = xs ∧ kpr xs = true := by
  have hn := leN_iff.1 hn
  have hr : (List.replicate (Int.toNat (xs.length : Int)) (0 : Int)).length = xs.length := by simp
  obtain ⟨w1, w2⟩ := k10c xs (List.replicate (Int.toNat (xs.length : Int)) (0 : Int)) (by omega) hr
  have hc := walk_copy (xs := xs) (d := (0 : Int)) (g := fun x => x) (f := kdn xs) (e := 0) (fun b a => rfl) hr
  rw [hc] at w2
  refine ⟨?_, ?_⟩
  · simp only [ko4, kpn, kpr, w2, kaf]; simp
  · simp only [ko4, kpn, kpr, w1, allT]; simp; omega

def kxc : List SV → List Entry → Option Out
  | [.one ⟨false, [.ref 0]⟩], [.row false 2 (.int .i64) x0] => some ⟨(.one ⟨false, [(.ref 1)]⟩), [(.row false 2 (CTy.int IntKind.i64) x0)], [(.row true 2 (CTy.int IntKind.i64) (x0))], [leN x0.length 1048576]⟩
  | _, _ => none

def kl3 : PF Tryz.prog := PF.alt k12k kxc (by
  intro args es o h hnd; unfold kxc at h; split at h
  · rename_i x0
    cases h
    have hnd := nd_fst hnd
    have hh := k159 x0 hnd
    obtain ⟨e0, en⟩ := hh
    exact altok rfl (nd_one en) rfl rfl (by simp only [e0] <;> rfl)
  · cases h)

theorem k15e (xs ys : List Int) (hn : leN xs.length 9223372036854775807 = true) : kpw xs ys = eqL xs ys ∧ kpu xs ys = true := by
  have hn := leN_iff.1 hn
  unfold eqL
  by_cases hl : ys.length = xs.length
  · obtain ⟨w1, w2⟩ := k106 xs ys hn hl
    have ha := any_ne (d := (0 : Int)) hl (P := fun b => Option.getD xs[b]? 0 != Option.getD ys[b]? 0) (fun b => by simp [bne, BEq.beq])
    rw [walk_stop (P := fun b => Option.getD xs[b]? 0 != Option.getD ys[b]? 0) (j := 0) (fun b => rfl), ha] at w2
    simp only [koj, kos, kpw, kpu, w1, w2, allT]
    by_cases he : xs = ys
    · subst he; simp; decide
    · simp [he, hl]
  · have hne : xs ≠ ys := fun h => hl (by rw [h])
    simp [koj, kos, kpw, kpu, allT, hne]
    omega

def kxo : List SV → List Entry → Option Out
  | [.one ⟨false, [.ref 0]⟩, .one ⟨false, [.ref 1]⟩], [.row false 2 (.int .i64) x0, .row false 2 (.int .i64) x1] => some ⟨(.one ⟨false, [(.val (.bool (eqL x0 x1)))]⟩), [(.row false 2 (CTy.int IntKind.i64) x0), (.row false 2 (CTy.int IntKind.i64) x1)], [], [leN x0.length 9223372036854775807]⟩
  | _, _ => none

def kl6 : PF Tryz.prog := PF.alt k12o kxo (by
  intro args es o h hnd; unfold kxo at h; split at h
  · rename_i x0 x1
    cases h
    have hnd := nd_fst hnd
    have hh := k15e x0 x1 hnd
    obtain ⟨e0, en⟩ := hh
    exact altok rfl (nd_one en) (by simp only [e0] <;> rfl) rfl rfl
  · cases h)

/-- Numbers that a list is marked with stay numbers. -/
def mkOk (k : Int) (n : Nat) : Bool := leI 0 k && leI (k + n) 9223372036854775807

theorem k10j {k : Int} {n : Nat} : mkOk k n = true ↔ 0 ≤ k ∧ k + n ≤ 9223372036854775807 := by simp [mkOk]

theorem k14a (k : Int) (xs : List Int) (h : mkOk k xs.length = true) : kkj k xs = k + xs.length ∧ kk1 k xs = upFrom k xs.length ∧ kk4 k xs = true := by
  obtain ⟨h0, h1⟩ := k10j.1 h
  obtain ⟨w1, w2⟩ := kya k xs xs.length rfl (by omega)
  rw [walk_mark (f := kbh) (fun b k xs => rfl) h0 h1] at w2
  refine ⟨?_, ?_, ?_⟩
  · simp only [kj1, kij, kkj, kk1, kk4, w2, k6r]
  · simp only [kj1, kij, kkj, kk1, kk4, w2, k6r]
  · simp only [kj1, kij, kkj, kk1, kk4, w1, allT, cond_true]

def kv9 : List SV → List Entry → Option Out
  | [.one ⟨false, [.ref 0]⟩, .one ⟨false, [.val (.int .i64 x0)]⟩], [.row true 2 (.int .i64) x1] => some ⟨(.one ⟨false, [(.val (.int IntKind.i64 (x0 + (x1.length : Int))))]⟩), [(.row true 2 (CTy.int IntKind.i64) (upFrom x0 x1.length))], [], [mkOk x0 x1.length]⟩
  | _, _ => none

def kh1 : PF Tryz.prog := PF.alt k11p kv9 (by
  intro args es o h hnd; unfold kv9 at h; split at h
  · rename_i x0 x1
    cases h
    have hnd := nd_fst hnd
    have hh := k14a x0 x1 hnd
    obtain ⟨e0, e1, en⟩ := hh
    exact altok rfl (nd_one en) (by simp only [e0] <;> rfl) (by simp only [e1] <;> rfl) rfl
  · cases h)

/-- What a marked list is found to be. -/
def heldV (k : Int) (xs : List Int) : Int := kkr k xs

theorem k152 (k : Int) (n : Nat) (h : mkOk k n = true) : heldV k (upFrom k n) = k + n := by
  obtain ⟨h0, h1⟩ := k10j.1 h
  obtain ⟨w1, w2⟩ := kr7 (upFrom k n) k (by rw [upFrom_length]; omega)
  rw [walk_held (f := kdr) (fun b k => rfl) h0 h1] at w2
  simp only [heldV, kio, kkr, knk, w2, k8s]
  rfl

theorem k148 (k : Int) (xs : List Int) (h : leN xs.length 9223372036854775807 = true) : kkr k xs = heldV k xs ∧ knk k xs = true := by
  obtain ⟨w1, w2⟩ := kr7 xs k (leN_iff.1 h)
  exact ⟨rfl, by simp only [kio, kkr, knk, w1, allT, cond_true]⟩

def kv1 : List SV → List Entry → Option Out
  | [.one ⟨false, [.ref 0]⟩, .one ⟨false, [.val (.int .i64 x0)]⟩], [.row false 2 (.int .i64) x1] => some ⟨(.one ⟨false, [(.val (.int IntKind.i64 (heldV x0 x1)))]⟩), [(.row false 2 (CTy.int IntKind.i64) x1)], [], [leN x1.length 9223372036854775807]⟩
  | _, _ => none

def kgx : PF Tryz.prog := PF.alt k11l kv1 (by
  intro args es o h hnd; unfold kv1 at h; split at h
  · rename_i x0 x1
    cases h
    have hnd := nd_fst hnd
    have hh := k148 x0 x1 hnd
    obtain ⟨e0, en⟩ := hh
    exact altok rfl (nd_one en) (by simp only [e0] <;> rfl) rfl rfl
  · cases h)

def szV (k : Int) (xs : List Int) : Int := bif ltI (k - xs.length) 0 then -1 else k - xs.length

theorem k157 (k : Int) (xs : List Int) (h : (leN xs.length 9223372036854775807 && (leI (-1) k && leI k 1048576)) = true) : ksv k xs = szV k xs := by
  simp only [Bool.and_eq_true, leN_iff, leI_iff] at h
  simp only [krq, ksv, szV]
  rw [wrap_i64 (by omega) (by omega)]

def kxw : List SV → List Entry → Option Out
  | [.one ⟨false, [.ref 0]⟩, .one ⟨false, [.val (.int .i64 x0)]⟩], [.row false 2 (.int .i64) x1] => some ⟨(.one ⟨false, [(.val (.int IntKind.i64 (szV x0 x1)))]⟩), [(.row false 2 (CTy.int IntKind.i64) x1)], [], [leN x1.length 9223372036854775807 && (leI (-1) x0 && leI x0 1048576)]⟩
  | _, _ => none

def kt6 : PF Tryz.prog := PF.alt k12l kxw (by
  intro args es o h hnd; unfold kxw at h; split at h
  · rename_i x0 x1
    cases h
    have hnd := nd_fst hnd
    have hh := k157 x0 x1 hnd
    have e0 := hh
    exact altok rfl (fun _ h => by cases h) (by simp only [e0] <;> rfl) rfl rfl
  · cases h)

theorem k15s (xs : List Int) (h : (leN 1 xs.length && leN xs.length 1048576) = true) : ke5 xs = true := by
  simp only [Bool.and_eq_true, leN_iff] at h
  simp [ke5, allT]
  omega

/-- slices.Clone at nil, at a slice of no elements; at any slice. -/
def k12t : List SV → List Entry → Option Out
  | [.one ⟨false, [.val (.slice none 0 0)]⟩], [] => some ⟨.one ⟨false, [.ref 0]⟩, [], [.row true 2 (.int .i64) []], [true]⟩
  | _, _ => none
def k14d : PF Tryz.prog := PF.ofG Tryz.prog [PF.raw Tryz.prog] [] hmix 194 Tryz.f194 Tryz.func194 (fun c _ => LOk.nil c) k12t (by
  intro vs es r h; unfold k12t at h; split at h
  · cases h; kernel_rfl
  · cases h)
def k12u : List SV → List Entry → Option Out
  | [.one ⟨false, [.val (.slice (some _) 0 _)]⟩], [] => some ⟨.one ⟨false, [.ref 0]⟩, [], [.row true 2 (.int .i64) []], [true]⟩
  | _, _ => none
def k14i : PF Tryz.prog := PF.ofG Tryz.prog [] [] hmix 194 Tryz.f194 Tryz.func194 (fun c _ => LOk.nil c) k12u (by
  intro vs es r h; unfold k12u at h; split at h
  · cases h; kernel_rfl
  · cases h)
def knd : List SV → List Entry → Option Out
  | [.one ⟨false, [.ref 0]⟩], [.row false 2 (.int .i64) x0] => some ⟨.one ⟨false, [.ref 1]⟩, [.row false 2 (.int .i64) x0], [.row true 2 (.int .i64) x0], [leN x0.length 1048576]⟩
  | _, _ => none
def k8h : PF Tryz.prog where
  k := 194
  F := knd
  ok := by
    intro args es o h hnd mem ρ w hp
    unfold knd at h
    split at h
    · rename_i x0
      cases h
      have hl := hnd _ (List.mem_singleton.2 rfl)
      cases x0 with
      | nil =>
        exact (clone0 k14d k14i rfl rfl rfl (fun _ _ => rfl) (by simp) (by simp) hp).mono fun en w' ⟨ρ', h1, h2, h3⟩ => ⟨ρ', h1, h2, rfl, (by intro v hv; rw [List.mem_singleton.1 hv]; rfl), h3⟩
      | cons x xs => exact ksx.ok _ _ ⟨_, _, _, [ke5 (x :: xs)]⟩ rfl (fun b hb => by rw [List.mem_singleton.1 hb]; exact k15s (x :: xs) ((Bool.and_eq_true _ _).mpr ⟨leN_t (Nat.succ_pos _), hl⟩)) mem ρ w hp
    · cases h

theorem own_ok (xs : List Int) (h : leN xs.length 1048576 = true) : kvt xs = true := by
  have h := leN_iff.1 h
  simp [kvt, allT]
  omega

def k111 : List SV → List Entry → Option Out
  | [.one ⟨false, [.ref 0]⟩], [.row false 2 (.int .i64) x0] => some ⟨(.one ⟨false, [(.ref 1)]⟩), [(.row false 2 (CTy.int IntKind.i64) x0)], [(.row true 2 (CTy.int IntKind.i64) x0)], [leN x0.length 1048576]⟩
  | _, _ => none

def kcz : PF Tryz.prog := PF.alt k13n k111 (by
  intro args es o h hnd; unfold k111 at h; split at h
  · rename_i x0
    cases h
    have hnd := nd_fst hnd
    have hh := own_ok x0 hnd
    have en := hh
    exact altok rfl (nd_one en) rfl rfl rfl
  · cases h)

end Go.SX

namespace Go.SX
open Go.Proofs
set_option maxRecDepth 100000

def kmc (x0 : Int) : Bool :=
  bif leI (97 : Int) x0 then leI x0 (122 : Int) else false

def kwf : List SV → List Entry → Option Out
  | [.one ⟨false, [.val (.int .u8 x0)]⟩], [] => some ⟨(.one ⟨false, [(.val (.bool (kmc x0)))]⟩), [], [], []⟩
  | _, _ => none

def krt : PF Tryz.prog := PF.ofG Tryz.prog [] [] hmix 277 Tryz.f277 Tryz.func277 (fun c _ => LOk.nil c) kwf (by
  intro vs es r h; unfold kwf at h; split at h
  · cases h; kernel_rfl
  · cases h)

def ktb (x0 : Int) : Bool :=
  bif leI (48 : Int) x0 then leI x0 (57 : Int) else false

def kxh : List SV → List Entry → Option Out
  | [.one ⟨false, [.val (.int .u8 x0)]⟩], [] => some ⟨(.one ⟨false, [(.val (.bool (ktb x0)))]⟩), [], [], []⟩
  | _, _ => none

def k12f : PF Tryz.prog := PF.ofG Tryz.prog [] [] hmix 280 Tryz.f280 Tryz.func280 (fun c _ => LOk.nil c) kxh (by
  intro vs es r h; unfold kxh at h; split at h
  · cases h; kernel_rfl
  · cases h)

def kpl (x0 : Int) : Bool :=
  bif bif kmc x0 then true else ktb x0 then true else x0 == (95 : Int)

def kx9 : List SV → List Entry → Option Out
  | [.one ⟨false, [.val (.int .u8 x0)]⟩], [] => some ⟨(.one ⟨false, [(.val (.bool (kpl x0)))]⟩), [], [], []⟩
  | _, _ => none

def kxk : PF Tryz.prog := PF.ofG Tryz.prog [krt, k12f] [] hmix 276 Tryz.f276 Tryz.func276 (fun c _ => LOk.nil c) kx9 (by
  intro vs es r h; unfold kx9 at h; split at h
  · cases h; kernel_rfl
  · cases h)

abbrev kd2 := Int × ByteArray

def kka (y0 : Int) (y1 : ByteArray) : Bool :=
  ltI y0 (↑(ByteArray.size y1) : Int)

def kva (y0 : Int) : Bool :=
  leI (0 : Int) y0

def kq7 (y0 : Int) (y1 : ByteArray) : Bool :=
  !kpl (↑(UInt8.toNat (Option.getD y1[Int.toNat y0]? (0 : UInt8))) : Int)

def kve (y0 : Int) : Int :=
  IntKind.wrap IntKind.i64 (y0 + (1 : Int))

def k10e : kd2 → List (Nat × SV)
  | (y0, y1) => [(3, (.one ⟨false, [(.val (.int IntKind.i64 y0))]⟩)), (0, (.one ⟨false, [(.val (.string y1))]⟩))]

def k10l : kd2 → List (Nat × Entry)
  | (_, _) => []

def k10b : Nat → kd2 → List (Nat × SV)
  | 0, (_, _) => [(2, (.one ⟨false, [(.val (.bool false))]⟩))]
  | _, (_, _) => []

def kzz : Nat → kd2 → List (Nat × Entry)
  | 0, (_, _) => []
  | _, (_, _) => []

def kj2 : kd2 → LT kd2
  | (y0, y1) => .ite (kka y0 y1) (.need [(kva y0), (kka y0 y1)] (.ite (kq7 y0 y1) (.ext 0 []) (.nrm ((kve y0), y1) []))) (.ext 1 [])

def kpa (s : St) : Option kd2 :=
  (match s.look 3 with
  | some ⟨none, (.one ⟨false, [(.val (.int IntKind.i64 y0))]⟩)⟩ =>
  (match s.look 0 with
  | some ⟨none, (.one ⟨false, [(.val (.string y1))]⟩)⟩ =>
  some (y0, y1)
  | _ => none)
  | _ => none)

def k3w : Lp kd2 where
  h := ⟨[4, 5, 6, 7, 10, 11, 12, 13, 14, 2, 8, 9, 3], [], [], []⟩
  JL := k10e
  JE := k10l
  XL := k10b
  XE := kzz
  q := fun j => match j with | 0 => .ret | _ => .exit 0
  tags := [0, 1]
  lt := kj2
  fuel := fun (y0, y1) => y0.natAbs + y1.size
  fix := fun (_, y1) (y0, _) => (y0, y1)
  σ := []
  rd := kpa

theorem kyf : LoopOk Tryz.prog (fun k => Nat.blt k Tryz.f266.ntmps) k3w.F (loopAt Tryz.f266 0) := by
  refine Lp.ok (tbl := [ki1, kxk, krt]) (lf := []) hmix k3w (by kernel_rfl) (LOk.nil _) (fun _ => rfl) (fun j _ => by unfold k3w; match j with | 0 => rfl | _ + 1 => rfl) ?_ ?_ ?_ ?_ (fun _ => rfl) ?_
  · intro x; obtain ⟨y0, y1⟩ := x; kernel_rfl
  · intro x; obtain ⟨y0, y1⟩ := x; kernel_rfl
  · intro s x h
    have h : kpa s = some x := h
    unfold kpa at h
    repeat' split at h
    all_goals cases h
    exact ⟨absS_cons (by assumption) rfl (absS_cons (by assumption) rfl (rfl)), rfl⟩
  · intro x; obtain ⟨y0, y1⟩ := x; kernel_rfl
  · intro x z; obtain ⟨y0, y1⟩ := x; exact (And.intro (And.intro trivial rfl) trivial)

def kph (x0 : ByteArray) : Bool :=
  Nat.beq (Prod.fst (Lp.res k3w ((0 : Int), x0))) (0 : Nat)

def kps (x0 : ByteArray) : Bool :=
  k1r (↑(ByteArray.size x0) : Int) (1 : Int) (12 : Int)

def kua (x0 : ByteArray) : Bool :=
  bif kph x0 then false
  else bif kps x0 then kmc (↑(UInt8.toNat (Option.getD x0[Int.toNat (0 : Int)]? (0 : UInt8))) : Int) else false

def kuu (x0 : ByteArray) : Bool :=
  allT
  [Lp.fin k3w ((0 : Int), x0), kph x0 || (!(kps x0 && true) || leI (0 : Int) (0 : Int)),
    kph x0 || (!(kps x0 && true) || ltI (0 : Int) (↑(ByteArray.size x0) : Int))]

def kyv : List SV → List Entry → Option Out
  | [.one ⟨false, [.val (.string x0)]⟩], [] => some ⟨(.one ⟨false, [(.val (.bool (kua x0)))]⟩), [], [], [(kuu x0)]⟩
  | _, _ => none

def k12z : PF Tryz.prog := PF.ofG Tryz.prog [ki1, kxk, krt] [k3w.F] hmix 266 Tryz.f266 Tryz.func266 (LOk.fnT (l := [loopAt Tryz.f266 0]) (by kernel_rfl) (.cons kyf (.nil _))) kyv (by
  intro vs es r h; unfold kyv at h; split at h
  · cases h; kernel_rfl
  · cases h)

def kpf  : List ByteArray :=
  [{ data := #[(112 : UInt8), (114 : UInt8), (111 : UInt8), (103 : UInt8), (114 : UInt8), (97 : UInt8), (109 : UInt8)] },
  { data := #[(105 : UInt8), (110 : UInt8)] }, { data := #[(118 : UInt8), (97 : UInt8), (114 : UInt8)] },
  { data := #[(111 : UInt8), (117 : UInt8), (116 : UInt8)] }, { data := #[(103 : UInt8), (117 : UInt8), (97 : UInt8), (114 : UInt8), (100 : UInt8)] },
  { data := #[(101 : UInt8), (110 : UInt8), (100 : UInt8)] }, { data := #[(97 : UInt8), (110 : UInt8), (100 : UInt8)] },
  { data := #[(111 : UInt8), (114 : UInt8)] }, { data := #[(110 : UInt8), (111 : UInt8), (116 : UInt8)] },
  { data := #[(116 : UInt8), (114 : UInt8), (117 : UInt8), (101 : UInt8)] },
  { data := #[(102 : UInt8), (97 : UInt8), (108 : UInt8), (115 : UInt8), (101 : UInt8)] }, { data := #[(111 : UInt8), (110 : UInt8)] },
  { data := #[(111 : UInt8), (102 : UInt8), (102 : UInt8)] }, { data := #[(114 : UInt8), (105 : UInt8), (115 : UInt8), (101 : UInt8)] },
  { data := #[(108 : UInt8), (97 : UInt8), (116 : UInt8), (99 : UInt8), (104 : UInt8)] },
  { data := #[(99 : UInt8), (111 : UInt8), (117 : UInt8), (110 : UInt8), (116 : UInt8)] },
  { data := #[(112 : UInt8), (97 : UInt8), (105 : UInt8), (114 : UInt8)] }]

def ktg : List SV → List Entry → Option Out
  | [], [] => some ⟨(.one ⟨false, [(.ref 0)]⟩), [], [(.row true 9 (CTy.str) (kpf))], []⟩
  | _, _ => none

def kte : PF Tryz.prog := PF.ofG Tryz.prog [] [] hmix 278 Tryz.f278 Tryz.func278 (fun c _ => LOk.nil c) ktg (by
  intro vs es r h; unfold ktg at h; split at h
  · cases h; kernel_rfl
  · cases h)

abbrev k69 := Int × ByteArray × List ByteArray

def ke1 (y0 : Int) (y2 : List ByteArray) : Bool :=
  ltI y0 (↑(List.length y2) : Int)

def kg0 (y0 : Int) : Bool :=
  leI (0 : Int) y0

def kfw (y0 : Int) (y2 : List ByteArray) : Bool :=
  ltN (Int.toNat y0) (List.length y2)

def kg7 (y0 : Int) (y1 : ByteArray) (y2 : List ByteArray) : Bool :=
  ByteArray.toList (Option.getD y2[Int.toNat y0]? ByteArray.empty) == ByteArray.toList y1

def kgg (y0 : Int) : Int :=
  IntKind.wrap IntKind.i64 (y0 + (1 : Int))

def kwo : k69 → List (Nat × SV)
  | (y0, y1, _) => [(4, (.one ⟨false, [(.val (.int IntKind.i64 y0))]⟩)), (3, (.one ⟨false, [(.ref 0)]⟩)), (0, (.one ⟨false, [(.val (.string y1))]⟩))]

def kwy : k69 → List (Nat × Entry)
  | (_, _, y2) => [(0, (.row true 9 (CTy.str) y2))]

def kwz : Nat → k69 → List (Nat × SV)
  | 0, (y0, _, _) => [(2, (.one ⟨false, [(.val (.int IntKind.i64 y0))]⟩))]
  | _, (_, _, _) => []

def kwx : Nat → k69 → List (Nat × Entry)
  | 0, (_, _, y2) => [(0, (.row true 9 (CTy.str) y2))]
  | _, (_, _, y2) => [(0, (.row true 9 (CTy.str) y2))]

def kf5 : k69 → LT k69
  | (y0, y1, y2) => .ite (ke1 y0 y2) (.need [(kg0 y0), (ke1 y0 y2), (kfw y0 y2)] (.ite (kg7 y0 y1 y2) (.ext 0 [(0, 0)]) (.nrm ((kgg y0), y1, y2) [(0, 0)]))) (.ext 1 [(0, 0)])

def kn4 (s : St) : Option k69 :=
  (match s.look 4 with
  | some ⟨none, (.one ⟨false, [(.val (.int IntKind.i64 y0))]⟩)⟩ =>
  (match s.look 3 with
  | some ⟨none, (.one ⟨false, [(.ref 128)]⟩)⟩ =>
  (match s.look 0 with
  | some ⟨none, (.one ⟨false, [(.val (.string y1))]⟩)⟩ =>
  (match s.ent 128 with
  | some (.row true 9 (CTy.str) y2) =>
  some (y0, y1, y2)
  | _ => none)
  | _ => none)
  | _ => none)
  | _ => none)

def k2i : Lp k69 where
  h := ⟨[6, 7, 8, 9, 12, 13, 14, 15, 16, 17, 18, 2, 10, 11, 4], [0], [], []⟩
  JL := kwo
  JE := kwy
  XL := kwz
  XE := kwx
  q := fun j => match j with | 0 => .ret | _ => .exit 0
  tags := [0, 1]
  lt := kf5
  fuel := fun (y0, y1, y2) => y0.natAbs + y1.size + y2.length
  fix := fun (_, y1, y2) (y0, _, _) => (y0, y1, y2)
  σ := [(0, 128)]
  rd := kn4

theorem kvj : LoopOk Tryz.prog (fun k => Nat.blt k Tryz.f267.ntmps) k2i.F (loopAt Tryz.f267 0) := by
  refine Lp.ok (tbl := [kte]) (lf := []) hmix k2i (by kernel_rfl) (LOk.nil _) (fun _ => rfl) (fun j _ => by unfold k2i; match j with | 0 => rfl | _ + 1 => rfl) ?_ ?_ ?_ ?_ (fun _ => rfl) ?_
  · intro x; obtain ⟨y0, y1, y2⟩ := x; kernel_rfl
  · intro x; obtain ⟨y0, y1, y2⟩ := x; kernel_rfl
  · intro s x h
    have h : kn4 s = some x := h
    unfold kn4 at h
    repeat' split at h
    all_goals cases h
    exact ⟨absS_cons (by assumption) rfl (absS_cons (by assumption) rfl (absS_cons (by assumption) rfl (rfl))), absE_cons rfl (by assumption) rfl (rfl)⟩
  · intro x; obtain ⟨y0, y1, y2⟩ := x; kernel_rfl
  · intro x z; obtain ⟨y0, y1, y2⟩ := x; exact (And.intro (And.intro trivial rfl) trivial)

def kmj (x0 : ByteArray) : Int × ByteArray × List ByteArray :=
  ((0 : Int), x0, kpf)

def knf (x0 : ByteArray) : Int :=
  bif Nat.beq (Prod.fst (Lp.res k2i (kmj x0))) (0 : Nat) then
  Prod.fst (Prod.snd (Lp.res k2i (kmj x0)))
  else (-1 : Int)

def kne (x0 : ByteArray) : Bool :=
  allT [Lp.fin k2i (kmj x0)]

def kvc : List SV → List Entry → Option Out
  | [.one ⟨false, [.val (.string x0)]⟩], [] => some ⟨(.one ⟨false, [(.val (.int IntKind.i64 (knf x0)))]⟩), [], [], [(kne x0)]⟩
  | _, _ => none

def k11n : PF Tryz.prog := PF.ofG Tryz.prog [kte] [k2i.F] hmix 267 Tryz.f267 Tryz.func267 (LOk.fnT (l := [loopAt Tryz.f267 0]) (by kernel_rfl) (.cons kvj (.nil _))) kvc (by
  intro vs es r h; unfold kvc at h; split at h
  · cases h; kernel_rfl
  · cases h)

def kdq (x0 : ByteArray) (x1 : Int) : Int :=
  ibs x0 x1

def kiu : List SV → List Entry → Option Out
  | [.one ⟨false, [.val (.string x0)]⟩, .one ⟨false, [.val (.int .u8 x1)]⟩], [] => some ⟨(.one ⟨false, [(.val (.int IntKind.i64 (kdq x0 x1)))]⟩), [], [], []⟩
  | _, _ => none

def kpb : PF Tryz.prog := PF.ofG Tryz.prog [] [] hmix 279 Tryz.f279 Tryz.func279 (fun c _ => LOk.nil c) kiu (by
  intro vs es r h; unfold kiu at h; split at h
  · cases h; kernel_rfl
  · cases h)

def klp (x0 : ByteArray) (x1 : Int) : Int :=
  kdq x0 x1

def ksj : List SV → List Entry → Option Out
  | [.one ⟨false, [.val (.string x0)]⟩, .one ⟨false, [.val (.int .u8 x1)]⟩], [] => some ⟨(.one ⟨false, [(.val (.int IntKind.i64 (klp x0 x1)))]⟩), [], [], []⟩
  | _, _ => none

def koq : PF Tryz.prog := PF.ofG Tryz.prog [kpb] [] hmix 273 Tryz.f273 Tryz.func273 (fun c _ => LOk.nil c) ksj (by
  intro vs es r h; unfold ksj at h; split at h
  · cases h; kernel_rfl
  · cases h)

abbrev kjf := Int × Int × ByteArray × ByteArray

def khe (y0 : Int) (y1 : Int) (y2 : ByteArray) : Bool :=
  ltI (IntKind.wrap IntKind.i64 (y0 + y1)) (↑(ByteArray.size y2) : Int)

def kw6 (y0 : Int) (y1 : Int) (y2 : ByteArray) : Bool :=
  !(khe y0 y1 y2 && true) || leI (0 : Int) (IntKind.wrap IntKind.i64 (y0 + y1))

def kwa (y0 : Int) (y1 : Int) (y2 : ByteArray) : Bool :=
  !(khe y0 y1 y2 && true) || khe y0 y1 y2

def ksa (y0 : Int) (y1 : Int) (y2 : ByteArray) (y3 : ByteArray) : Bool :=
  bif khe y0 y1 y2 then
  leI (0 : Int) (klp y3 (↑(UInt8.toNat (Option.getD y2[Int.toNat (IntKind.wrap IntKind.i64 (y0 + y1))]? (0 : UInt8))) : Int))
  else false

def k115 (y1 : Int) : Int :=
  IntKind.wrap IntKind.i64 (y1 + (1 : Int))

def k12x : kjf → List (Nat × SV)
  | (y0, y1, y2, y3) => [(1, (.one ⟨false, [(.val (.int IntKind.i64 y0))]⟩)), (7, (.one ⟨false, [(.val (.int IntKind.i64 y1))]⟩)), (0, (.one ⟨false, [(.val (.string y2))]⟩)), (2, (.one ⟨false, [(.val (.string y3))]⟩))]

def k13b : kjf → List (Nat × Entry)
  | (_, _, _, _) => []

def k138 : Nat → kjf → List (Nat × SV)
  | _, (_, y1, _, _) => [(7, (.one ⟨false, [(.val (.int IntKind.i64 y1))]⟩))]

def k13h : Nat → kjf → List (Nat × Entry)
  | _, (_, _, _, _) => []

def kof : kjf → LT kjf
  | (y0, y1, y2, y3) => .need [(kw6 y0 y1 y2), (kwa y0 y1 y2)] (.ite (ksa y0 y1 y2 y3) (.nrm (y0, (k115 y1), y2, y3) []) (.ext 0 []))

def kul (s : St) : Option kjf :=
  (match s.look 1 with
  | some ⟨none, (.one ⟨false, [(.val (.int IntKind.i64 y0))]⟩)⟩ =>
  (match s.look 7 with
  | some ⟨none, (.one ⟨false, [(.val (.int IntKind.i64 y1))]⟩)⟩ =>
  (match s.look 0 with
  | some ⟨none, (.one ⟨false, [(.val (.string y2))]⟩)⟩ =>
  (match s.look 2 with
  | some ⟨none, (.one ⟨false, [(.val (.string y3))]⟩)⟩ =>
  some (y0, y1, y2, y3)
  | _ => none)
  | _ => none)
  | _ => none)
  | _ => none)

def k6q : Lp kjf where
  h := ⟨[8, 9, 10, 11, 12, 13, 14, 15, 16, 17, 18, 19, 20, 21, 22, 23, 24, 25, 7], [], [], []⟩
  JL := k12x
  JE := k13b
  XL := k138
  XE := k13h
  q := fun j => match j with | _ => .exit 0
  tags := [0]
  lt := kof
  fuel := fun (y0, y1, y2, y3) => y0.natAbs + y1.natAbs + y2.size + y3.size
  fix := fun (y0, _, y2, y3) (_, y1, _, _) => (y0, y1, y2, y3)
  σ := []
  rd := kul

theorem k11v : LoopOk Tryz.prog (fun k => Nat.blt k Tryz.f274.ntmps) k6q.F (loopAt Tryz.f274 0) := by
  refine Lp.ok (tbl := [koq]) (lf := []) hmix k6q (by kernel_rfl) (LOk.nil _) (fun _ => rfl) (fun _ _ => rfl) ?_ ?_ ?_ ?_ (fun _ => rfl) ?_
  · intro x; obtain ⟨y0, y1, y2, y3⟩ := x; kernel_rfl
  · intro x; obtain ⟨y0, y1, y2, y3⟩ := x; kernel_rfl
  · intro s x h
    have h : kul s = some x := h
    unfold kul at h
    repeat' split at h
    all_goals cases h
    exact ⟨absS_cons (by assumption) rfl (absS_cons (by assumption) rfl (absS_cons (by assumption) rfl (absS_cons (by assumption) rfl (rfl)))), rfl⟩
  · intro x; obtain ⟨y0, y1, y2, y3⟩ := x; kernel_rfl
  · intro x z; obtain ⟨y0, y1, y2, y3⟩ := x; exact (And.intro rfl trivial)

def k12w (x0 : ByteArray) (x1 : Int) (x2 : ByteArray) : Int × Int × ByteArray × ByteArray :=
  (x1, (0 : Int), x0, x2)

def k13i (x0 : ByteArray) (x1 : Int) (x2 : ByteArray) : Int :=
  Prod.fst (Prod.snd (Prod.snd (Lp.res k6q (k12w x0 x1 x2))))

def k13o (x0 : ByteArray) (x1 : Int) (x2 : ByteArray) : Bool :=
  allT [Lp.fin k6q (k12w x0 x1 x2)]

def k13j : List SV → List Entry → Option Out
  | [.one ⟨false, [.val (.string x0)]⟩, .one ⟨false, [.val (.int .i64 x1)]⟩, .one ⟨false, [.val (.string x2)]⟩], [] => some ⟨(.one ⟨false, [(.val (.int IntKind.i64 (k13i x0 x1 x2)))]⟩), [], [], [(k13o x0 x1 x2)]⟩
  | _, _ => none

def k153 : PF Tryz.prog := PF.ofG Tryz.prog [koq] [k6q.F] hmix 274 Tryz.f274 Tryz.func274 (LOk.fnT (l := [loopAt Tryz.f274 0]) (by kernel_rfl) (.cons k11v (.nil _))) k13j (by
  intro vs es r h; unfold k13j at h; split at h
  · cases h; kernel_rfl
  · cases h)

def khq (x0 : ByteArray) : Bool :=
  k9e (↑(ByteArray.size x0) : Int) (1 : Int) (12 : Int)

def kmq (x0 : ByteArray) : Bool :=
  bif khq x0 then
  leI (0 : Int)
    (klp
      {
        data :=
          #[(97 : UInt8), (98 : UInt8), (99 : UInt8), (100 : UInt8), (101 : UInt8), (102 : UInt8), (103 : UInt8), (104 : UInt8), (105 : UInt8),
            (106 : UInt8), (107 : UInt8), (108 : UInt8), (109 : UInt8), (110 : UInt8), (111 : UInt8), (112 : UInt8), (113 : UInt8), (114 : UInt8),
            (115 : UInt8), (116 : UInt8), (117 : UInt8), (118 : UInt8), (119 : UInt8), (120 : UInt8), (121 : UInt8), (122 : UInt8)] }
      (↑(UInt8.toNat (Option.getD x0[Int.toNat (0 : Int)]? (0 : UInt8))) : Int))
  else false

def kw3 (x0 : ByteArray) : Bool :=
  bif kmq x0 then
  k13i x0 (0 : Int)
      {
        data :=
          #[(97 : UInt8), (98 : UInt8), (99 : UInt8), (100 : UInt8), (101 : UInt8), (102 : UInt8), (103 : UInt8), (104 : UInt8), (105 : UInt8),
            (106 : UInt8), (107 : UInt8), (108 : UInt8), (109 : UInt8), (110 : UInt8), (111 : UInt8), (112 : UInt8), (113 : UInt8), (114 : UInt8),
            (115 : UInt8), (116 : UInt8), (117 : UInt8), (118 : UInt8), (119 : UInt8), (120 : UInt8), (121 : UInt8), (122 : UInt8), (48 : UInt8),
            (49 : UInt8), (50 : UInt8), (51 : UInt8), (52 : UInt8), (53 : UInt8), (54 : UInt8), (55 : UInt8), (56 : UInt8), (57 : UInt8),
            (95 : UInt8)] } ==
    (↑(ByteArray.size x0) : Int)
  else false

def kwd (x0 : ByteArray) : Bool :=
  allT
  [!(khq x0 && true) || leI (0 : Int) (0 : Int), !(khq x0 && true) || ltI (0 : Int) (↑(ByteArray.size x0) : Int),
    !(kmq x0 && true) ||
      k13o x0 (0 : Int)
        {
          data :=
            #[(97 : UInt8), (98 : UInt8), (99 : UInt8), (100 : UInt8), (101 : UInt8), (102 : UInt8), (103 : UInt8), (104 : UInt8), (105 : UInt8),
              (106 : UInt8), (107 : UInt8), (108 : UInt8), (109 : UInt8), (110 : UInt8), (111 : UInt8), (112 : UInt8), (113 : UInt8), (114 : UInt8),
              (115 : UInt8), (116 : UInt8), (117 : UInt8), (118 : UInt8), (119 : UInt8), (120 : UInt8), (121 : UInt8), (122 : UInt8), (48 : UInt8),
              (49 : UInt8), (50 : UInt8), (51 : UInt8), (52 : UInt8), (53 : UInt8), (54 : UInt8), (55 : UInt8), (56 : UInt8), (57 : UInt8),
              (95 : UInt8)] }]

def k117 : List SV → List Entry → Option Out
  | [.one ⟨false, [.val (.string x0)]⟩], [] => some ⟨(.one ⟨false, [(.val (.bool (kw3 x0)))]⟩), [], [], [(kwd x0)]⟩
  | _, _ => none

def k13q : PF Tryz.prog := PF.ofG Tryz.prog [ksi, koq, k153] [] hmix 257 Tryz.f257 Tryz.func257 (fun c _ => LOk.nil c) k117 (by
  intro vs es r h; unfold k117 at h; split at h
  · cases h; kernel_rfl
  · cases h)

abbrev k27 := Int × Int × ByteArray × List ByteArray

def k7r (y0 : Int) (y1 : Int) : Bool :=
  ltI y0 y1

def k7p (y0 : Int) : Bool :=
  leI (0 : Int) y0

def k7n (y0 : Int) (y3 : List ByteArray) : Bool :=
  ltI y0 (↑(List.length y3) : Int)

def k7q (y0 : Int) (y3 : List ByteArray) : Bool :=
  ltN (Int.toNat y0) (List.length y3)

def k7l (y0 : Int) (y2 : ByteArray) (y3 : List ByteArray) : Bool :=
  ByteArray.toList y2 == ByteArray.toList (Option.getD y3[Int.toNat y0]? ByteArray.empty)

def k7m (y0 : Int) : Int :=
  IntKind.wrap IntKind.i64 (y0 + (1 : Int))

def kp8 : k27 → List (Nat × SV)
  | (y0, y1, y2, _) => [(8, (.one ⟨false, [(.val (.int IntKind.i64 y0))]⟩)), (7, (.one ⟨false, [(.val (.int IntKind.i64 y1))]⟩)), (1, (.one ⟨false, [(.val (.string y2))]⟩)), (0, (.one ⟨false, [(.ref 0)]⟩))]

def kp2 : k27 → List (Nat × Entry)
  | (_, _, _, y3) => [(0, (.row false 9 (CTy.str) y3))]

def koy : Nat → k27 → List (Nat × SV)
  | 0, (y0, _, _, _) => [(4, (.one ⟨false, [(.val (.int IntKind.i64 y0))]⟩))]
  | _, (_, _, _, _) => []

def kp7 : Nat → k27 → List (Nat × Entry)
  | 0, (_, _, _, y3) => [(0, (.row false 9 (CTy.str) y3))]
  | _, (_, _, _, y3) => [(0, (.row false 9 (CTy.str) y3))]

def k71 : k27 → LT k27
  | (y0, y1, y2, y3) => .ite (k7r y0 y1) (.need [(k7p y0), (k7n y0 y3), (k7q y0 y3)] (.ite (k7l y0 y2 y3) (.ext 0 [(0, 0)]) (.nrm ((k7m y0), y1, y2, y3) [(0, 0)]))) (.ext 1 [(0, 0)])

def kdx (s : St) : Option k27 :=
  (match s.look 8 with
  | some ⟨none, (.one ⟨false, [(.val (.int IntKind.i64 y0))]⟩)⟩ =>
  (match s.look 7 with
  | some ⟨none, (.one ⟨false, [(.val (.int IntKind.i64 y1))]⟩)⟩ =>
  (match s.look 1 with
  | some ⟨none, (.one ⟨false, [(.val (.string y2))]⟩)⟩ =>
  (match s.look 0 with
  | some ⟨none, (.one ⟨false, [(.ref 0)]⟩)⟩ =>
  (match s.ent 0 with
  | some (.row false 9 (CTy.str) y3) =>
  some (y0, y1, y2, y3)
  | _ => none)
  | _ => none)
  | _ => none)
  | _ => none)
  | _ => none)

def k1a : Lp k27 where
  h := ⟨[9, 10, 5, 11, 12, 13, 14, 15, 16, 17, 4, 18, 8], [0], [], []⟩
  JL := kp8
  JE := kp2
  XL := koy
  XE := kp7
  q := fun j => match j with | 0 => .ret | _ => .exit 0
  tags := [0, 1]
  lt := k71
  fuel := fun (y0, y1, y2, y3) => y0.natAbs + y1.natAbs + y2.size + y3.length
  fix := fun (_, y1, y2, y3) (y0, _, _, _) => (y0, y1, y2, y3)
  σ := [(0, 0)]
  rd := kdx

theorem koa : LoopOk Tryz.prog (fun k => Nat.blt k Tryz.f120.ntmps) k1a.F (loopAt Tryz.f120 0) := by
  refine Lp.ok (tbl := []) (lf := []) hmix k1a (by kernel_rfl) (LOk.nil _) (fun _ => rfl) (fun j _ => by unfold k1a; match j with | 0 => rfl | _ + 1 => rfl) ?_ ?_ ?_ ?_ (fun _ => rfl) ?_
  · intro x; obtain ⟨y0, y1, y2, y3⟩ := x; kernel_rfl
  · intro x; obtain ⟨y0, y1, y2, y3⟩ := x; kernel_rfl
  · intro s x h
    have h : kdx s = some x := h
    unfold kdx at h
    repeat' split at h
    all_goals cases h
    exact ⟨absS_cons (by assumption) rfl (absS_cons (by assumption) rfl (absS_cons (by assumption) rfl (absS_cons (by assumption) rfl (rfl)))), absE_cons rfl (by assumption) rfl (rfl)⟩
  · intro x; obtain ⟨y0, y1, y2, y3⟩ := x; kernel_rfl
  · intro x z; obtain ⟨y0, y1, y2, y3⟩ := x; exact (And.intro (And.intro trivial rfl) trivial)

def kc8 (x0 : ByteArray) (x1 : List ByteArray) : Int × Int × ByteArray × List ByteArray :=
  ((0 : Int), (↑(List.length x1) : Int), x0, x1)

def kfr (x0 : ByteArray) (x1 : List ByteArray) : Int :=
  bif Nat.beq (Prod.fst (Lp.res k1a (kc8 x0 x1))) (0 : Nat) then
  Prod.fst (Prod.snd (Lp.res k1a (kc8 x0 x1)))
  else (-1 : Int)

def kg1 (x0 : ByteArray) (x1 : List ByteArray) : Bool :=
  allT [Lp.fin k1a (kc8 x0 x1)]

def km6 : List SV → List Entry → Option Out
  | [.one ⟨false, [.ref 0]⟩, .one ⟨false, [.val (.string x0)]⟩], [.row false 9 (.str) x1] => some ⟨(.one ⟨false, [(.val (.int IntKind.i64 (kfr x0 x1)))]⟩), [(.row false 9 (CTy.str) x1)], [], [(kg1 x0 x1)]⟩
  | _, _ => none

def kg9 : PF Tryz.prog := PF.ofG Tryz.prog [] [k1a.F] hmix 120 Tryz.f120 Tryz.func120 (LOk.fnT (l := [loopAt Tryz.f120 0]) (by kernel_rfl) (.cons koa (.nil _))) km6 (by
  intro vs es r h; unfold km6 at h; split at h
  · cases h; kernel_rfl
  · cases h)

def keg (x0 : ByteArray) (x1 : List ByteArray) : Bool :=
  leI (0 : Int) (kfr x0 x1)

def kek (x0 : ByteArray) (x1 : List ByteArray) : Bool :=
  allT [kg1 x0 x1]

def kjg : List SV → List Entry → Option Out
  | [.one ⟨false, [.ref 0]⟩, .one ⟨false, [.val (.string x0)]⟩], [.row false 9 (.str) x1] => some ⟨(.one ⟨false, [(.val (.bool (keg x0 x1)))]⟩), [(.row false 9 (CTy.str) x1)], [], [(kek x0 x1)]⟩
  | _, _ => none

def keh : PF Tryz.prog := PF.ofG Tryz.prog [kg9, PF.lend kg9, PF.fz kg9] [] hmix 234 Tryz.f234 Tryz.func234 (fun c _ => LOk.nil c) kjg (by
  intro vs es r h; unfold kjg at h; split at h
  · cases h; kernel_rfl
  · cases h)

def krb (x0 : ByteArray) : Bool :=
  keg x0 (List.drop (Int.toNat (0 : Int)) (List.take (Int.toNat (↑(List.length tab0) : Int)) tab0))

def kre (x0 : ByteArray) : Bool :=
  allT [kek x0 (List.drop (Int.toNat (0 : Int)) (List.take (Int.toNat (↑(List.length tab0) : Int)) tab0))]

def kw4 : List SV → List Entry → Option Out
  | [.one ⟨false, [.val (.string x0)]⟩], [] => some ⟨(.one ⟨false, [(.val (.bool (krb x0)))]⟩), [], [], [(kre x0)]⟩
  | _, _ => none

def k11w : PF Tryz.prog := PF.ofG Tryz.prog [keh, PF.lend keh, PF.fz keh] [] hmix 258 Tryz.f258 Tryz.func258 (fun c _ => LOk.nil c) kw4 (by
  intro vs es r h; unfold kw4 at h; split at h
  · cases h; kernel_rfl
  · cases h)

end Go.SX

namespace Go.SX
open Go.Proofs
set_option maxRecDepth 100000

/-- A loop over numbers that stops at the first of a kind. -/
theorem Lp.scan {X : Type} (p : Lp X) (st : Nat → X) (N : Nat) (P : Nat → Bool) (e : Nat) (hN : N ≤ p.fuel (st 0))
    (hs : ∀ b, b < N → (p.lt (st b)).nds = true ∧ (p.lt (st b)).each (fun y => y = st (b + 1)) ∧ (p.lt (st b)).fn (fun _ => ()) = (bif P b then .inl 0 else .inr ()))
    (he : (p.lt (st N)).out = some (.inl e)) : p.fin (st 0) = true ∧ (p.res (st 0)).1 = bif (List.range N).any P then 0 else e := by
  have key := p.along (fun i (_ : Unit) => st i) (fun _ => ()) (fun (b : Nat) (_ : Unit) => bif P b then .inl 0 else .inr ()) e (fun _ _ => True) (List.range N) () trivial (by rw [List.length_range]; exact hN)
    (fun i b a hb _ => by
      obtain ⟨rfl, hlt⟩ := range_get hb
      obtain ⟨h1, h2, h3⟩ := hs b hlt
      exact ⟨h1, h2, h3, fun _ _ => trivial⟩) (fun a _ => by rw [List.length_range]; exact he)
  rw [walk_stop (P := P) (j := 0) (fun b => rfl)] at key
  exact ⟨key.1, by rw [key.2]⟩

/-- A byte of a text. -/
def bAt (s : ByteArray) (b : Nat) : Int := ((s[b]?.getD 0).toNat : Int)
def letB (c : Int) : Bool := inR c 97 122
def innB (c : Int) : Bool := letB c || (inR c 48 57 || c == 95)
/-- A word. -/
def wordB (s : ByteArray) : Bool := inR (s.size : Int) 1 12 && (letB (bAt s 0) && (List.range s.size).all fun b => innB (bAt s b))
/-- A keyword. -/
def keyB (s : ByteArray) : Bool := tab0.any fun k => k.toList == s.toList
/-- A name. -/
def nameB (s : ByteArray) : Bool := wordB s && !keyB s

def abcS : ByteArray := ⟨#[97, 98, 99, 100, 101, 102, 103, 104, 105, 106, 107, 108, 109, 110, 111, 112, 113, 114, 115, 116, 117, 118, 119, 120, 121, 122]⟩
def wbS : ByteArray := ⟨#[97, 98, 99, 100, 101, 102, 103, 104, 105, 106, 107, 108, 109, 110, 111, 112, 113, 114, 115, 116, 117, 118, 119, 120, 121, 122, 48, 49, 50, 51, 52, 53, 54, 55, 56, 57, 95]⟩

theorem k160 : ∀ n : Nat, n < 256 → leI 0 (ibs abcS (n : Int)) = letB (n : Int) := by decide +kernel
theorem wb_nat : ∀ n : Nat, n < 256 → leI 0 (ibs wbS (n : Int)) = innB (n : Int) := by decide +kernel

theorem abc_ok (s : ByteArray) (b : Nat) : leI 0 (ibs abcS (bAt s b)) = letB (bAt s b) := k160 _ (UInt8.toNat_lt _)
theorem wb_ok (s : ByteArray) (b : Nat) : leI 0 (ibs wbS (bAt s b)) = innB (bAt s b) := wb_nat _ (UInt8.toNat_lt _)

theorem specInner (c : Int) : kpl c = innB c := by
  simp only [kpl, kmc, ktb, inR_eq, innB, letB]
  cases inR c 97 122 <;> cases inR c 48 57 <;> rfl

theorem k14w (s : ByteArray) (hn : s.size ≤ 9223372036854775807) :
    k3w.fin ((0 : Int), s) = true ∧ (k3w.res ((0 : Int), s)).1 = bif (List.range s.size).any (fun b => !innB (bAt s b)) then 0 else 1 := by
  refine Lp.scan k3w (fun b => ((b : Int), s)) s.size (fun b => !innB (bAt s b)) 1 (by simp only [k3w]; omega) (fun b hb => ?_) ?_
  · have hdec : ltI (b : Int) (s.size : Int) = true := ltI_t (by omega)
    have hw : IntKind.i64.wrap ((b : Int) + 1) = ((b + 1 : Nat) : Int) := by rw [wrap_i64 (by omega) (by omega)]; omega
    have hnn : leI (0 : Int) (b : Int) = true := leI_t (by omega)
    have i2 : kq7 (b : Int) s = !innB (bAt s b) := by simp only [kq7, specInner, Int.toNat_natCast, bAt]
    refine ⟨?_, ?_, ?_⟩
    · simp [k3w, kj2, LT.nds, allT, kka, kva, hdec, hnn]
    · simp [k3w, kj2, LT.each, kve, hw]
    · simp only [k3w, kj2, LT.fn, kka, hdec, i2, cond_true]
  · simp [k3w, kj2, LT.out, kka]

theorem k14h (s : ByteArray) (h : leN s.size 9223372036854775807 = true) : kua s = wordB s ∧ kuu s = true := by
  obtain ⟨w1, w2⟩ := k14w s (leN_iff.1 h)
  have e5 : ((List.range s.size).any fun b => !innB (bAt s b)) = !(List.range s.size).all fun b => innB (bAt s b) := by simp [List.all_eq_not_any_not]
  rw [e5] at w2
  have eb : ((UInt8.toNat (Option.getD s[Int.toNat (0 : Int)]? (0 : UInt8)) : Nat) : Int) = bAt s 0 := rfl
  have h0 : leI 0 0 = true := rfl
  simp only [kua, kuu, kph, kps, w1, w2, eb, h0, kmc, k1r, inR_eq, wordB, letB, allT, Bool.or_true, cond_true]
  cases hr : inR (s.size : Int) 1 12 with
  | false => cases (List.range s.size).all fun b => innB (bAt s b) <;> simp [Nat.beq]
  | true =>
    have := ks3.1 hr
    rw [ltI_t (by omega)]
    cases inR (bAt s 0) 97 122 <;> cases (List.range s.size).all fun b => innB (bAt s b) <;> simp [Nat.beq]

theorem w_run (s : ByteArray) (hn : s.size ≤ 9223372036854775806) :
    k6q.fin ((0 : Int), (0 : Int), s, wbS) = true ∧ ((k6q.res ((0 : Int), (0 : Int), s, wbS)).2.2.1 == (s.size : Int)) = (List.range s.size).all fun b => innB (bAt s b) := by
  have hz : ∀ i : Nat, i ≤ s.size → IntKind.i64.wrap ((0 : Int) + (i : Int)) = (i : Int) := fun i hi => by rw [wrap_i64 (by omega) (by omega)]; omega
  have key := k6q.along (fun i (_ : Unit) => ((0 : Int), (i : Int), s, wbS)) (fun _ => ()) (fun (b : Nat) (_ : Unit) => bif !innB (bAt s b) then .inl 0 else .inr ()) 0 (fun _ _ => True) (List.range s.size) () trivial (by simp only [k6q, List.length_range]; omega)
    (fun i b a hb _ => by
      obtain ⟨rfl, hlt⟩ := range_get hb
      have hdec : ltI (b : Int) (s.size : Int) = true := ltI_t (by omega)
      have hnn : leI (0 : Int) (b : Int) = true := leI_t (by omega)
      have hw : IntKind.i64.wrap ((b : Int) + 1) = ((b + 1 : Nat) : Int) := by rw [wrap_i64 (by omega) (by omega)]; omega
      have ha : khe 0 (b : Int) s = true := by simp only [khe, hz b (by omega), hdec]
      have hb2 : ksa 0 (b : Int) s wbS = innB (bAt s b) := by
        simp only [ksa, ha, cond_true, hz b (by omega), Int.toNat_natCast, klp, kdq]
        exact wb_ok s b
      refine ⟨?_, ?_, ?_, fun _ _ => trivial⟩
      · have hz2 := hz b (by omega)
        rw [Int.zero_add] at hz2
        simp [k6q, kof, LT.nds, allT, kw6, kwa, ha, hz2]
      · simp [k6q, kof, LT.each, k115, hw]
      · simp only [k6q, kof, LT.fn, hb2]
        cases innB (bAt s b) <;> rfl)
    (fun a _ => by
      have hdec : ltI (s.size : Int) (s.size : Int) = false := by simp
      have ha : khe 0 (s.size : Int) s = false := by simp only [khe, hz s.size (by omega), hdec]
      rw [List.length_range]
      simp [k6q, kof, LT.out, ksa, kw6, kwa, allT, ha])
  rw [walk_stop (P := fun b => !innB (bAt s b)) (j := 0) (fun b => rfl)] at key
  refine ⟨key.1, ?_⟩
  have k2 : k6q.res ((0 : Int), (0 : Int), s, wbS) = _ := key.2
  rw [k2]
  simp only [Nat.zero_add]
  rw [Bool.eq_iff_iff, beq_iff_eq, List.all_eq_true]
  have hl : ∀ (l : List Nat) (P : Nat → Bool), (l.takeWhile P).length = l.length ↔ ∀ x ∈ l, P x = true := by
    intro l P
    induction l with
    | nil => simp
    | cons a r ih =>
      rw [List.takeWhile_cons]
      cases h : P a with
      | false => simp [h]
      | true => simp [h, ih]
  have h2 := hl (List.range s.size) (fun b => !!innB (bAt s b))
  rw [List.length_range] at h2
  constructor
  · intro h x hx; have := h2.1 (by exact_mod_cast h) x hx; simpa using this
  · intro h; exact_mod_cast h2.2 (fun x hx => by simpa using h x hx)

theorem k14c (s : ByteArray) : kw3 s = wordB s ∧ kwd s = true := by
  have eb : ((UInt8.toNat (Option.getD s[Int.toNat (0 : Int)]? (0 : UInt8)) : Nat) : Int) = bAt s 0 := rfl
  have e0 : khq s = inR (s.size : Int) 1 12 := by simp only [khq, k9e, inR_eq]
  have e1 : kmq s = (inR (s.size : Int) 1 12 && letB (bAt s 0)) := by
    have : kmq s = bif khq s then leI 0 (ibs abcS (bAt s 0)) else false := rfl
    rw [this, e0, abc_ok]
    cases inR (s.size : Int) 1 12 <;> rfl
  have e2 : kw3 s = bif kmq s then (k6q.res ((0 : Int), (0 : Int), s, wbS)).2.2.1 == (s.size : Int) else false := rfl
  have e3 : kwd s = allT [!(khq s && true) || leI (0) (0), !(khq s && true) || ltI (0) (↑(ByteArray.size s)), !(kmq s && true) || allT [k6q.fin ((0 : Int), (0 : Int), s, wbS)]] := rfl
  have h0 : leI 0 0 = true := rfl
  rw [e2, e3, e1, e0, h0]
  cases hr : inR (s.size : Int) 1 12 with
  | false => simp [wordB, hr, allT]
  | true =>
    have := ks3.1 hr
    obtain ⟨w1, w2⟩ := w_run s (by omega)
    rw [w1, w2, ltI_t (by omega)]
    simp only [wordB, hr, allT, Bool.true_and, Bool.and_true, Bool.or_true, cond_true]
    cases letB (bAt s 0) <;> simp

def kg2 (y1 : ByteArray) (b : ByteArray) : (Unit) → Nat ⊕ (Unit)
  | _ => (bif ((ByteArray.toList (b) == ByteArray.toList y1)) then (.inl 0) else (.inr ()))

def k8u (y1 : ByteArray) (y2 : List ByteArray) (i : Nat) : (Unit) → k69
  | _ => ((i : Int), y1, y2)

def kmz : k69 → Unit
  | (_, _, _) => ()

theorem ky5 (y1 : ByteArray) (y2 : List ByteArray)  (hn : y2.length ≤ 9223372036854775807)  :
    k2i.fin ((0 : Int), y1, y2) = true ∧ k2i.res ((0 : Int), y1, y2) = ((walkL (kg2 y1) 1 y2 0 ()).1, (k8u y1 y2) (walkL (kg2 y1) 1 y2 0 ()).2.1 (walkL (kg2 y1) 1 y2 0 ()).2.2) := by
  have key := k2i.along (k8u y1 y2) kmz (kg2 y1) 1 (fun _ _ => True) y2 () (by trivial) (by simp only [k2i, k8u]; omega) (fun i b a hb hI => ?_) (fun a hI => ?_)
  · exact key
  · obtain ⟨⟩ := a
    have hlt := (List.getElem?_eq_some_iff.1 hb).1
    have hget : ∀ d, Option.getD y2[i]? d = b := fun d => by rw [hb]; rfl
    have hw := wrap64 hlt hn
    have hdec : ltI (i : Int) (y2.length : Int) = true := ltI_t (by omega)
    have hnn : leI (0 : Int) (i : Int) = true := leI_t (by omega)
    have hltd : ltN i y2.length = true := ltN_t hlt
    refine ⟨?_, ?_, ?_, ?_⟩
    · simp [ke1, kg0, kfw, kg7, kgg, kf5, k2i, LT.nds, allT, k8u, hdec, hnn, hltd, hget]
    · simp [ke1, kg0, kfw, kg7, kgg, kf5, k2i, LT.each, k8u, kmz, hw]
    · simp only [ke1, kg0, kfw, kg7, kgg, kf5, k2i, LT.fn, k8u, kmz, kg2, Int.toNat_natCast, hdec, hnn, hltd, hget, cond_true, Bool.cond_self]
    · exact fun _ _ => trivial
  · obtain ⟨⟩ := a
    simp [ke1, kg0, kfw, kg7, kgg, kf5, k2i, LT.out, k8u]

def k7o (y2 : ByteArray) (b : ByteArray) : (Unit) → Nat ⊕ (Unit)
  | _ => (bif ((ByteArray.toList y2 == ByteArray.toList (b))) then (.inl 0) else (.inr ()))

def k2o (y2 : ByteArray) (y3 : List ByteArray) (i : Nat) : (Unit) → k27
  | _ => ((i : Int), (↑(List.length y3) : Int), y2, y3)

def ke2 : k27 → Unit
  | (_, _, _, _) => ()

theorem kpx (y2 : ByteArray) (y3 : List ByteArray)  (hn : y3.length ≤ 9223372036854775807)  :
    k1a.fin ((0 : Int), (↑(List.length y3) : Int), y2, y3) = true ∧ k1a.res ((0 : Int), (↑(List.length y3) : Int), y2, y3) = ((walkL (k7o y2) 1 y3 0 ()).1, (k2o y2 y3) (walkL (k7o y2) 1 y3 0 ()).2.1 (walkL (k7o y2) 1 y3 0 ()).2.2) := by
  have key := k1a.along (k2o y2 y3) ke2 (k7o y2) 1 (fun _ _ => True) y3 () (by trivial) (by simp only [k1a, k2o]; omega) (fun i b a hb hI => ?_) (fun a hI => ?_)
  · exact key
  · obtain ⟨⟩ := a
    have hlt := (List.getElem?_eq_some_iff.1 hb).1
    have hget : ∀ d, Option.getD y3[i]? d = b := fun d => by rw [hb]; rfl
    have hw := wrap64 hlt hn
    have hdec : ltI (i : Int) (y3.length : Int) = true := ltI_t (by omega)
    have hnn : leI (0 : Int) (i : Int) = true := leI_t (by omega)
    have hltd : ltN i y3.length = true := ltN_t hlt
    refine ⟨?_, ?_, ?_, ?_⟩
    · simp [k7r, k7p, k7n, k7q, k7l, k7m, k71, k1a, LT.nds, allT, k2o, hdec, hnn, hltd, hget]
    · simp [k7r, k7p, k7n, k7q, k7l, k7m, k71, k1a, LT.each, k2o, ke2, hw]
    · simp only [k7r, k7p, k7n, k7q, k7l, k7m, k71, k1a, LT.fn, k2o, ke2, k7o, Int.toNat_natCast, hdec, hnn, hltd, hget, cond_true, Bool.cond_self]
    · exact fun _ _ => trivial
  · obtain ⟨⟩ := a
    simp [k7r, k7p, k7n, k7q, k7l, k7m, k71, k1a, LT.out, k2o]

theorem key17 : tab0.length ≤ 9223372036854775807 := by decide

theorem k14n (s : ByteArray) : ltI (knf s) 0 = !keyB s ∧ kne s = true := by
  have e0 : kpf = tab0 := rfl
  obtain ⟨w1, w2⟩ := ky5 s tab0 key17
  rw [walk_stop (P := fun k => k.toList == s.toList) (j := 0) (fun k => rfl)] at w2
  simp only [knf, kne, kmj, e0, w1, w2, allT, keyB, k8u]
  cases tab0.any fun k => k.toList == s.toList with
  | false => exact ⟨rfl, rfl⟩
  | true =>
    simp only [cond_true, Nat.beq]
    refine ⟨?_, trivial⟩
    exact ltI_not.2 (by omega)

theorem k154 (s : ByteArray) : krb s = keyB s ∧ kre s = true := by
  have e0 : List.drop (Int.toNat (0)) (List.take (Int.toNat (↑(List.length tab0))) tab0) = tab0 := rfl
  obtain ⟨w1, w2⟩ := kpx s tab0 key17
  rw [walk_stop (P := fun k => s.toList == k.toList) (j := 0) (fun k => rfl)] at w2
  have e1 : (fun k : ByteArray => s.toList == k.toList) = fun k => k.toList == s.toList := funext fun k => BEq.comm
  rw [e1] at w2
  simp only [krb, kre, e0, keg, kek, kfr, kg1, kc8, w1, w2, allT, keyB, k2o]
  cases tab0.any fun k => k.toList == s.toList with
  | false => exact ⟨rfl, rfl⟩
  | true =>
    simp only [cond_true, Nat.beq]
    rw [leI_t (by omega)]; simp

def kzq : List SV → List Entry → Option Out
  | [.one ⟨false, [.val (.string x0)]⟩], [] => some ⟨(.one ⟨false, [(.val (.bool (wordB x0)))]⟩), [], [], [leN x0.size 9223372036854775807]⟩
  | _, _ => none

def k134 : PF Tryz.prog := PF.alt k12z kzq (by
  intro args es o h hnd; unfold kzq at h; split at h
  · rename_i x0
    cases h
    have hnd := nd_fst hnd
    have hh := k14h x0 hnd
    obtain ⟨e0, en⟩ := hh
    exact altok rfl (nd_one en) (by simp only [e0] <;> rfl) rfl rfl
  · cases h)

def k116 : List SV → List Entry → Option Out
  | [.one ⟨false, [.val (.string x0)]⟩], [] => some ⟨(.one ⟨false, [(.val (.bool (wordB x0)))]⟩), [], [], []⟩
  | _, _ => none

def k13t : PF Tryz.prog := PF.alt k13q k116 (by
  intro args es o h hnd; unfold k116 at h; split at h
  · rename_i x0
    cases h
    have hh := k14c x0
    obtain ⟨e0, en⟩ := hh
    exact altok rfl (nd_one en) (by simp only [e0] <;> rfl) rfl rfl
  · cases h)

def kwi : List SV → List Entry → Option Out
  | [.one ⟨false, [.val (.string x0)]⟩], [] => some ⟨(.one ⟨false, [(.val (.bool (keyB x0)))]⟩), [], [], []⟩
  | _, _ => none

def k11y : PF Tryz.prog := PF.alt k11w kwi (by
  intro args es o h hnd; unfold kwi at h; split at h
  · rename_i x0
    cases h
    have hh := k154 x0
    obtain ⟨e0, en⟩ := hh
    exact altok rfl (nd_one en) (by simp only [e0] <;> rfl) rfl rfl
  · cases h)

end Go.SX

namespace Go.SX
open Go.Proofs
set_option maxRecDepth 100000

def kqz (x0 : ByteArray) : Bool :=
  bif wordB x0 then ltI (knf x0) (0 : Int) else false

def kr1 (x0 : ByteArray) : Bool :=
  allT [leN (ByteArray.size x0) (9223372036854775807 : Nat), !(wordB x0 && true) || kne x0]

def kze : List SV → List Entry → Option Out
  | [.one ⟨false, [.val (.string x0)]⟩], [] => some ⟨(.one ⟨false, [(.val (.bool (kqz x0)))]⟩), [], [], [(kr1 x0)]⟩
  | _, _ => none

def k133 : PF Tryz.prog := PF.ofG Tryz.prog [k134, k11n] [] hmix 239 Tryz.f239 Tryz.func239 (fun c _ => LOk.nil c) kze (by
  intro vs es r h; unfold kze at h; split at h
  · cases h; kernel_rfl
  · cases h)

def krj (x0 : Int) : Bool :=
  bif bif bif x0 == (7 : Int) then true else x0 == (8 : Int) then true else x0 == (11 : Int) then true else x0 == (12 : Int)

def kvn : List SV → List Entry → Option Out
  | [.one ⟨false, [.val (.int .i64 x0)]⟩], [] => some ⟨(.one ⟨false, [(.val (.bool (krj x0)))]⟩), [], [], []⟩
  | _, _ => none

def k128 : PF Tryz.prog := PF.ofG Tryz.prog [] [] hmix 251 Tryz.f251 Tryz.func251 (fun c _ => LOk.nil c) kvn (by
  intro vs es r h; unfold kvn at h; split at h
  · cases h; kernel_rfl
  · cases h)

def ktz (x0 : Int) : Bool :=
  k1r x0 (1 : Int) (12 : Int)

def kzp : List SV → List Entry → Option Out
  | [.one ⟨false, [.val (.int .i64 x0)]⟩], [] => some ⟨(.one ⟨false, [(.val (.bool (ktz x0)))]⟩), [], [], []⟩
  | _, _ => none

def k137 : PF Tryz.prog := PF.ofG Tryz.prog [ki1] [] hmix 252 Tryz.f252 Tryz.func252 (fun c _ => LOk.nil c) kzp (by
  intro vs es r h; unfold kzp at h; split at h
  · cases h; kernel_rfl
  · cases h)

def kt1 (x0 : Int) (x2 : Int) : Bool :=
  bif bif !ktz x0 then true else !k1r x2 (0 : Int) (9999 : Int) then true
  else bif !krj x0 then x2 != (0 : Int) else false

def kqw (x0 : Int) (x1 : ByteArray) (x2 : Int) : Bool :=
  bif kt1 x0 x2 then false else bif x0 == (1 : Int) then kqz x1 else ByteArray.toList x1 == ByteArray.toList { data := #[] }

def kqt (x0 : Int) (x1 : ByteArray) (x2 : Int) : Bool :=
  allT [kt1 x0 x2 || (!x0 == (1 : Int) || kr1 x1)]

def kzk : List SV → List Entry → Option Out
  | [.one ⟨true, [.val (.int .i64 x0), .val (.string x1), .val (.int .i64 x2)]⟩], [] => some ⟨(.one ⟨false, [(.val (.bool (kqw x0 x1 x2)))]⟩), [], [], [(kqt x0 x1 x2)]⟩
  | _, _ => none

def k136 : PF Tryz.prog := PF.ofG Tryz.prog [ki1, k133, k128, k137] [] hmix 212 Tryz.f212 Tryz.func212 (fun c _ => LOk.nil c) kzk (by
  intro vs es r h; unfold kzk at h; split at h
  · cases h; kernel_rfl
  · cases h)

def kuw (x0 : Int) (x1 : ByteArray) (x2 : Int) : Bool :=
  bif kqw x0 x1 x2 then leI (7 : Int) x0 else false

def kug (x0 : Int) (x1 : ByteArray) (x2 : Int) : Bool :=
  allT [kqt x0 x1 x2]

def kz8 : List SV → List Entry → Option Out
  | [.one ⟨true, [.val (.int .i64 x0), .val (.string x1), .val (.int .i64 x2)]⟩], [] => some ⟨(.one ⟨false, [(.val (.bool (kuw x0 x1 x2)))]⟩), [], [], [(kug x0 x1 x2)]⟩
  | _, _ => none

def k13f : PF Tryz.prog := PF.ofG Tryz.prog [k136] [] hmix 154 Tryz.f154 Tryz.func154 (fun c _ => LOk.nil c) kz8 (by
  intro vs es r h; unfold kz8 at h; split at h
  · cases h; kernel_rfl
  · cases h)

def ks4 (x0 : ByteArray) : Bool :=
  bif wordB x0 then !keyB x0 else false

def k114 : List SV → List Entry → Option Out
  | [.one ⟨false, [.val (.string x0)]⟩], [] => some ⟨(.one ⟨false, [(.val (.bool (ks4 x0)))]⟩), [], [], []⟩
  | _, _ => none

def k13r : PF Tryz.prog := PF.ofG Tryz.prog [k13t, k11y] [] hmix 225 Tryz.f225 Tryz.func225 (fun c _ => LOk.nil c) k114 (by
  intro vs es r h; unfold k114 at h; split at h
  · cases h; kernel_rfl
  · cases h)

def kqh (x0 : Int) : Bool :=
  bif bif bif x0 == (7 : Int) then true else x0 == (8 : Int) then true else x0 == (11 : Int) then true else x0 == (12 : Int)

def kv2 : List SV → List Entry → Option Out
  | [.one ⟨false, [.val (.int .i64 x0)]⟩], [] => some ⟨(.one ⟨false, [(.val (.bool (kqh x0)))]⟩), [], [], []⟩
  | _, _ => none

def k11r : PF Tryz.prog := PF.ofG Tryz.prog [] [] hmix 253 Tryz.f253 Tryz.func253 (fun c _ => LOk.nil c) kv2 (by
  intro vs es r h; unfold kv2 at h; split at h
  · cases h; kernel_rfl
  · cases h)

def ksc (x0 : Int) (x1 : ByteArray) (x2 : Int) : Bool :=
  bif bif !k9e x0 (1 : Int) (12 : Int) then true else !(x0 == (1 : Int)) == !ByteArray.toList x1 == ByteArray.toList { data := #[] } then
  false
  else
  bif kqh x0 then k9e x2 (0 : Int) (9999 : Int)
  else bif x2 == (0 : Int) then bif x0 != (1 : Int) then true else ks4 x1 else false

def k10y : List SV → List Entry → Option Out
  | [.one ⟨true, [.val (.int .i64 x0), .val (.string x1), .val (.int .i64 x2)]⟩], [] => some ⟨(.one ⟨false, [(.val (.bool (ksc x0 x1 x2)))]⟩), [], [], []⟩
  | _, _ => none

def k13s : PF Tryz.prog := PF.ofG Tryz.prog [ksi, k13r, k11r] [] hmix 215 Tryz.f215 Tryz.func215 (fun c _ => LOk.nil c) k10y (by
  intro vs es r h; unfold k10y at h; split at h
  · cases h; kernel_rfl
  · cases h)

def kuq (x0 : Int) (x1 : ByteArray) (x2 : Int) : Bool :=
  bif ksc x0 x1 x2 then leI (7 : Int) x0 else false

def kzj : List SV → List Entry → Option Out
  | [.one ⟨true, [.val (.int .i64 x0), .val (.string x1), .val (.int .i64 x2)]⟩], [] => some ⟨(.one ⟨false, [(.val (.bool (kuq x0 x1 x2)))]⟩), [], [], []⟩
  | _, _ => none

def k13d : PF Tryz.prog := PF.ofG Tryz.prog [k13s] [] hmix 161 Tryz.f161 Tryz.func161 (fun c _ => LOk.nil c) kzj (by
  intro vs es r h; unfold kzj at h; split at h
  · cases h; kernel_rfl
  · cases h)

def kh8 (x0 : Int) (x2 : Int) (x3 : Int) (x4 : Int) (x5 : Int) : Bool :=
  bif bif x0 == (7 : Int) then x0 == (7 : Int) else x0 == (8 : Int) then
  bif bif k9e x3 (0 : Int) x2 then x4 == (0 : Int) else false then x5 == (0 : Int) else false
  else
  bif x0 == (11 : Int) then bif bif k9e x3 (0 : Int) x2 then k9e x4 (0 : Int) (1 : Int) else false then x5 == (0 : Int) else false
  else
    bif x0 == (12 : Int) then
      bif x4 == (0 : Int) then
        bif bif k9e x3 (0 : Int) x2 then x5 == (0 : Int) else false then true
        else bif x3 == IntKind.wrap IntKind.i64 (x2 + (1 : Int)) then x5 == (1 : Int) else false
      else false
    else bif bif k9e x3 (0 : Int) (1 : Int) then x4 == (0 : Int) else false then x5 == (0 : Int) else false

def kv4 : List SV → List Entry → Option Out
  | [.one ⟨true, [.val (.int .i64 x0), .val (.string _x1), .val (.int .i64 x2)]⟩, .one ⟨true, [.val (.int .i64 x3), .val (.int .i64 x4), .val (.int .i64 x5)]⟩], [] => some ⟨(.one ⟨false, [(.val (.bool (kh8 x0 x2 x3 x4 x5)))]⟩), [], [], []⟩
  | _, _ => none

def kv7 : PF Tryz.prog := PF.ofG Tryz.prog [ksi] [] hmix 185 Tryz.f185 Tryz.func185 (fun c _ => LOk.nil c) kv4 (by
  intro vs es r h; unfold kv4 at h; split at h
  · cases h; kernel_rfl
  · cases h)

def k2e (x0 : Int) (x2 : Int) (x3 : Int) (x4 : Int) (x5 : Int) : Bool :=
  bif bif x0 == (9 : Int) then x0 == (9 : Int) else x0 == (10 : Int) then
  bif bif k1r x3 (0 : Int) (1 : Int) then x4 == (0 : Int) else false then x5 == (0 : Int) else false
  else
  bif x0 == (11 : Int) then bif bif k1r x3 (0 : Int) x2 then k1r x4 (0 : Int) (1 : Int) else false then x5 == (0 : Int) else false
  else
    bif x0 == (12 : Int) then
      bif x4 == (0 : Int) then
        bif bif k1r x3 (0 : Int) x2 then x5 == (0 : Int) else false then true
        else bif x3 == IntKind.wrap IntKind.i64 (x2 + (1 : Int)) then x5 == (1 : Int) else false
      else false
    else bif bif k1r x3 (0 : Int) x2 then x4 == (0 : Int) else false then x5 == (0 : Int) else false

def ktk : List SV → List Entry → Option Out
  | [.one ⟨true, [.val (.int .i64 x0), .val (.string _x1), .val (.int .i64 x2)]⟩, .one ⟨true, [.val (.int .i64 x3), .val (.int .i64 x4), .val (.int .i64 x5)]⟩], [] => some ⟨(.one ⟨false, [(.val (.bool (k2e x0 x2 x3 x4 x5)))]⟩), [], [], []⟩
  | _, _ => none

def kts : PF Tryz.prog := PF.ofG Tryz.prog [ki1] [] hmix 169 Tryz.f169 Tryz.func169 (fun c _ => LOk.nil c) ktk (by
  intro vs es r h; unfold ktk at h; split at h
  · cases h; kernel_rfl
  · cases h)

end Go.SX

namespace Go.SX
open Go.Proofs
set_option maxRecDepth 100000

/-- Kinds of terms that have a number. -/
def countK (k : Int) : Bool := k == 7 || (k == 8 || (k == 11 || k == 12))
/-- A valid term. -/
def termB (k : Int) (s : ByteArray) (n : Int) : Bool := inR k 1 12 && (inR n 0 9999 && ((countK k || n == 0) && (bif k == 1 then nameB s else s.toList == [])))
/-- A valid block. -/
def blockB (k : Int) (s : ByteArray) (n : Int) : Bool := termB k s n && leI 7 k
/-- A possible state of a block. -/
def possB (k n a b c : Int) : Bool := k2e k n a b c

theorem k147 : ByteArray.toList { data := #[] } = [] := by rw [Go.Lib.toList_data]

theorem k168 {s : ByteArray} (h : nameB s = true) : (s.toList == []) = false := by
  simp only [nameB, wordB, Bool.and_eq_true, ks3] at h
  have h1 : s.size = s.toList.length := by rw [Go.Lib.size_eq, Go.Lib.toList_data]
  cases hs : s.toList with
  | nil =>
    rw [hs] at h1
    have h2 : s.size = 0 := h1
    omega
  | cons a l => rfl

theorem n0_in {n : Int} (h : (n == 0) = true) : inR n 0 9999 = true := by
  have : n = 0 := by simpa using h
  rw [this]; rfl

theorem k14e (k : Int) (s : ByteArray) (n : Int) (h : leN s.size 9223372036854775807 = true) : kqw k s n = termB k s n ∧ kqt k s n = true := by
  obtain ⟨e1, e2⟩ := k14n s
  have e3 : kqz s = nameB s := by simp only [kqz, e1, nameB]; cases wordB s <;> rfl
  have e4 : kr1 s = true := by simp only [kr1, e2, h, allT, Bool.or_true, cond_true]
  simp only [kqw, kqt, kt1, e3, e4, ktz, k1r, inR_eq, k147, krj, termB, countK, allT, Bool.or_true, cond_true]
  refine ⟨?_, trivial⟩
  simp only [bne]
  generalize (bif k == 1 then nameB s else s.toList == []) = q
  generalize inR k 1 12 = q1
  generalize inR n 0 9999 = q2
  generalize (k == 7) = q3
  generalize (k == 8) = q4
  generalize (k == 11) = q5
  generalize (k == 12) = q6
  generalize (n == 0) = q7
  revert q q1 q2 q3 q4 q5 q6 q7
  decide

theorem k14f (k : Int) (s : ByteArray) (n : Int) : ksc k s n = termB k s n := by
  have e3 : ks4 s = nameB s := by simp only [ks4, nameB]; cases wordB s <;> rfl
  simp only [ksc, e3, k9e, inR_eq, k147, kqh, termB, countK]
  by_cases h1 : k = 1
  · subst h1
    have z7 : ((1 : Int) == 7) = false := rfl
    have z8 : ((1 : Int) == 8) = false := rfl
    have z11 : ((1 : Int) == 11) = false := rfl
    have z12 : ((1 : Int) == 12) = false := rfl
    have z1 : ((1 : Int) == 1) = true := rfl
    have zn : ((1 : Int) != 1) = false := rfl
    have zr : inR (1 : Int) 1 12 = true := rfl
    rw [z7, z8, z11, z12, z1, zn, zr]
    have hs : nameB s = true → (s.toList == []) = false := k168
    have h0 : (n == 0) = true → inR n 0 9999 = true := n0_in
    generalize (s.toList == []) = q at hs ⊢
    generalize (n == 0) = q2 at h0 ⊢
    generalize inR n 0 9999 = q3 at h0 ⊢
    generalize nameB s = q4 at hs ⊢
    revert q q2 q3 q4
    decide
  · have z1 : (k == 1) = false := by simpa using h1
    have zn : (k != 1) = true := by simpa using h1
    rw [z1, zn]
    have h0 : (n == 0) = true → inR n 0 9999 = true := n0_in
    generalize (s.toList == []) = q
    generalize (n == 0) = q2 at h0 ⊢
    generalize inR n 0 9999 = q3 at h0 ⊢
    generalize inR k 1 12 = q1
    generalize (k == 7) = p3
    generalize (k == 8) = p4
    generalize (k == 11) = p5
    generalize (k == 12) = p6
    generalize nameB s = p7
    revert q q1 q2 q3 p3 p4 p5 p6 p7
    decide

theorem k13v (k : Int) (s : ByteArray) (n : Int) (h : leN s.size 9223372036854775807 = true) : kuw k s n = blockB k s n ∧ kug k s n = true := by
  obtain ⟨e1, e2⟩ := k14e k s n h
  simp only [kuw, kug, e1, e2, blockB, allT, cond_true]
  refine ⟨?_, trivial⟩
  cases termB k s n <;> rfl

theorem k142 (k : Int) (s : ByteArray) (n : Int) : kuq k s n = blockB k s n := by
  simp only [kuq, k14f, blockB]
  cases termB k s n <;> rfl

theorem k11x {k : Int} {s : ByteArray} {n : Int} (h : blockB k s n = true) : (7 ≤ k ∧ k ≤ 12) ∧ (0 ≤ n ∧ n ≤ 9999) ∧ (countK k = true ∨ n = 0) := by
  simp only [blockB, termB, Bool.and_eq_true, ks3, leI_iff, Bool.or_eq_true, beq_iff_eq] at h
  obtain ⟨⟨h1, h2, h3, _⟩, h4⟩ := h
  exact ⟨⟨h4, h1.2⟩, h2, h3⟩

/-- The kinds of blocks. -/
theorem kinds {k : Int} (h : 7 ≤ k ∧ k ≤ 12) : k = 7 ∨ k = 8 ∨ k = 9 ∨ k = 10 ∨ k = 11 ∨ k = 12 := by omega

theorem k164 {k n a b c : Int} (h : 7 ≤ k ∧ k ≤ 12) : kh8 k n a b c = possB k n a b c := by
  rcases kinds h with rfl | rfl | rfl | rfl | rfl | rfl <;> rfl

theorem k120 {k n a b c : Int} (h : possB k n a b c = true) (hn : 0 ≤ n ∧ n ≤ 9999) : (0 ≤ a ∧ a ≤ 10000) ∧ (b = 0 ∨ b = 1) ∧ (c = 0 ∨ c = 1) := by
  have hw : IntKind.i64.wrap (n + 1) = n + 1 := wrap_i64 (by omega) (by omega)
  simp only [possB, k2e, k1r, inR_eq, hw] at h
  cases h1 : (bif k == 9 then k == 9 else k == 10) with
  | true =>
    rw [h1] at h
    cases h2 : inR a 0 1 <;> rw [h2] at h <;> simp at h
    have := ks3.1 h2
    omega
  | false =>
    rw [h1] at h
    cases h3 : k == 11 with
    | true =>
      rw [h3] at h
      cases h2 : inR a 0 n <;> cases h4 : inR b 0 1 <;> rw [h2] at h <;> simp [h4] at h
      have := ks3.1 h2
      have := ks3.1 h4
      omega
    | false =>
      rw [h3] at h
      cases h5 : k == 12 with
      | true =>
        rw [h5] at h
        cases h2 : inR a 0 n <;> rw [h2] at h <;> simp at h
        · omega
        · have := ks3.1 h2
          omega
      | false =>
        rw [h5] at h
        cases h2 : inR a 0 n <;> rw [h2] at h <;> simp at h
        have := ks3.1 h2
        omega

def kzf : List SV → List Entry → Option Out
  | [.one ⟨true, [.val (.int .i64 x0), .val (.string x1), .val (.int .i64 x2)]⟩], [] => some ⟨(.one ⟨false, [(.val (.bool (blockB x0 x1 x2)))]⟩), [], [], [leN x1.size 9223372036854775807]⟩
  | _, _ => none

def kyp : PF Tryz.prog := PF.alt k13f kzf (by
  intro args es o h hnd; unfold kzf at h; split at h
  · rename_i x0 x1 x2
    cases h
    have hnd := nd_fst hnd
    have hh := k13v x0 x1 x2 hnd
    obtain ⟨e0, en⟩ := hh
    exact altok rfl (nd_one en) (by simp only [e0] <;> rfl) rfl rfl
  · cases h)

def kym : List SV → List Entry → Option Out
  | [.one ⟨true, [.val (.int .i64 x0), .val (.string x1), .val (.int .i64 x2)]⟩], [] => some ⟨(.one ⟨false, [(.val (.bool (blockB x0 x1 x2)))]⟩), [], [], []⟩
  | _, _ => none

def kz9 : PF Tryz.prog := PF.alt k13d kym (by
  intro args es o h hnd; unfold kym at h; split at h
  · rename_i x0 x1 x2
    cases h
    have hh := k142 x0 x1 x2
    have e0 := hh
    exact altok rfl (fun _ h => by cases h) (by simp only [e0] <;> rfl) rfl rfl
  · cases h)

end Go.SX

namespace Go.SX
open Go.Proofs
set_option maxRecDepth 100000

def kui (x1 : ByteArray) (x3 : Int) : Int :=
  IntKind.wrap IntKind.i64 (x3 - (↑(ByteArray.size x1) : Int))

def ked (x1 : ByteArray) (x3 : Int) : Int :=
  bif ltI (kui x1 x3) (0 : Int) then (-1 : Int) else kui x1 x3

def k10r : List SV → List Entry → Option Out
  | [.one ⟨true, [.val (.int .i64 _x0), .val (.string x1), .val (.int .i64 _x2)]⟩, .one ⟨false, [.val (.int .i64 x3)]⟩], [] => some ⟨(.one ⟨false, [(.val (.int IntKind.i64 (ked x1 x3)))]⟩), [], [], []⟩
  | _, _ => none

def k11e : PF Tryz.prog := PF.ofG Tryz.prog [] [] hmix 152 Tryz.f152 Tryz.func152 (fun c _ => LOk.nil c) k10r (by
  intro vs es r h; unfold k10r at h; split at h
  · cases h; kernel_rfl
  · cases h)

def kle (x0 : Int) : Int :=
  bif bif x0 == (1 : Int) then x0 == (1 : Int) else bif x0 == (2 : Int) then x0 == (2 : Int) else x0 == (3 : Int) then (0 : Int)
  else
  bif
      bif x0 == (4 : Int) then x0 == (4 : Int)
      else bif x0 == (7 : Int) then x0 == (7 : Int) else bif x0 == (8 : Int) then x0 == (8 : Int) else x0 == (9 : Int) then
    (1 : Int)
  else (2 : Int)

def kxt : List SV → List Entry → Option Out
  | [.one ⟨false, [.val (.int .i64 x0)]⟩], [] => some ⟨(.one ⟨false, [(.val (.int IntKind.i64 (kle x0)))]⟩), [], [], []⟩
  | _, _ => none

def k12h : PF Tryz.prog := PF.ofG Tryz.prog [] [] hmix 224 Tryz.f224 Tryz.func224 (fun c _ => LOk.nil c) kxt (by
  intro vs es r h; unfold kxt at h; split at h
  · cases h; kernel_rfl
  · cases h)

abbrev k9t := Int × List Int

def kh9 (y0 : Int) (y1 : List Int) : Bool :=
  ltI y0 (↑(List.length y1) : Int)

def kk9 (y0 : Int) : Bool :=
  leI (0 : Int) y0

def kkk (y0 : Int) (y1 : List Int) : Bool :=
  ltN (Int.toNat y0) (List.length y1)

def kk5 (y0 : Int) (y1 : List Int) : Bool :=
  !k1r (Option.getD y1[Int.toNat y0]? (0 : Int)) (0 : Int) (1 : Int)

def kk8 (y0 : Int) : Int :=
  IntKind.wrap IntKind.i64 (y0 + (1 : Int))

def k100 : k9t → List (Nat × SV)
  | (y0, _) => [(5, (.one ⟨false, [(.val (.int IntKind.i64 y0))]⟩)), (0, (.one ⟨false, [(.ref 0)]⟩))]

def k10i : k9t → List (Nat × Entry)
  | (_, y1) => [(0, (.row false 2 (CTy.int IntKind.i64) y1))]

def k103 : Nat → k9t → List (Nat × SV)
  | 0, (_, _) => [(4, (.one ⟨false, [(.val (.bool false))]⟩))]
  | _, (_, _) => []

def k10g : Nat → k9t → List (Nat × Entry)
  | 0, (_, y1) => [(0, (.row false 2 (CTy.int IntKind.i64) y1))]
  | _, (_, y1) => [(0, (.row false 2 (CTy.int IntKind.i64) y1))]

def kj3 : k9t → LT k9t
  | (y0, y1) => .ite (kh9 y0 y1) (.need [(kk9 y0), (kh9 y0 y1), (kkk y0 y1)] (.ite (kk5 y0 y1) (.ext 0 [(0, 0)]) (.nrm ((kk8 y0), y1) [(0, 0)]))) (.ext 1 [(0, 0)])

def kp9 (s : St) : Option k9t :=
  (match s.look 5 with
  | some ⟨none, (.one ⟨false, [(.val (.int IntKind.i64 y0))]⟩)⟩ =>
  (match s.look 0 with
  | some ⟨none, (.one ⟨false, [(.ref 0)]⟩)⟩ =>
  (match s.ent 0 with
  | some (.row false 2 (CTy.int IntKind.i64) y1) =>
  some (y0, y1)
  | _ => none)
  | _ => none)
  | _ => none)

def k3y : Lp k9t where
  h := ⟨[6, 7, 8, 9, 12, 13, 14, 15, 16, 17, 4, 10, 11, 5], [0], [], []⟩
  JL := k100
  JE := k10i
  XL := k103
  XE := k10g
  q := fun j => match j with | 0 => .ret | _ => .exit 0
  tags := [0, 1]
  lt := kj3
  fuel := fun (y0, y1) => y0.natAbs + y1.length
  fix := fun (_, y1) (y0, _) => (y0, y1)
  σ := [(0, 0)]
  rd := kp9

theorem ky8 : LoopOk Tryz.prog (fun k => Nat.blt k Tryz.f88.ntmps) k3y.F (loopAt Tryz.f88 0) := by
  refine Lp.ok (tbl := [ki1]) (lf := []) hmix k3y (by kernel_rfl) (LOk.nil _) (fun _ => rfl) (fun j _ => by unfold k3y; match j with | 0 => rfl | _ + 1 => rfl) ?_ ?_ ?_ ?_ (fun _ => rfl) ?_
  · intro x; obtain ⟨y0, y1⟩ := x; kernel_rfl
  · intro x; obtain ⟨y0, y1⟩ := x; kernel_rfl
  · intro s x h
    have h : kp9 s = some x := h
    unfold kp9 at h
    repeat' split at h
    all_goals cases h
    exact ⟨absS_cons (by assumption) rfl (absS_cons (by assumption) rfl (rfl)), absE_cons rfl (by assumption) rfl (rfl)⟩
  · intro x; obtain ⟨y0, y1⟩ := x; kernel_rfl
  · intro x z; obtain ⟨y0, y1⟩ := x; exact (And.intro (And.intro trivial rfl) trivial)

def kut (x0 : Int) (x1 : List Int) : Bool :=
  bif Nat.beq (Prod.fst (Lp.res k3y ((0 : Int), x1))) (0 : Nat) then false else (↑(List.length x1) : Int) == x0

def ku8 (x1 : List Int) : Bool :=
  allT [Lp.fin k3y ((0 : Int), x1)]

def kza : List SV → List Entry → Option Out
  | [.one ⟨false, [.ref 0]⟩, .one ⟨false, [.val (.int .i64 x0)]⟩], [.row false 2 (.int .i64) x1] => some ⟨(.one ⟨false, [(.val (.bool (kut x0 x1)))]⟩), [(.row false 2 (CTy.int IntKind.i64) x1)], [], [(ku8 x1)]⟩
  | _, _ => none

def k13a : PF Tryz.prog := PF.ofG Tryz.prog [ki1] [k3y.F] hmix 88 Tryz.f88 Tryz.func88 (LOk.fnT (l := [loopAt Tryz.f88 0]) (by kernel_rfl) (.cons ky8 (.nil _))) kza (by
  intro vs es r h; unfold kza at h; split at h
  · cases h; kernel_rfl
  · cases h)

def k5w (x0 : Bool) : Int :=
  bif x0 then (1 : Int) else (0 : Int)

def k10u : List SV → List Entry → Option Out
  | [.one ⟨false, [.val (.bool x0)]⟩], [] => some ⟨(.one ⟨false, [(.val (.int IntKind.i64 (k5w x0)))]⟩), [], [], []⟩
  | _, _ => none

def k10x : PF Tryz.prog := PF.ofG Tryz.prog [] [] hmix 244 Tryz.f244 Tryz.func244 (fun c _ => LOk.nil c) k10u (by
  intro vs es r h; unfold k10u at h; split at h
  · cases h; kernel_rfl
  · cases h)

def k54 (x3 : Int) (x4 : Int) (x5 : Int) : Bool :=
  bif bif x3 == (1 : Int) then x4 == (0 : Int) else false then x5 == (0 : Int) else false

def k5v (x3 : Int) (x4 : Int) (x5 : Int) : Bool :=
  (bif k54 x3 x4 x5 then (0 : Int) else x3) == (0 : Int)

def k6e (x3 : Int) (x4 : Int) (x5 : Int) : Bool :=
  bif k5v x3 x4 x5 then x4 != x5 else false

def k7a (x1 : Int) (x3 : Int) (x4 : Int) (x5 : Int) : Int :=
  IntKind.wrap IntKind.i64 ((bif k54 x3 x4 x5 then (0 : Int) else x1) + (1 : Int))

def k7h (x0 : Int) (x1 : Int) (x3 : Int) (x4 : Int) (x5 : Int) : Int :=
  bif k6e x3 x4 x5 then k5w (ltI x0 (k7a x1 x3 x4 x5))
  else bif k5v x3 x4 x5 then (0 : Int) else bif k54 x3 x4 x5 then (0 : Int) else x3

def k8y (x0 : Int) (x1 : Int) (x3 : Int) (x4 : Int) (x5 : Int) : Int :=
  k5w (bif bif x4 == (1 : Int) then x5 == (1 : Int) else false then k7h x0 x1 x3 x4 x5 == (0 : Int) else false)

def k8x (x1 : Int) (x3 : Int) (x4 : Int) (x5 : Int) : Int :=
  bif k6e x3 x4 x5 then k7a x1 x3 x4 x5
  else bif k5v x3 x4 x5 then (0 : Int) else bif k54 x3 x4 x5 then (0 : Int) else x1

def k8z (x2 : Int) (x3 : Int) (x4 : Int) (x5 : Int) : Int :=
  bif k6e x3 x4 x5 then (0 : Int) else bif k5v x3 x4 x5 then (0 : Int) else bif k54 x3 x4 x5 then (0 : Int) else x2

def k91 (x0 : Int) (x1 : Int) (x3 : Int) (x4 : Int) (x5 : Int) : Int :=
  k7h x0 x1 x3 x4 x5

def kyu : List SV → List Entry → Option Out
  | [.one ⟨false, [.val (.int .i64 x0)]⟩, .one ⟨true, [.val (.int .i64 x1), .val (.int .i64 x2), .val (.int .i64 x3)]⟩, .one ⟨false, [.val (.int .i64 x4)]⟩, .one ⟨false, [.val (.int .i64 x5)]⟩], [] => some ⟨(.tup [⟨false, [(.val (.int IntKind.i64 (k8y x0 x1 x3 x4 x5)))]⟩, ⟨true, [(.val (.int IntKind.i64 (k8x x1 x3 x4 x5))), (.val (.int IntKind.i64 (k8z x2 x3 x4 x5))), (.val (.int IntKind.i64 (k91 x0 x1 x3 x4 x5)))]⟩]), [], [], []⟩
  | _, _ => none

def k131 : PF Tryz.prog := PF.ofG Tryz.prog [k10x] [] hmix 245 Tryz.f245 Tryz.func245 (fun c _ => LOk.nil c) kyu (by
  intro vs es r h; unfold kyu at h; split at h
  · cases h; kernel_rfl
  · cases h)

def k28 (x6 : List Int) : Int :=
  Option.getD x6[Int.toNat (0 : Int)]? (0 : Int)

def k5u (x3 : Int) : Int :=
  IntKind.wrap IntKind.i64 (x3 + (1 : Int))

def k7c (x2 : Int) (x3 : Int) (x6 : List Int) : Int :=
  IntKind.wrap IntKind.i64 (ifLt (k5u x3) x2 (k5u x3) x2 * k28 x6)

def k48 (x6 : List Int) : Int :=
  bif ltI (1 : Int) (↑(List.length x6) : Int) then Option.getD x6[Int.toNat (1 : Int)]? (0 : Int) else (0 : Int)

def k78 (x3 : Int) (x6 : List Int) : Int :=
  bif k48 x6 == (1 : Int) then (0 : Int) else bif k28 x6 == (1 : Int) then (1 : Int) else x3

def k79 (x2 : Int) (x3 : Int) (x4 : Int) (x6 : List Int) : Int :=
  bif k48 x6 == (1 : Int) then (0 : Int)
  else bif bif k28 x6 == (1 : Int) then x4 == (0 : Int) else false then ifLt (k5u x3) x2 (k5u x3) x2 else x3

def k7g (x3 : Int) : Int :=
  IntKind.wrap IntKind.i64 (x3 - (1 : Int))

def k7b (x6 : List Int) : Int :=
  bif k28 x6 == (1 : Int) then (0 : Int) else (0 : Int)

def k67 (x6 : List Int) : Bool :=
  !ltI (1 : Int) (↑(List.length x6) : Int)

def k45 (x0 : Int) (x2 : Int) (x3 : Int) (x4 : Int) (x5 : Int) (x6 : List Int) : Int :=
  bif x0 == (7 : Int) then k5w (bif k28 x6 == (1 : Int) then k7c x2 x3 x6 == x2 else false)
  else
  bif x0 == (8 : Int) then bif k28 x6 == (1 : Int) then (1 : Int) else k5w (ltI (0 : Int) x3)
  else
    bif x0 == (9 : Int) then k5w (bif k28 x6 == (1 : Int) then x3 == (0 : Int) else false)
    else
      bif x0 == (10 : Int) then k78 x3 x6
      else
        bif x0 == (11 : Int) then k5w (k79 x2 x3 x4 x6 == x2)
        else k8y x2 x3 x5 (k28 x6) (k48 x6)

def k66 (x0 : Int) (x2 : Int) (x3 : Int) (x4 : Int) (x5 : Int) (x6 : List Int) : Int :=
  bif x0 == (7 : Int) then k7c x2 x3 x6
  else
  bif x0 == (8 : Int) then bif k28 x6 == (1 : Int) then x2 else ifLt (0 : Int) (k7g x3) (k7g x3) (0 : Int)
  else
    bif x0 == (9 : Int) then k28 x6
    else
      bif x0 == (10 : Int) then k78 x3 x6
      else bif x0 == (11 : Int) then k79 x2 x3 x4 x6 else k8x x3 x5 (k28 x6) (k48 x6)

def k65 (x0 : Int) (x4 : Int) (x5 : Int) (x6 : List Int) : Int :=
  bif x0 == (7 : Int) then (0 : Int)
  else
  bif x0 == (8 : Int) then k7b x6
  else
    bif x0 == (9 : Int) then (0 : Int)
    else
      bif x0 == (10 : Int) then (0 : Int)
      else bif x0 == (11 : Int) then k28 x6 else k8z x4 x5 (k28 x6) (k48 x6)

def k60 (x0 : Int) (x2 : Int) (x3 : Int) (x5 : Int) (x6 : List Int) : Int :=
  bif x0 == (7 : Int) then (0 : Int)
  else
  bif x0 == (8 : Int) then k7b x6
  else
    bif x0 == (9 : Int) then (0 : Int)
    else
      bif x0 == (10 : Int) then (0 : Int)
      else bif x0 == (11 : Int) then (0 : Int) else k91 x2 x3 x5 (k28 x6) (k48 x6)

def k7v (x6 : List Int) : Bool :=
  allT
  [ltI (0 : Int) (↑(List.length x6) : Int), ltN (Int.toNat (0 : Int)) (List.length x6), k67 x6 || leI (0 : Int) (1 : Int),
    k67 x6 || ltI (1 : Int) (↑(List.length x6) : Int), k67 x6 || ltN (Int.toNat (1 : Int)) (List.length x6)]

def kzo : List SV → List Entry → Option Out
  | [.one ⟨true, [.val (.int .i64 x0), .val (.string _x1), .val (.int .i64 x2)]⟩, .one ⟨true, [.val (.int .i64 x3), .val (.int .i64 x4), .val (.int .i64 x5)]⟩, .one ⟨false, [.ref 0]⟩], [.row false 2 (.int .i64) x6] => some ⟨(.tup [⟨false, [(.val (.int IntKind.i64 (k45 x0 x2 x3 x4 x5 x6)))]⟩, ⟨true, [(.val (.int IntKind.i64 (k66 x0 x2 x3 x4 x5 x6))), (.val (.int IntKind.i64 (k65 x0 x4 x5 x6))), (.val (.int IntKind.i64 (k60 x0 x2 x3 x5 x6)))]⟩]), [(.row false 2 (CTy.int IntKind.i64) x6)], [], [(k7v x6)]⟩
  | _, _ => none

def kuv : PF Tryz.prog := PF.ofG Tryz.prog [k10x, k131] [] hmix 190 Tryz.f190 Tryz.func190 (fun c _ => LOk.nil c) kzo (by
  intro vs es r h; unfold kzo at h; split at h
  · cases h; kernel_rfl
  · cases h)

def k11d : List SV → List Entry → Option Out
  | [.one ⟨true, [.val (.int .i64 x0), .val (.string x1), .val (.int .i64 x2)]⟩], [] => some ⟨(.one ⟨true, [(.val (.int IntKind.i64 x0)), (.val (.string x1)), (.val (.int IntKind.i64 x2))]⟩), [], [], []⟩
  | _, _ => none

def k10p : PF Tryz.prog := PF.ofG Tryz.prog [] [] hmix 156 Tryz.f156 Tryz.func156 (fun c _ => LOk.nil c) k11d (by
  intro vs es r h; unfold k11d at h; split at h
  · cases h; kernel_rfl
  · cases h)

def k121 (x0 : Int) : Bool :=
  bif x0 != (0 : Int) then x0 != (1 : Int) else false

def kw0 : List SV → List Entry → Option Out
  | [.one ⟨false, [.val (.int .i64 x0)]⟩], [] => some ⟨(.one ⟨false, [(.val (.bool (k121 x0)))]⟩), [], [], []⟩
  | _, _ => none

def k11u : PF Tryz.prog := PF.ofG Tryz.prog [] [] hmix 219 Tryz.f219 Tryz.func219 (fun c _ => LOk.nil c) kw0 (by
  intro vs es r h; unfold kw0 at h; split at h
  · cases h; kernel_rfl
  · cases h)

def khg (x0 : Int) : Bool :=
  bif x0 != (0 : Int) then x0 != (1 : Int) else false

def kpy : List SV → List Entry → Option Out
  | [(.one ⟨false, [(.val (.int IntKind.i64 x0))]⟩)], [] => some ⟨(.one ⟨false, [(.val (.bool (khg x0)))]⟩), [], [], []⟩
  | _, _ => none

def kq2 : PF Tryz.prog := PF.ofG Tryz.prog [] [] hmix 219 Tryz.f219 Tryz.func219 (fun c _ => LOk.nil c) kpy (by
  intro vs es r h; unfold kpy at h; split at h
  · cases h; kernel_rfl
  · cases h)

abbrev k1k := Int × Int × List Int

def k3t (y0 : Int) (y1 : Int) : Bool :=
  ltI y0 y1

def k3q (y0 : Int) : Bool :=
  leI (0 : Int) y0

def k3p (y0 : Int) (y2 : List Int) : Bool :=
  ltI y0 (↑(List.length y2) : Int)

def k3r (y0 : Int) (y2 : List Int) : Bool :=
  ltN (Int.toNat y0) (List.length y2)

def k3s (y0 : Int) (y2 : List Int) : Bool :=
  khg (Option.getD y2[Int.toNat y0]? (0 : Int))

def k3u (y0 : Int) : Int :=
  IntKind.wrap IntKind.i64 (y0 + (1 : Int))

def klt : k1k → List (Nat × SV)
  | (y0, y1, _) => [(8, (.one ⟨false, [(.val (.int IntKind.i64 y0))]⟩)), (7, (.one ⟨false, [(.val (.int IntKind.i64 y1))]⟩)), (1, (.one ⟨false, [(.val (.func (.func 219) ⟨[]⟩ ⟨[]⟩))]⟩)), (0, (.one ⟨false, [(.ref 0)]⟩))]

def klr : k1k → List (Nat × Entry)
  | (_, _, y2) => [(0, (.row false 2 (CTy.int IntKind.i64) y2))]

def kls : Nat → k1k → List (Nat × SV)
  | 0, (y0, _, _) => [(4, (.one ⟨false, [(.val (.int IntKind.i64 y0))]⟩))]
  | _, (_, _, _) => []

def klq : Nat → k1k → List (Nat × Entry)
  | 0, (_, _, y2) => [(0, (.row false 2 (CTy.int IntKind.i64) y2))]
  | _, (_, _, y2) => [(0, (.row false 2 (CTy.int IntKind.i64) y2))]

def k3j : k1k → LT k1k
  | (y0, y1, y2) => .ite (k3t y0 y1) (.need [(k3q y0), (k3p y0 y2), (k3r y0 y2)] (.ite (k3s y0 y2) (.ext 0 [(0, 0)]) (.nrm ((k3u y0), y1, y2) [(0, 0)]))) (.ext 1 [(0, 0)])

def k93 (s : St) : Option k1k :=
  (match s.look 8 with
  | some ⟨none, (.one ⟨false, [(.val (.int IntKind.i64 y0))]⟩)⟩ =>
  (match s.look 7 with
  | some ⟨none, (.one ⟨false, [(.val (.int IntKind.i64 y1))]⟩)⟩ =>
  (match s.look 1 with
  | some ⟨none, (.one ⟨false, [(.val (.func (.func 219) ⟨[]⟩ ⟨[]⟩))]⟩)⟩ =>
  (match s.look 0 with
  | some ⟨none, (.one ⟨false, [(.ref 0)]⟩)⟩ =>
  (match s.ent 0 with
  | some (.row false 2 (CTy.int IntKind.i64) y2) =>
  some (y0, y1, y2)
  | _ => none)
  | _ => none)
  | _ => none)
  | _ => none)
  | _ => none)

def kr : Lp k1k where
  h := ⟨[9, 10, 5, 11, 12, 13, 14, 15, 16, 17, 4, 18, 8], [0], [], []⟩
  JL := klt
  JE := klr
  XL := kls
  XE := klq
  q := fun j => match j with | 0 => .ret | _ => .exit 0
  tags := [0, 1]
  lt := k3j
  fuel := fun (y0, y1, y2) => y0.natAbs + y1.natAbs + y2.length
  fix := fun (_, y1, y2) (y0, _, _) => (y0, y1, y2)
  σ := [(0, 0)]
  rd := k93

theorem kl0 : LoopOk Tryz.prog (fun k => Nat.blt k Tryz.f255.ntmps) kr.F (loopAt Tryz.f255 0) := by
  refine Lp.ok (tbl := [kq2]) (lf := []) hmix kr (by kernel_rfl) (LOk.nil _) (fun _ => rfl) (fun j _ => by unfold kr; match j with | 0 => rfl | _ + 1 => rfl) ?_ ?_ ?_ ?_ (fun _ => rfl) ?_
  · intro x; obtain ⟨y0, y1, y2⟩ := x; kernel_rfl
  · intro x; obtain ⟨y0, y1, y2⟩ := x; kernel_rfl
  · intro s x h
    have h : k93 s = some x := h
    unfold k93 at h
    repeat' split at h
    all_goals cases h
    exact ⟨absS_cons (by assumption) rfl (absS_cons (by assumption) rfl (absS_cons (by assumption) rfl (absS_cons (by assumption) rfl (rfl)))), absE_cons rfl (by assumption) rfl (rfl)⟩
  · intro x; obtain ⟨y0, y1, y2⟩ := x; kernel_rfl
  · intro x z; obtain ⟨y0, y1, y2⟩ := x; exact (And.intro (And.intro trivial rfl) trivial)

def k6s (x0 : List Int) : Int × Int × List Int :=
  ((0 : Int), (↑(List.length x0) : Int), x0)

def kb1 (x0 : List Int) : Int :=
  bif Nat.beq (Prod.fst (Lp.res kr (k6s x0))) (0 : Nat) then
  Prod.fst (Prod.snd (Lp.res kr (k6s x0)))
  else (-1 : Int)

def kbc (x0 : List Int) : Bool :=
  allT [Lp.fin kr (k6s x0)]

def kfd : List SV → List Entry → Option Out
  | [(.one ⟨false, [(.ref 0)]⟩), (.one ⟨false, [(.val (.func (.func 219) ⟨[]⟩ ⟨[]⟩))]⟩)], [(.row false 2 (CTy.int IntKind.i64) x0)] => some ⟨(.one ⟨false, [(.val (.int IntKind.i64 (kb1 x0)))]⟩), [(.row false 2 (CTy.int IntKind.i64) x0)], [], [(kbc x0)]⟩
  | _, _ => none

def kbb : PF Tryz.prog := PF.ofG Tryz.prog [kq2] [kr.F] hmix 255 Tryz.f255 Tryz.func255 (LOk.fnT (l := [loopAt Tryz.f255 0]) (by kernel_rfl) (.cons kl0 (.nil _))) kfd (by
  intro vs es r h; unfold kfd at h; split at h
  · cases h; kernel_rfl
  · cases h)

def k9h (x0 : List Int) : Bool :=
  leI (0 : Int) (kb1 x0)

def k9p (x0 : List Int) : Bool :=
  allT [kbc x0]

def kej : List SV → List Entry → Option Out
  | [(.one ⟨false, [(.ref 0)]⟩), (.one ⟨false, [(.val (.func (.func 219) ⟨[]⟩ ⟨[]⟩))]⟩)], [(.row false 2 (CTy.int IntKind.i64) x0)] => some ⟨(.one ⟨false, [(.val (.bool (k9h x0)))]⟩), [(.row false 2 (CTy.int IntKind.i64) x0)], [], [(k9p x0)]⟩
  | _, _ => none

def k9c : PF Tryz.prog := PF.ofG Tryz.prog [kbb, PF.lend kbb, PF.fz kbb] [] hmix 218 Tryz.f218 Tryz.func218 (fun c _ => LOk.nil c) kej (by
  intro vs es r h; unfold kej at h; split at h
  · cases h; kernel_rfl
  · cases h)

def ku0 (x0 : Int) (x1 : List Int) : Bool :=
  bif (↑(List.length x1) : Int) == x0 then !k9h x1 else false

def kur (x0 : Int) (x1 : List Int) : Bool :=
  allT [!((↑(List.length x1) : Int) == x0 && true) || k9p x1]

def kz6 : List SV → List Entry → Option Out
  | [.one ⟨false, [.ref 0]⟩, .one ⟨false, [.val (.int .i64 x0)]⟩], [.row false 2 (.int .i64) x1] => some ⟨(.one ⟨false, [(.val (.bool (ku0 x0 x1)))]⟩), [(.row false 2 (CTy.int IntKind.i64) x1)], [], [(kur x0 x1)]⟩
  | _, _ => none

def k13g : PF Tryz.prog := PF.ofG Tryz.prog [k11u, k9c, PF.lend k9c, PF.fz k9c] [] hmix 165 Tryz.f165 Tryz.func165 (fun c _ => LOk.nil c) kz6 (by
  intro vs es r h; unfold kz6 at h; split at h
  · cases h; kernel_rfl
  · cases h)

def ka9 (x0 : Bool) : Int :=
  bif x0 then (1 : Int) else (0 : Int)

def k127 : List SV → List Entry → Option Out
  | [.one ⟨false, [.val (.bool x0)]⟩], [] => some ⟨(.one ⟨false, [(.val (.int IntKind.i64 (ka9 x0)))]⟩), [], [], []⟩
  | _, _ => none

def ky2 : PF Tryz.prog := PF.ofG Tryz.prog [] [] hmix 269 Tryz.f269 Tryz.func269 (fun c _ => LOk.nil c) k127 (by
  intro vs es r h; unfold k127 at h; split at h
  · cases h; kernel_rfl
  · cases h)

def kd8 (x2 : Int) (x4 : Bool) : Bool :=
  bif x4 then x2 == (0 : Int) else false

def kd3 (x1 : Int) : Int :=
  IntKind.wrap IntKind.i64 (x1 + (1 : Int))

def kd7 (x0 : Int) (x1 : Int) (x2 : Int) (x4 : Bool) (x5 : Bool) : Int :=
  bif x5 then (0 : Int) else bif kd8 x2 x4 then ifLt x0 (kd3 x1) x0 (kd3 x1) else x1

def ke8 (x0 : Int) (x1 : Int) (x2 : Int) (x4 : Bool) (x5 : Bool) : Int :=
  ka9 (kd7 x0 x1 x2 x4 x5 == x0)

def keb (x0 : Int) (x1 : Int) (x2 : Int) (x4 : Bool) (x5 : Bool) : Int :=
  kd7 x0 x1 x2 x4 x5

def kef (x4 : Bool) : Int :=
  ka9 x4

def kec (x2 : Int) (x3 : Int) (x4 : Bool) (x5 : Bool) : Int :=
  bif x5 then x3 else bif kd8 x2 x4 then x3 else x3

def kvv : List SV → List Entry → Option Out
  | [.one ⟨false, [.val (.int .i64 x0)]⟩, .one ⟨true, [.val (.int .i64 x1), .val (.int .i64 x2), .val (.int .i64 x3)]⟩, .one ⟨false, [.val (.bool x4)]⟩, .one ⟨false, [.val (.bool x5)]⟩], [] => some ⟨(.tup [⟨false, [(.val (.int IntKind.i64 (ke8 x0 x1 x2 x4 x5)))]⟩, ⟨true, [(.val (.int IntKind.i64 (keb x0 x1 x2 x4 x5))), (.val (.int IntKind.i64 (kef x4))), (.val (.int IntKind.i64 (kec x2 x3 x4 x5)))]⟩]), [], [], []⟩
  | _, _ => none

def k125 : PF Tryz.prog := PF.ofG Tryz.prog [ky2] [] hmix 270 Tryz.f270 Tryz.func270 (fun c _ => LOk.nil c) kvv (by
  intro vs es r h; unfold kvv at h; split at h
  · cases h; kernel_rfl
  · cases h)

def k63 (x3 : Int) (x4 : Bool) (x5 : Bool) : Bool :=
  bif bif x3 == (1 : Int) then !x4 else false then !x5 else false

def kb0 (x3 : Int) (x4 : Bool) (x5 : Bool) : Bool :=
  (bif k63 x3 x4 x5 then (0 : Int) else x3) == (0 : Int)

def kcj (x3 : Int) (x4 : Bool) (x5 : Bool) : Bool :=
  bif kb0 x3 x4 x5 then !x4 == x5 else false

def kea (x1 : Int) (x3 : Int) (x4 : Bool) (x5 : Bool) : Int :=
  IntKind.wrap IntKind.i64 ((bif k63 x3 x4 x5 then (0 : Int) else x1) + (1 : Int))

def kel (x0 : Int) (x1 : Int) (x3 : Int) (x4 : Bool) (x5 : Bool) : Int :=
  bif kcj x3 x4 x5 then ka9 (ltI x0 (kea x1 x3 x4 x5))
  else bif kb0 x3 x4 x5 then bif k63 x3 x4 x5 then (0 : Int) else x3 else bif k63 x3 x4 x5 then (0 : Int) else x3

def kfe (x0 : Int) (x1 : Int) (x3 : Int) (x4 : Bool) (x5 : Bool) : Int :=
  ka9 (bif bif x4 then x5 else false then kel x0 x1 x3 x4 x5 == (0 : Int) else false)

def kfh (x1 : Int) (x3 : Int) (x4 : Bool) (x5 : Bool) : Int :=
  bif kcj x3 x4 x5 then kea x1 x3 x4 x5
  else bif kb0 x3 x4 x5 then (0 : Int) else bif k63 x3 x4 x5 then (0 : Int) else x1

def kfi (x2 : Int) (x3 : Int) (x4 : Bool) (x5 : Bool) : Int :=
  bif kcj x3 x4 x5 then bif k63 x3 x4 x5 then x2 else x2
  else bif kb0 x3 x4 x5 then bif k63 x3 x4 x5 then x2 else x2 else bif k63 x3 x4 x5 then x2 else x2

def kfc (x0 : Int) (x1 : Int) (x3 : Int) (x4 : Bool) (x5 : Bool) : Int :=
  kel x0 x1 x3 x4 x5

def kxl : List SV → List Entry → Option Out
  | [.one ⟨false, [.val (.int .i64 x0)]⟩, .one ⟨true, [.val (.int .i64 x1), .val (.int .i64 x2), .val (.int .i64 x3)]⟩, .one ⟨false, [.val (.bool x4)]⟩, .one ⟨false, [.val (.bool x5)]⟩], [] => some ⟨(.tup [⟨false, [(.val (.int IntKind.i64 (kfe x0 x1 x3 x4 x5)))]⟩, ⟨true, [(.val (.int IntKind.i64 (kfh x1 x3 x4 x5))), (.val (.int IntKind.i64 (kfi x2 x3 x4 x5))), (.val (.int IntKind.i64 (kfc x0 x1 x3 x4 x5)))]⟩]), [], [], []⟩
  | _, _ => none

def k12m : PF Tryz.prog := PF.ofG Tryz.prog [ky2] [] hmix 271 Tryz.f271 Tryz.func271 (fun c _ => LOk.nil c) kxl (by
  intro vs es r h; unfold kxl at h; split at h
  · cases h; kernel_rfl
  · cases h)

def k49 (x6 : List Int) : Bool :=
  Option.getD x6[Int.toNat (0 : Int)]? (0 : Int) == (1 : Int)

def km8 (x3 : Int) : Int :=
  IntKind.wrap IntKind.i64 (x3 + (1 : Int))

def klu (x2 : Int) (x3 : Int) (x6 : List Int) : Int :=
  IntKind.wrap IntKind.i64 (ka9 (k49 x6) * ifLt x2 (km8 x3) x2 (km8 x3))

def ki2 (x6 : List Int) : Int :=
  IntKind.wrap IntKind.i64 ((↑(List.length x6) : Int) - (1 : Int))

def kab (x6 : List Int) : Bool :=
  Option.getD x6[Int.toNat (ki2 x6)]? (0 : Int) == (1 : Int)

def km0 (x3 : Int) (x6 : List Int) : Int :=
  bif kab x6 then (0 : Int) else bif k49 x6 then (1 : Int) else x3

def klv (x3 : Int) : Int :=
  IntKind.wrap IntKind.i64 (x3 - (1 : Int))

def kmn (x0 : Int) (x2 : Int) (x3 : Int) (x4 : Int) (x5 : Int) (x6 : List Int) : Int :=
  bif x0 == (7 : Int) then ka9 (bif k49 x6 then klu x2 x3 x6 == x2 else false)
  else
  bif x0 == (8 : Int) then bif k49 x6 then (1 : Int) else ka9 (ltI (0 : Int) x3)
  else
    bif x0 == (9 : Int) then ka9 (bif k49 x6 then x3 == (0 : Int) else false)
    else
      bif x0 == (10 : Int) then km0 x3 x6
      else
        bif x0 == (11 : Int) then ke8 x2 x3 x4 (k49 x6) (kab x6)
        else kfe x2 x3 x5 (k49 x6) (kab x6)

def klc (x0 : Int) (x2 : Int) (x3 : Int) (x4 : Int) (x5 : Int) (x6 : List Int) : Int :=
  bif x0 == (7 : Int) then klu x2 x3 x6
  else
  bif x0 == (8 : Int) then bif k49 x6 then x2 else ifLt (klv x3) (0 : Int) (0 : Int) (klv x3)
  else
    bif x0 == (9 : Int) then ka9 (k49 x6)
    else
      bif x0 == (10 : Int) then km0 x3 x6
      else
        bif x0 == (11 : Int) then keb x2 x3 x4 (k49 x6) (kab x6)
        else kfh x3 x5 (k49 x6) (kab x6)

def kl8 (x0 : Int) (x4 : Int) (x5 : Int) (x6 : List Int) : Int :=
  bif x0 == (7 : Int) then x4
  else
  bif x0 == (8 : Int) then bif k49 x6 then x4 else x4
  else
    bif x0 == (9 : Int) then x4
    else
      bif x0 == (10 : Int) then bif kab x6 then x4 else bif k49 x6 then x4 else x4
      else bif x0 == (11 : Int) then kef (k49 x6) else kfi x4 x5 (k49 x6) (kab x6)

def kl7 (x0 : Int) (x2 : Int) (x3 : Int) (x4 : Int) (x5 : Int) (x6 : List Int) : Int :=
  bif x0 == (7 : Int) then x5
  else
  bif x0 == (8 : Int) then bif k49 x6 then x5 else x5
  else
    bif x0 == (9 : Int) then x5
    else
      bif x0 == (10 : Int) then bif kab x6 then x5 else bif k49 x6 then x5 else x5
      else
        bif x0 == (11 : Int) then kec x4 x5 (k49 x6) (kab x6)
        else kfc x2 x3 x5 (k49 x6) (kab x6)

def kml (x6 : List Int) : Bool :=
  allT
  [ltI (0 : Int) (↑(List.length x6) : Int), ltN (Int.toNat (0 : Int)) (List.length x6), leI (0 : Int) (ki2 x6),
    ltI (ki2 x6) (↑(List.length x6) : Int), ltN (Int.toNat (ki2 x6)) (List.length x6)]

def k12p : List SV → List Entry → Option Out
  | [.one ⟨true, [.val (.int .i64 x0), .val (.string _x1), .val (.int .i64 x2)]⟩, .one ⟨true, [.val (.int .i64 x3), .val (.int .i64 x4), .val (.int .i64 x5)]⟩, .one ⟨false, [.ref 0]⟩], [.row false 2 (.int .i64) x6] => some ⟨(.tup [⟨false, [(.val (.int IntKind.i64 (kmn x0 x2 x3 x4 x5 x6)))]⟩, ⟨true, [(.val (.int IntKind.i64 (klc x0 x2 x3 x4 x5 x6))), (.val (.int IntKind.i64 (kl8 x0 x4 x5 x6))), (.val (.int IntKind.i64 (kl7 x0 x2 x3 x4 x5 x6)))]⟩]), [(.row false 2 (CTy.int IntKind.i64) x6)], [], [(kml x6)]⟩
  | _, _ => none

def k107 : PF Tryz.prog := PF.ofG Tryz.prog [ky2, k125, k12m] [] hmix 246 Tryz.f246 Tryz.func246 (fun c _ => LOk.nil c) k12p (by
  intro vs es r h; unfold k12p at h; split at h
  · cases h; kernel_rfl
  · cases h)

def ksg : List SV → List Entry → Option Out
  | [.one ⟨true, [.val (.int .i64 x0), .val (.int .i64 x1), .val (.int .i64 x2)]⟩], [] => some ⟨(.one ⟨true, [(.val (.int IntKind.i64 x0)), (.val (.int IntKind.i64 x1)), (.val (.int IntKind.i64 x2))]⟩), [], [], []⟩
  | _, _ => none

def ks5 : PF Tryz.prog := PF.ofG Tryz.prog [] [] hmix 170 Tryz.f170 Tryz.func170 (fun c _ => LOk.nil c) ksg (by
  intro vs es r h; unfold ksg at h; split at h
  · cases h; kernel_rfl
  · cases h)

def khj (x0 : Int) (x1 : Int) (x2 : Int) (x3 : Int) (x4 : Int) (x5 : Int) : Bool :=
  bif x0 != x3 then false else bif x1 != x4 then false else bif x2 != x5 then false else true

def ks0 : List SV → List Entry → Option Out
  | [.one ⟨true, [.val (.int .i64 x0), .val (.int .i64 x1), .val (.int .i64 x2)]⟩, .one ⟨true, [.val (.int .i64 x3), .val (.int .i64 x4), .val (.int .i64 x5)]⟩], [] => some ⟨(.one ⟨false, [(.val (.bool (khj x0 x1 x2 x3 x4 x5)))]⟩), [], [], []⟩
  | _, _ => none

def ks8 : PF Tryz.prog := PF.ofG Tryz.prog [] [] hmix 171 Tryz.f171 Tryz.func171 (fun c _ => LOk.nil c) ks0 (by
  intro vs es r h; unfold ks0 at h; split at h
  · cases h; kernel_rfl
  · cases h)

end Go.SX

namespace Go.SX
open Go.Proofs
set_option maxRecDepth 100000

/-- So many bits. -/
def bitsB (n : Int) (l : List Int) : Bool := l.all (fun v => inR v 0 1) && ((l.length : Int) == n)
/-- How many values a term of a kind takes. -/
def takesK (k : Int) : Int := kle k

theorem kae {n : Int} {l : List Int} : bitsB n l = true ↔ (∀ v ∈ l, v = 0 ∨ v = 1) ∧ (l.length : Int) = n := by
  simp only [bitsB, Bool.and_eq_true, List.all_eq_true, ks3, beq_iff_eq]
  constructor
  · rintro ⟨h1, h2⟩; exact ⟨fun v hv => by have := h1 v hv; omega, h2⟩
  · rintro ⟨h1, h2⟩; exact ⟨fun v hv => by have := h1 v hv; omega, h2⟩

def kgy  (b : Int) : (Unit) → Nat ⊕ (Unit)
  | _ => (bif ((!k1r (b) (0 : Int) (1 : Int))) then (.inl 0) else (.inr ()))

def ke4 (y1 : List Int) (i : Nat) : (Unit) → k9t
  | _ => ((i : Int), y1)

def kpg : k9t → Unit
  | (_, _) => ()

theorem k11q (y1 : List Int)  (hn : y1.length ≤ 9223372036854775807)  :
    k3y.fin ((0 : Int), y1) = true ∧ k3y.res ((0 : Int), y1) = ((walkL (kgy) 1 y1 0 ()).1, (ke4 y1) (walkL (kgy) 1 y1 0 ()).2.1 (walkL (kgy) 1 y1 0 ()).2.2) := by
  have key := k3y.along (ke4 y1) kpg (kgy) 1 (fun _ _ => True) y1 () (by trivial) (by simp only [k3y, ke4]; omega) (fun i b a hb hI => ?_) (fun a hI => ?_)
  · exact key
  · obtain ⟨⟩ := a
    have hlt := (List.getElem?_eq_some_iff.1 hb).1
    have hget : ∀ d, Option.getD y1[i]? d = b := fun d => by rw [hb]; rfl
    have hw := wrap64 hlt hn
    have hdec : ltI (i : Int) (y1.length : Int) = true := ltI_t (by omega)
    have hnn : leI (0 : Int) (i : Int) = true := leI_t (by omega)
    have hltd : ltN i y1.length = true := ltN_t hlt
    refine ⟨?_, ?_, ?_, ?_⟩
    · simp [kh9, kk9, kkk, kk5, kk8, kj3, k3y, LT.nds, allT, ke4, hdec, hnn, hltd, hget]
    · simp [kh9, kk9, kkk, kk5, kk8, kj3, k3y, LT.each, ke4, kpg, hw]
    · simp only [kh9, kk9, kkk, kk5, kk8, kj3, k3y, LT.fn, ke4, kpg, kgy, Int.toNat_natCast, hdec, hnn, hltd, hget, cond_true, Bool.cond_self]
    · exact fun _ _ => trivial
  · obtain ⟨⟩ := a
    simp [kh9, kk9, kkk, kk5, kk8, kj3, k3y, LT.out, ke4]

def k2n  (b : Int) : (Unit) → Nat ⊕ (Unit)
  | _ => (bif ((khg (b))) then (.inl 0) else (.inr ()))

def k1v (y2 : List Int) (i : Nat) : (Unit) → k1k
  | _ => ((i : Int), (↑(List.length y2) : Int), y2)

def k92 : k1k → Unit
  | (_, _, _) => ()

theorem km2 (y2 : List Int)  (hn : y2.length ≤ 9223372036854775807)  :
    kr.fin ((0 : Int), (↑(List.length y2) : Int), y2) = true ∧ kr.res ((0 : Int), (↑(List.length y2) : Int), y2) = ((walkL (k2n) 1 y2 0 ()).1, (k1v y2) (walkL (k2n) 1 y2 0 ()).2.1 (walkL (k2n) 1 y2 0 ()).2.2) := by
  have key := kr.along (k1v y2) k92 (k2n) 1 (fun _ _ => True) y2 () (by trivial) (by simp only [kr, k1v]; omega) (fun i b a hb hI => ?_) (fun a hI => ?_)
  · exact key
  · obtain ⟨⟩ := a
    have hlt := (List.getElem?_eq_some_iff.1 hb).1
    have hget : ∀ d, Option.getD y2[i]? d = b := fun d => by rw [hb]; rfl
    have hw := wrap64 hlt hn
    have hdec : ltI (i : Int) (y2.length : Int) = true := ltI_t (by omega)
    have hnn : leI (0 : Int) (i : Int) = true := leI_t (by omega)
    have hltd : ltN i y2.length = true := ltN_t hlt
    refine ⟨?_, ?_, ?_, ?_⟩
    · simp [k3t, k3q, k3p, k3r, k3s, k3u, k3j, kr, LT.nds, allT, k1v, hdec, hnn, hltd, hget]
    · simp [k3t, k3q, k3p, k3r, k3s, k3u, k3j, kr, LT.each, k1v, k92, hw]
    · simp only [k3t, k3q, k3p, k3r, k3s, k3u, k3j, kr, LT.fn, k1v, k92, k2n, Int.toNat_natCast, hdec, hnn, hltd, hget, cond_true, Bool.cond_self]
    · exact fun _ _ => trivial
  · obtain ⟨⟩ := a
    simp [k3t, k3q, k3p, k3r, k3s, k3u, k3j, kr, LT.out, k1v]

theorem k14g (n : Int) (l : List Int) (h : leN l.length 9223372036854775807 = true) : kut n l = bitsB n l ∧ ku8 l = true := by
  obtain ⟨w1, w2⟩ := k11q l (leN_iff.1 h)
  rw [walk_stop (P := fun v => !inR v 0 1) (j := 0) (fun v => by simp only [kgy, k1r, inR_eq])] at w2
  have e5 : (l.any fun v => !inR v 0 1) = !l.all fun v => inR v 0 1 := by simp [List.all_eq_not_any_not]
  rw [e5] at w2
  simp only [kut, ku8, w1, w2, allT, bitsB]
  cases (l.all fun v => inR v 0 1) <;> simp [Nat.beq]

theorem bit_in (v : Int) : (bif v != 0 then v != 1 else false) = !inR v 0 1 := by
  have : inR v 0 1 = (v == 0 || v == 1) := by rw [Bool.eq_iff_iff, ks3]; simp; omega
  rw [this]
  cases h0 : v == 0 <;> simp [bne, h0]

theorem k14b (n : Int) (l : List Int) (h : leN l.length 9223372036854775807 = true) : ku0 n l = bitsB n l ∧ kur n l = true := by
  obtain ⟨w1, w2⟩ := km2 l (leN_iff.1 h)
  rw [walk_stop (P := fun v => !inR v 0 1) (j := 0) (fun v => by simp only [k2n, khg, bit_in])] at w2
  have e5 : (l.any fun v => !inR v 0 1) = !l.all fun v => inR v 0 1 := by simp [List.all_eq_not_any_not]
  rw [e5] at w2
  have q : ∀ m : Nat, leI 0 (m : Int) = true := fun m => leI_t (by omega)
  have q2 : leI 0 (-1) = false := rfl
  simp only [ku0, kur, k9h, k9p, kb1, kbc, k6s, w1, w2, allT, bitsB, k1v]
  cases (l.all fun v => inR v 0 1) <;> cases ((l.length : Int) == n) <;> simp [Nat.beq, q, q2]

theorem k12q (p q : Int) : ifLt p q p q = min p q := by rw [ifLt_eq]; cases h : ltI p q <;> simp <;> simp at h <;> omega
theorem k12r (p q : Int) : ifLt p q q p = max p q := by rw [ifLt_eq]; cases h : ltI p q <;> simp <;> simp at h <;> omega

theorem k102 {l : List Int} (h : bitsB 1 l = true) : ∃ x, l = [x] ∧ (x = 0 ∨ x = 1) := by
  obtain ⟨h1, h2⟩ := kae.1 h
  match l, h1, h2 with
  | [x], h1, _ => exact ⟨x, rfl, h1 x (by simp)⟩
  | [], _, h2 => simp at h2
  | _ :: _ :: _, _, h2 => simp at h2; omega

theorem kzy {l : List Int} (h : bitsB 2 l = true) : ∃ x y, l = [x, y] ∧ (x = 0 ∨ x = 1) ∧ (y = 0 ∨ y = 1) := by
  obtain ⟨h1, h2⟩ := kae.1 h
  match l, h1, h2 with
  | [x, y], h1, _ => exact ⟨x, y, rfl, h1 x (by simp), h1 y (by simp)⟩
  | [], _, h2 => simp at h2
  | [_], _, h2 => simp at h2
  | _ :: _ :: _ :: _, _, h2 => simp at h2; omega

/-- The program's step and the reference's. -/
theorem k150 {k n a b c : Int} {s : ByteArray} {l : List Int} (hB : blockB k s n = true) (hP : possB k n a b c = true) (hA : bitsB (takesK k) l = true) :
    kmn k n a b c l = k45 k n a b c l ∧ klc k n a b c l = k66 k n a b c l ∧
    kl8 k b c l = k65 k b c l ∧ kl7 k n a b c l = k60 k n a c l ∧ kml l = true ∧ k7v l = true ∧
    possB k n (k66 k n a b c l) (k65 k b c l) (k60 k n a c l) = true := by
  obtain ⟨hk, hn, _⟩ := k11x hB
  have hw : IntKind.i64.wrap (n + 1) = n + 1 := wrap_i64 (by omega) (by omega)
  have hwa := (k120 hP hn).1
  have hwa1 : IntKind.i64.wrap (a + 1) = a + 1 := wrap_i64 (by omega) (by omega)
  have hwa2 : IntKind.i64.wrap (a - 1) = a - 1 := wrap_i64 (by omega) (by omega)
  have hm : IntKind.i64.wrap (min (a + 1) n) = min (a + 1) n := wrap_i64 (by omega) (by omega)
  have hm2 : IntKind.i64.wrap (min n (a + 1)) = min n (a + 1) := wrap_i64 (by omega) (by omega)
  have h01 : IntKind.i64.wrap (0 + 1) = 1 := rfl
  have n0 : IntKind.i64.wrap 0 = 0 := rfl
  have w1 : IntKind.i64.wrap 1 = 1 := rfl
  have l12 : ltI 1 2 = true := rfl
  have hb := (k120 hP hn).2.1
  have hc := (k120 hP hn).2.2
  rcases kinds hk with rfl | rfl | rfl | rfl | rfl | rfl
  · obtain ⟨x, rfl, hx⟩ := k102 hA
    have hp := hP
    simp [possB, k2e, k1r] at hp
    rcases hx with rfl | rfl <;> simp only [k49, km8, klu, ki2, kab, km0, klv, kmn, klc, kl8, kl7, kml, kd8, kd3, kd7, ke8, keb, kef, kec, k63, kb0, kcj, kea, kel, kfe, kfh, kfi, kfc, ka9, k28, k5u, k7c, k48, k78, k79, k7g, k7b, k67, k45, k66, k65, k60, k7v, k54, k5v, k6e, k7a, k7h, k8y, k8x, k8z, k91, k5w, possB, k2e, k1r, allT, k12q, k12r] <;> simp [hw, hwa1, hwa2, hm, hm2, h01, n0, w1, l12, hp, Bool.cond_eq_ite] <;> (repeat' split) <;> omega
  · obtain ⟨x, rfl, hx⟩ := k102 hA
    have hp := hP
    simp [possB, k2e, k1r] at hp
    rcases hx with rfl | rfl <;> simp only [k49, km8, klu, ki2, kab, km0, klv, kmn, klc, kl8, kl7, kml, kd8, kd3, kd7, ke8, keb, kef, kec, k63, kb0, kcj, kea, kel, kfe, kfh, kfi, kfc, ka9, k28, k5u, k7c, k48, k78, k79, k7g, k7b, k67, k45, k66, k65, k60, k7v, k54, k5v, k6e, k7a, k7h, k8y, k8x, k8z, k91, k5w, possB, k2e, k1r, allT, k12q, k12r] <;> simp [hw, hwa1, hwa2, hm, hm2, h01, n0, w1, l12, hp, Bool.cond_eq_ite] <;> (repeat' split) <;> omega
  · obtain ⟨x, rfl, hx⟩ := k102 hA
    have hp := hP
    simp [possB, k2e, k1r] at hp
    rcases hx with rfl | rfl <;> simp only [k49, km8, klu, ki2, kab, km0, klv, kmn, klc, kl8, kl7, kml, kd8, kd3, kd7, ke8, keb, kef, kec, k63, kb0, kcj, kea, kel, kfe, kfh, kfi, kfc, ka9, k28, k5u, k7c, k48, k78, k79, k7g, k7b, k67, k45, k66, k65, k60, k7v, k54, k5v, k6e, k7a, k7h, k8y, k8x, k8z, k91, k5w, possB, k2e, k1r, allT, k12q, k12r] <;> simp [hw, hwa1, hwa2, hm, hm2, h01, n0, w1, l12, hp, Bool.cond_eq_ite] <;> (repeat' split) <;> omega
  · obtain ⟨x, y, rfl, hx, hy⟩ := kzy hA
    have hp := hP
    simp [possB, k2e, k1r] at hp
    rcases hx with rfl | rfl <;> rcases hy with rfl | rfl <;> simp only [k49, km8, klu, ki2, kab, km0, klv, kmn, klc, kl8, kl7, kml, kd8, kd3, kd7, ke8, keb, kef, kec, k63, kb0, kcj, kea, kel, kfe, kfh, kfi, kfc, ka9, k28, k5u, k7c, k48, k78, k79, k7g, k7b, k67, k45, k66, k65, k60, k7v, k54, k5v, k6e, k7a, k7h, k8y, k8x, k8z, k91, k5w, possB, k2e, k1r, allT, k12q, k12r] <;> simp [hw, hwa1, hwa2, hm, hm2, h01, n0, w1, l12, hp, Bool.cond_eq_ite] <;> (repeat' split) <;> omega
  · obtain ⟨x, y, rfl, hx, hy⟩ := kzy hA
    have hp := hP
    rcases hb with rfl | rfl <;> rcases hc with rfl | rfl <;> rcases hx with rfl | rfl <;> rcases hy with rfl | rfl <;> simp [possB, k2e, k1r, hw] at hp <;> simp only [k49, km8, klu, ki2, kab, km0, klv, kmn, klc, kl8, kl7, kml, kd8, kd3, kd7, ke8, keb, kef, kec, k63, kb0, kcj, kea, kel, kfe, kfh, kfi, kfc, ka9, k28, k5u, k7c, k48, k78, k79, k7g, k7b, k67, k45, k66, k65, k60, k7v, k54, k5v, k6e, k7a, k7h, k8y, k8x, k8z, k91, k5w, possB, k2e, k1r, allT, k12q, k12r] <;> simp [hw, hwa1, hwa2, hm, hm2, h01, n0, w1, l12, hp, Bool.cond_eq_ite] <;> (repeat' split) <;> omega
  · obtain ⟨x, y, rfl, hx, hy⟩ := kzy hA
    have hp := hP
    rcases hb with rfl | rfl <;> rcases hc with rfl | rfl <;> rcases hx with rfl | rfl <;> rcases hy with rfl | rfl <;> simp [possB, k2e, k1r, hw] at hp <;> simp only [k49, km8, klu, ki2, kab, km0, klv, kmn, klc, kl8, kl7, kml, kd8, kd3, kd7, ke8, keb, kef, kec, k63, kb0, kcj, kea, kel, kfe, kfh, kfi, kfc, ka9, k28, k5u, k7c, k48, k78, k79, k7g, k7b, k67, k45, k66, k65, k60, k7v, k54, k5v, k6e, k7a, k7h, k8y, k8x, k8z, k91, k5w, possB, k2e, k1r, allT, k12q, k12r] <;> simp [hw, hwa1, hwa2, hm, hm2, h01, n0, w1, l12, hp, Bool.cond_eq_ite] <;> (repeat' split) <;> omega

def kyl : List SV → List Entry → Option Out
  | [.one ⟨false, [.ref 0]⟩, .one ⟨false, [.val (.int .i64 x0)]⟩], [.row false 2 (.int .i64) x1] => some ⟨(.one ⟨false, [(.val (.bool (bitsB x0 x1)))]⟩), [(.row false 2 (CTy.int IntKind.i64) x1)], [], [leN x1.length 9223372036854775807]⟩
  | _, _ => none

def kf7 : PF Tryz.prog := PF.alt k13a kyl (by
  intro args es o h hnd; unfold kyl at h; split at h
  · rename_i x0 x1
    cases h
    have hnd := nd_fst hnd
    have hh := k14g x0 x1 hnd
    obtain ⟨e0, en⟩ := hh
    exact altok rfl (nd_one en) (by simp only [e0] <;> rfl) rfl rfl
  · cases h)

def kyy : List SV → List Entry → Option Out
  | [.one ⟨false, [.ref 0]⟩, .one ⟨false, [.val (.int .i64 x0)]⟩], [.row false 2 (.int .i64) x1] => some ⟨(.one ⟨false, [(.val (.bool (bitsB x0 x1)))]⟩), [(.row false 2 (CTy.int IntKind.i64) x1)], [], [leN x1.length 9223372036854775807]⟩
  | _, _ => none

def kf8 : PF Tryz.prog := PF.alt k13g kyy (by
  intro args es o h hnd; unfold kyy at h; split at h
  · rename_i x0 x1
    cases h
    have hnd := nd_fst hnd
    have hh := k14b x0 x1 hnd
    obtain ⟨e0, en⟩ := hh
    exact altok rfl (nd_one en) (by simp only [e0] <;> rfl) rfl rfl
  · cases h)

end Go.SX

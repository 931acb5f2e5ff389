/- What functions of the program come to, and what that says in plain words: part 1. -/
import Derived.Test.YtbbfgoobcjlooaaGreatDoorTXh
import Derived.Test.YtbbfgoobcjlooaaGreatDoorProg
set_option linter.unusedSimpArgs false
set_option linter.unusedVariables false
namespace Go.SX
open Go.Proofs
set_option maxRecDepth 100000
theorem hmix : Tryz.prog.follows .mixedOrders = true := by kernel_rfl

def kry (x0 : Int) (x1 : List Int) : Int :=
  IntKind.wrap IntKind.i64 (x0 - (↑(List.length x1) : Int))

def ksy (x0 : Int) (x1 : List Int) : Int :=
  bif ltI (kry x0 x1) (0 : Int) then (-1 : Int) else kry x0 x1

def kxe : List SV → List Entry → Option Out
  | [.one ⟨false, [.ref 0]⟩, .one ⟨false, [.val (.int .i64 x0)]⟩], [.row false 2 (.int .i64) x1] => some ⟨(.one ⟨false, [(.val (.int IntKind.i64 (ksy x0 x1)))]⟩), [(.row false 2 (CTy.int IntKind.i64) x1)], [], []⟩
  | _, _ => none

def k12w : PF Tryz.prog := PF.ofG Tryz.prog [] [] hmix 86 Tryz.f86 Tryz.func86 (fun c _ => LOk.nil c) kxe (by
  intro vs es r h; unfold kxe at h; split at h
  · cases h; kernel_rfl
  · cases h)

def k1o (x0 : Int) (x1 : Int) (x2 : Int) : Bool :=
  bif leI x1 x0 then leI x0 x2 else false

def k12d : List SV → List Entry → Option Out
  | [.one ⟨false, [.val (.int .i64 x0)]⟩, .one ⟨false, [.val (.int .i64 x1)]⟩, .one ⟨false, [.val (.int .i64 x2)]⟩], [] => some ⟨(.one ⟨false, [(.val (.bool (k1o x0 x1 x2)))]⟩), [], [], []⟩
  | _, _ => none

def kj5 : PF Tryz.prog := PF.ofG Tryz.prog [] [] hmix 153 Tryz.f153 Tryz.func153 (fun c _ => LOk.nil c) k12d (by
  intro vs es r h; unfold k12d at h; split at h
  · cases h; kernel_rfl
  · cases h)

def kvg (x0 : List Int) : Bool :=
  allT [leN ((0 : Nat) + List.length x0) (9223372036854775807 : Nat), leN (((0 : Nat) + List.length x0) * (8 : Nat)) (140737488355328 : Nat)]

def k11h : List SV → List Entry → Option Out
  | [.one ⟨false, [.ref 0]⟩], [.row false 2 (.int .i64) x0] => some ⟨(.one ⟨false, [(.ref 1)]⟩), [(.row false 2 (CTy.int IntKind.i64) x0)], [(.row true 2 (CTy.int IntKind.i64) x0)], [(kvg x0)]⟩
  | _, _ => none

def k147 : PF Tryz.prog := PF.ofG Tryz.prog [] [] hmix 173 Tryz.f173 Tryz.func173 (fun c _ => LOk.nil c) k11h (by
  intro vs es r h; unfold k11h at h; split at h
  · cases h; kernel_rfl
  · cases h)

abbrev k86 := Int × List Int × List Int

def kf0 (y0 : Int) (y1 : List Int) : Bool :=
  ltI y0 (↑(List.length y1) : Int)

def ket (y0 : Int) : Bool :=
  leI (0 : Int) y0

def kie (y0 : Int) (y1 : List Int) : Bool :=
  ltN (Int.toNat y0) (List.length y1)

def ki1 (y0 : Int) (y2 : List Int) : Bool :=
  ltI y0 (↑(List.length y2) : Int)

def kii (y0 : Int) (y2 : List Int) : Bool :=
  ltN (Int.toNat y0) (List.length y2)

def ki4 (y0 : Int) : Int :=
  IntKind.wrap IntKind.i64 (y0 + (1 : Int))

def ki9 (y0 : Int) (y1 : List Int) (y2 : List Int) : List Int :=
  List.set y2 (Int.toNat y0) (Option.getD y1[Int.toNat y0]? (0 : Int))

def kz4 : k86 → List (Nat × SV)
  | (y0, _, _) => [(4, (.one ⟨false, [(.val (.int IntKind.i64 y0))]⟩)), (0, (.one ⟨false, [(.ref 0)]⟩)), (3, (.one ⟨false, [(.ref 1)]⟩))]

def kyt : k86 → List (Nat × Entry)
  | (_, y1, y2) => [(0, (.row false 2 (CTy.int IntKind.i64) y1)), (1, (.row true 2 (CTy.int IntKind.i64) y2))]

def kz0 : Nat → k86 → List (Nat × SV)
  | _, (_, _, _) => []

def kzw : Nat → k86 → List (Nat × Entry)
  | _, (_, y1, y2) => [(0, (.row false 2 (CTy.int IntKind.i64) y1)), (1, (.row true 2 (CTy.int IntKind.i64) y2))]

def kgr : k86 → LT k86
  | (y0, y1, y2) => .ite (kf0 y0 y1) (.need [(ket y0), (kf0 y0 y1), (kie y0 y1), (ket y0), (ki1 y0 y2), (kii y0 y2)] (.nrm ((ki4 y0), y1, (ki9 y0 y1 y2)) [(0, 0), (1, 1)])) (.ext 0 [(0, 0), (1, 1)])

def koh (s : St) : Option k86 :=
  (match s.look 4 with
  | some ⟨none, (.one ⟨false, [(.val (.int IntKind.i64 y0))]⟩)⟩ =>
  (match s.look 0 with
  | some ⟨none, (.one ⟨false, [(.ref 0)]⟩)⟩ =>
  (match s.look 3 with
  | some ⟨none, (.one ⟨false, [(.ref 320)]⟩)⟩ =>
  (match s.ent 0 with
  | some (.row false 2 (CTy.int IntKind.i64) y1) =>
  (match s.ent 320 with
  | some (.row true 2 (CTy.int IntKind.i64) y2) =>
  some (y0, y1, y2)
  | _ => none)
  | _ => none)
  | _ => none)
  | _ => none)
  | _ => none)

def k3t : Lp k86 where
  h := ⟨[8, 9, 10, 11, 14, 15, 16, 17, 18, 19, 20, 12, 13, 4], [0, 1], [], []⟩
  JL := kz4
  JE := kyt
  XL := kz0
  XE := kzw
  q := fun j => match j with | _ => .exit 0
  tags := [0]
  lt := kgr
  fuel := fun (y0, y1, y2) => y0.natAbs + y1.length + y2.length
  fix := fun (_, y1, _) (y0, _, y2) => (y0, y1, y2)
  σ := [(0, 0), (1, 320)]
  rd := koh

theorem kwv : LoopOk Tryz.prog (fun k => Nat.blt k Tryz.f29.ntmps) k3t.F (loopAt Tryz.f29 0) := by
  refine Lp.ok (tbl := []) (lf := []) hmix k3t (by kernel_rfl) (LOk.nil _) (fun _ => rfl) (fun _ _ => rfl) ?_ ?_ ?_ ?_ (fun _ => rfl) ?_
  · intro x; obtain ⟨y0, y1, y2⟩ := x; kernel_rfl
  · intro x; obtain ⟨y0, y1, y2⟩ := x; kernel_rfl
  · intro s x h
    have h : koh s = some x := h
    unfold koh at h
    repeat' split at h
    all_goals cases h
    exact ⟨absS_cons (by assumption) rfl (absS_cons (by assumption) rfl (absS_cons (by assumption) rfl (rfl))), absE_cons rfl (by assumption) rfl (absE_cons rfl (by assumption) rfl (rfl))⟩
  · intro x; obtain ⟨y0, y1, y2⟩ := x; kernel_rfl
  · intro x z; obtain ⟨y0, y1, y2⟩ := x; exact (And.intro rfl trivial)

def kog (x0 : List Int) : Int × List Int × List Int :=
  ((0 : Int), x0, List.replicate (Int.toNat (↑(List.length x0) : Int)) (0 : Int))

def kpy (x0 : List Int) : List Int :=
  Prod.snd (Prod.snd (Prod.snd (Lp.res k3t (kog x0))))

def kq9 (x0 : List Int) : Bool :=
  allT
  [leI (0 : Int) (↑(List.length x0) : Int), leI (↑(List.length x0) : Int) (↑(List.length x0) : Int),
    leI ((↑(8 : Nat) : Int) * (↑(List.length x0) : Int)) (281474976710656 : Int), leI (↑(List.length x0) : Int) (9223372036854775807 : Int),
    Lp.fin k3t (kog x0)]

def kxd : List SV → List Entry → Option Out
  | [.one ⟨false, [.ref 0]⟩], [.row false 2 (.int .i64) x0] => some ⟨(.one ⟨false, [(.ref 1)]⟩), [(.row false 2 (CTy.int IntKind.i64) x0)], [(.row true 2 (CTy.int IntKind.i64) (kpy x0))], [(kq9 x0)]⟩
  | _, _ => none

def k12v : PF Tryz.prog := PF.ofG Tryz.prog [] [k3t.F] hmix 29 Tryz.f29 Tryz.func29 (LOk.fnT (l := [loopAt Tryz.f29 0]) (by kernel_rfl) (.cons kwv (.nil _))) kxd (by
  intro vs es r h; unfold kxd at h; split at h
  · cases h; kernel_rfl
  · cases h)

def k95 (x0 : Int) (x1 : Int) (x2 : Int) : Bool :=
  bif leI x1 x0 then leI x0 x2 else false

def k11k : List SV → List Entry → Option Out
  | [.one ⟨false, [.val (.int .i64 x0)]⟩, .one ⟨false, [.val (.int .i64 x1)]⟩, .one ⟨false, [.val (.int .i64 x2)]⟩], [] => some ⟨(.one ⟨false, [(.val (.bool (k95 x0 x1 x2)))]⟩), [], [], []⟩
  | _, _ => none

def ksj : PF Tryz.prog := PF.ofG Tryz.prog [] [] hmix 158 Tryz.f158 Tryz.func158 (fun c _ => LOk.nil c) k11k (by
  intro vs es r h; unfold k11k at h; split at h
  · cases h; kernel_rfl
  · cases h)

def kd3 (x0 : List Int) : Bool :=
  allT
  [ltN (0 : Nat) (List.length x0), false || leN ((0 : Nat) + List.length x0) (9223372036854775807 : Nat),
    false || leN (((0 : Nat) + List.length x0) * (8 : Nat)) (140737488355328 : Nat)]

def knc : List SV → List Entry → Option Out
  | [.one ⟨false, [.ref 0]⟩], [.row false 2 (.int .i64) x0] => some ⟨(.one ⟨false, [(.ref 1)]⟩), [(.row false 2 (CTy.int IntKind.i64) x0)], [(.row true 2 (CTy.int IntKind.i64) x0)], [(kd3 x0)]⟩
  | _, _ => none

def kt6 : PF Tryz.prog := PF.ofG Tryz.prog [] [] hmix 194 Tryz.f194 Tryz.func194 (fun c _ => LOk.nil c) knc (by
  intro vs es r h; unfold knc at h; split at h
  · cases h; kernel_rfl
  · cases h)

abbrev k8d := Int × List Int × List Int

def kez (y0 : Int) (y1 : List Int) : Bool :=
  ltI y0 (↑(List.length y1) : Int)

def kex (y0 : Int) : Bool :=
  leI (0 : Int) y0

def kiq (y0 : Int) (y1 : List Int) : Bool :=
  ltN (Int.toNat y0) (List.length y1)

def kin (y0 : Int) (y2 : List Int) : Bool :=
  ltI y0 (↑(List.length y2) : Int)

def ki7 (y0 : Int) (y2 : List Int) : Bool :=
  ltN (Int.toNat y0) (List.length y2)

def kib (y0 : Int) (y1 : List Int) (y2 : List Int) : Bool :=
  Option.getD y1[Int.toNat y0]? (0 : Int) != Option.getD y2[Int.toNat y0]? (0 : Int)

def kit (y0 : Int) : Int :=
  IntKind.wrap IntKind.i64 (y0 + (1 : Int))

def kzs : k8d → List (Nat × SV)
  | (y0, _, _) => [(5, (.one ⟨false, [(.val (.int IntKind.i64 y0))]⟩)), (0, (.one ⟨false, [(.ref 0)]⟩)), (1, (.one ⟨false, [(.ref 1)]⟩))]

def kyy : k8d → List (Nat × Entry)
  | (_, y1, y2) => [(0, (.row false 2 (CTy.int IntKind.i64) y1)), (1, (.row false 2 (CTy.int IntKind.i64) y2))]

def kz6 : Nat → k8d → List (Nat × SV)
  | 0, (_, _, _) => [(4, (.one ⟨false, [(.val (.bool false))]⟩))]
  | _, (_, _, _) => []

def kys : Nat → k8d → List (Nat × Entry)
  | 0, (_, y1, y2) => [(0, (.row false 2 (CTy.int IntKind.i64) y1)), (1, (.row false 2 (CTy.int IntKind.i64) y2))]
  | _, (_, y1, y2) => [(0, (.row false 2 (CTy.int IntKind.i64) y1)), (1, (.row false 2 (CTy.int IntKind.i64) y2))]

def khf : k8d → LT k8d
  | (y0, y1, y2) => .ite (kez y0 y1) (.need [(kex y0), (kez y0 y1), (kiq y0 y1), (kex y0), (kin y0 y2), (ki7 y0 y2)] (.ite (kib y0 y1 y2) (.ext 0 [(0, 0), (1, 1)]) (.nrm ((kit y0), y1, y2) [(0, 0), (1, 1)]))) (.ext 1 [(0, 0), (1, 1)])

def ko4 (s : St) : Option k8d :=
  (match s.look 5 with
  | some ⟨none, (.one ⟨false, [(.val (.int IntKind.i64 y0))]⟩)⟩ =>
  (match s.look 0 with
  | some ⟨none, (.one ⟨false, [(.ref 0)]⟩)⟩ =>
  (match s.look 1 with
  | some ⟨none, (.one ⟨false, [(.ref 1)]⟩)⟩ =>
  (match s.ent 0 with
  | some (.row false 2 (CTy.int IntKind.i64) y1) =>
  (match s.ent 1 with
  | some (.row false 2 (CTy.int IntKind.i64) y2) =>
  some (y0, y1, y2)
  | _ => none)
  | _ => none)
  | _ => none)
  | _ => none)
  | _ => none)

def k38 : Lp k8d where
  h := ⟨[11, 12, 13, 14, 17, 18, 19, 20, 21, 22, 23, 24, 25, 4, 15, 16, 5], [0, 1], [], []⟩
  JL := kzs
  JE := kyy
  XL := kz6
  XE := kys
  q := fun j => match j with | 0 => .ret | _ => .exit 0
  tags := [0, 1]
  lt := khf
  fuel := fun (y0, y1, y2) => y0.natAbs + y1.length + y2.length
  fix := fun (_, y1, y2) (y0, _, _) => (y0, y1, y2)
  σ := [(0, 0), (1, 1)]
  rd := ko4

theorem kx4 : LoopOk Tryz.prog (fun k => Nat.blt k Tryz.f31.ntmps) k38.F (loopAt Tryz.f31 0) := by
  refine Lp.ok (tbl := []) (lf := []) hmix k38 (by kernel_rfl) (LOk.nil _) (fun _ => rfl) (fun j _ => by unfold k38; match j with | 0 => rfl | _ + 1 => rfl) ?_ ?_ ?_ ?_ (fun _ => rfl) ?_
  · intro x; obtain ⟨y0, y1, y2⟩ := x; kernel_rfl
  · intro x; obtain ⟨y0, y1, y2⟩ := x; kernel_rfl
  · intro s x h
    have h : ko4 s = some x := h
    unfold ko4 at h
    repeat' split at h
    all_goals cases h
    exact ⟨absS_cons (by assumption) rfl (absS_cons (by assumption) rfl (absS_cons (by assumption) rfl (rfl))), absE_cons rfl (by assumption) rfl (absE_cons rfl (by assumption) rfl (rfl))⟩
  · intro x; obtain ⟨y0, y1, y2⟩ := x; kernel_rfl
  · intro x z; obtain ⟨y0, y1, y2⟩ := x; exact (And.intro (And.intro trivial rfl) trivial)

def ko5 (x0 : List Int) (x1 : List Int) : Bool :=
  (↑(List.length x0) : Int) != (↑(List.length x1) : Int)

def kor (x0 : List Int) (x1 : List Int) : Int × List Int × List Int :=
  ((0 : Int), x0, x1)

def kq0 (x0 : List Int) (x1 : List Int) : Bool :=
  bif ko5 x0 x1 then false else bif Nat.beq (Prod.fst (Lp.res k38 (kor x0 x1))) (0 : Nat) then false else true

def kpz (x0 : List Int) (x1 : List Int) : Bool :=
  allT [ko5 x0 x1 || Lp.fin k38 (kor x0 x1)]

def kxq : List SV → List Entry → Option Out
  | [.one ⟨false, [.ref 0]⟩, .one ⟨false, [.ref 1]⟩], [.row false 2 (.int .i64) x0, .row false 2 (.int .i64) x1] => some ⟨(.one ⟨false, [(.val (.bool (kq0 x0 x1)))]⟩), [(.row false 2 (CTy.int IntKind.i64) x0), (.row false 2 (CTy.int IntKind.i64) x1)], [], [(kpz x0 x1)]⟩
  | _, _ => none

def k133 : PF Tryz.prog := PF.ofG Tryz.prog [] [k38.F] hmix 31 Tryz.f31 Tryz.func31 (LOk.fnT (l := [loopAt Tryz.f31 0]) (by kernel_rfl) (.cons kx4 (.nil _))) kxq (by
  intro vs es r h; unfold kxq at h; split at h
  · cases h; kernel_rfl
  · cases h)

abbrev k61 := Int × Int × List Int

def kco (y0 : Int) (y2 : List Int) : Bool :=
  ltI y0 (↑(List.length y2) : Int)

def kfs (y0 : Int) : Bool :=
  leI (0 : Int) y0

def kfx (y0 : Int) (y2 : List Int) : Bool :=
  ltN (Int.toNat y0) (List.length y2)

def kf7 (y0 : Int) : Int :=
  IntKind.wrap IntKind.i64 (y0 + (1 : Int))

def kfn (y1 : Int) : Int :=
  IntKind.wrap IntKind.i64 (y1 + (1 : Int))

def kfc (y0 : Int) (y1 : Int) (y2 : List Int) : List Int :=
  List.set y2 (Int.toNat y0) y1

def kx3 : k61 → List (Nat × SV)
  | (y0, y1, _) => [(5, (.one ⟨false, [(.val (.int IntKind.i64 y0))]⟩)), (0, (.one ⟨false, [(.ref 0)]⟩)), (1, (.one ⟨false, [(.val (.int IntKind.i64 y1))]⟩))]

def kwr : k61 → List (Nat × Entry)
  | (_, _, y2) => [(0, (.row true 2 (CTy.int IntKind.i64) y2))]

def kwi : Nat → k61 → List (Nat × SV)
  | _, (_, y1, _) => [(1, (.one ⟨false, [(.val (.int IntKind.i64 y1))]⟩))]

def kwn : Nat → k61 → List (Nat × Entry)
  | _, (_, _, y2) => [(0, (.row true 2 (CTy.int IntKind.i64) y2))]

def kee : k61 → LT k61
  | (y0, y1, y2) => .ite (kco y0 y2) (.need [(kfs y0), (kco y0 y2), (kfx y0 y2)] (.nrm ((kf7 y0), (kfn y1), (kfc y0 y1 y2)) [(0, 0)])) (.ext 0 [(0, 0)])

def kmv (s : St) : Option k61 :=
  (match s.look 5 with
  | some ⟨none, (.one ⟨false, [(.val (.int IntKind.i64 y0))]⟩)⟩ =>
  (match s.look 0 with
  | some ⟨none, (.one ⟨false, [(.ref 0)]⟩)⟩ =>
  (match s.look 1 with
  | some ⟨none, (.one ⟨false, [(.val (.int IntKind.i64 y1))]⟩)⟩ =>
  (match s.ent 0 with
  | some (.row true 2 (CTy.int IntKind.i64) y2) =>
  some (y0, y1, y2)
  | _ => none)
  | _ => none)
  | _ => none)
  | _ => none)

def k2s : Lp k61 where
  h := ⟨[6, 7, 8, 9, 12, 13, 14, 15, 16, 17, 1, 10, 11, 5], [0], [], []⟩
  JL := kx3
  JE := kwr
  XL := kwi
  XE := kwn
  q := fun j => match j with | _ => .exit 0
  tags := [0]
  lt := kee
  fuel := fun (y0, y1, y2) => y0.natAbs + y1.natAbs + y2.length
  fix := fun (_, _, _) (y0, y1, y2) => (y0, y1, y2)
  σ := [(0, 0)]
  rd := kmv

theorem kuy : LoopOk Tryz.prog (fun k => Nat.blt k Tryz.f34.ntmps) k2s.F (loopAt Tryz.f34 0) := by
  refine Lp.ok (tbl := []) (lf := []) hmix k2s (by kernel_rfl) (LOk.nil _) (fun _ => rfl) (fun _ _ => rfl) ?_ ?_ ?_ ?_ (fun _ => rfl) ?_
  · intro x; obtain ⟨y0, y1, y2⟩ := x; kernel_rfl
  · intro x; obtain ⟨y0, y1, y2⟩ := x; kernel_rfl
  · intro s x h
    have h : kmv s = some x := h
    unfold kmv at h
    repeat' split at h
    all_goals cases h
    exact ⟨absS_cons (by assumption) rfl (absS_cons (by assumption) rfl (absS_cons (by assumption) rfl (rfl))), absE_cons rfl (by assumption) rfl (rfl)⟩
  · intro x; obtain ⟨y0, y1, y2⟩ := x; kernel_rfl
  · intro x z; obtain ⟨y0, y1, y2⟩ := x; exact (And.intro rfl trivial)

def kil (x0 : Int) (x1 : List Int) : Int × Int × List Int :=
  ((0 : Int), x0, x1)

def ki3 (x0 : Int) (x1 : List Int) : Int × List Int :=
  Prod.snd (Prod.snd (Lp.res k2s (kil x0 x1)))

def kjq (x0 : Int) (x1 : List Int) : Int :=
  Prod.fst (ki3 x0 x1)

def kjj (x0 : Int) (x1 : List Int) : List Int :=
  Prod.snd (ki3 x0 x1)

def kk5 (x0 : Int) (x1 : List Int) : Bool :=
  allT [Lp.fin k2s (kil x0 x1)]

def kuu : List SV → List Entry → Option Out
  | [.one ⟨false, [.ref 0]⟩, .one ⟨false, [.val (.int .i64 x0)]⟩], [.row true 2 (.int .i64) x1] => some ⟨(.one ⟨false, [(.val (.int IntKind.i64 (kjq x0 x1)))]⟩), [(.row true 2 (CTy.int IntKind.i64) (kjj x0 x1))], [], [(kk5 x0 x1)]⟩
  | _, _ => none

def k123 : PF Tryz.prog := PF.ofG Tryz.prog [] [k2s.F] hmix 34 Tryz.f34 Tryz.func34 (LOk.fnT (l := [loopAt Tryz.f34 0]) (by kernel_rfl) (.cons kuy (.nil _))) kuu (by
  intro vs es r h; unfold kuu at h; split at h
  · cases h; kernel_rfl
  · cases h)

abbrev k66 := Int × Int × List Int

def kch (y0 : Int) (y2 : List Int) : Bool :=
  ltI y0 (↑(List.length y2) : Int)

def kf6 (y0 : Int) : Bool :=
  leI (0 : Int) y0

def kfy (y0 : Int) (y2 : List Int) : Bool :=
  ltN (Int.toNat y0) (List.length y2)

def kfr (y0 : Int) (y1 : Int) (y2 : List Int) : Bool :=
  Option.getD y2[Int.toNat y0]? (0 : Int) != y1

def kct  : Int :=
  (-1 : Int)

def kfp (y0 : Int) : Int :=
  IntKind.wrap IntKind.i64 (y0 + (1 : Int))

def kfa (y1 : Int) : Int :=
  IntKind.wrap IntKind.i64 (y1 + (1 : Int))

def kwl : k66 → List (Nat × SV)
  | (y0, y1, _) => [(5, (.one ⟨false, [(.val (.int IntKind.i64 y0))]⟩)), (0, (.one ⟨false, [(.ref 0)]⟩)), (1, (.one ⟨false, [(.val (.int IntKind.i64 y1))]⟩))]

def kwk : k66 → List (Nat × Entry)
  | (_, _, y2) => [(0, (.row false 2 (CTy.int IntKind.i64) y2))]

def kww : Nat → k66 → List (Nat × SV)
  | 0, (_, _, _) => [(4, (.one ⟨false, [(.val (.int IntKind.i64 (kct)))]⟩))]
  | _, (_, y1, _) => [(1, (.one ⟨false, [(.val (.int IntKind.i64 y1))]⟩))]

def kwh : Nat → k66 → List (Nat × Entry)
  | 0, (_, _, y2) => [(0, (.row false 2 (CTy.int IntKind.i64) y2))]
  | _, (_, _, y2) => [(0, (.row false 2 (CTy.int IntKind.i64) y2))]

def ke4 : k66 → LT k66
  | (y0, y1, y2) => .ite (kch y0 y2) (.need [(kf6 y0), (kch y0 y2), (kfy y0 y2)] (.ite (kfr y0 y1 y2) (.ext 0 [(0, 0)]) (.nrm ((kfp y0), (kfa y1), y2) [(0, 0)]))) (.ext 1 [(0, 0)])

def kmx (s : St) : Option k66 :=
  (match s.look 5 with
  | some ⟨none, (.one ⟨false, [(.val (.int IntKind.i64 y0))]⟩)⟩ =>
  (match s.look 0 with
  | some ⟨none, (.one ⟨false, [(.ref 0)]⟩)⟩ =>
  (match s.look 1 with
  | some ⟨none, (.one ⟨false, [(.val (.int IntKind.i64 y1))]⟩)⟩ =>
  (match s.ent 0 with
  | some (.row false 2 (CTy.int IntKind.i64) y2) =>
  some (y0, y1, y2)
  | _ => none)
  | _ => none)
  | _ => none)
  | _ => none)

def k2a : Lp k66 where
  h := ⟨[6, 7, 8, 9, 12, 13, 14, 15, 16, 17, 4, 18, 19, 1, 10, 11, 5], [0], [], []⟩
  JL := kwl
  JE := kwk
  XL := kww
  XE := kwh
  q := fun j => match j with | 0 => .ret | _ => .exit 0
  tags := [0, 1]
  lt := ke4
  fuel := fun (y0, y1, y2) => y0.natAbs + y1.natAbs + y2.length
  fix := fun (_, _, y2) (y0, y1, _) => (y0, y1, y2)
  σ := [(0, 0)]
  rd := kmx

theorem kux : LoopOk Tryz.prog (fun k => Nat.blt k Tryz.f35.ntmps) k2a.F (loopAt Tryz.f35 0) := by
  refine Lp.ok (tbl := []) (lf := []) hmix k2a (by kernel_rfl) (LOk.nil _) (fun _ => rfl) (fun j _ => by unfold k2a; match j with | 0 => rfl | _ + 1 => rfl) ?_ ?_ ?_ ?_ (fun _ => rfl) ?_
  · intro x; obtain ⟨y0, y1, y2⟩ := x; kernel_rfl
  · intro x; obtain ⟨y0, y1, y2⟩ := x; kernel_rfl
  · intro s x h
    have h : kmx s = some x := h
    unfold kmx at h
    repeat' split at h
    all_goals cases h
    exact ⟨absS_cons (by assumption) rfl (absS_cons (by assumption) rfl (absS_cons (by assumption) rfl (rfl))), absE_cons rfl (by assumption) rfl (rfl)⟩
  · intro x; obtain ⟨y0, y1, y2⟩ := x; kernel_rfl
  · intro x z; obtain ⟨y0, y1, y2⟩ := x; exact (And.intro (And.intro trivial rfl) trivial)

def kir (x0 : Int) (x1 : List Int) : Int × Int × List Int :=
  ((0 : Int), x0, x1)

def kjw (x0 : Int) (x1 : List Int) : Int :=
  bif Nat.beq (Prod.fst (Lp.res k2a (kir x0 x1))) (0 : Nat) then kct
  else Prod.fst (Prod.snd (Prod.snd (Lp.res k2a (kir x0 x1))))

def knk (x0 : Int) (x1 : List Int) : Bool :=
  allT [Lp.fin k2a (kir x0 x1)]

def kur : List SV → List Entry → Option Out
  | [.one ⟨false, [.ref 0]⟩, .one ⟨false, [.val (.int .i64 x0)]⟩], [.row false 2 (.int .i64) x1] => some ⟨(.one ⟨false, [(.val (.int IntKind.i64 (kjw x0 x1)))]⟩), [(.row false 2 (CTy.int IntKind.i64) x1)], [], [(knk x0 x1)]⟩
  | _, _ => none

def k11x : PF Tryz.prog := PF.ofG Tryz.prog [] [k2a.F] hmix 35 Tryz.f35 Tryz.func35 (LOk.fnT (l := [loopAt Tryz.f35 0]) (by kernel_rfl) (.cons kux (.nil _))) kur (by
  intro vs es r h; unfold kur at h; split at h
  · cases h; kernel_rfl
  · cases h)

end Go.SX

namespace Go.SX
open Go.Proofs
set_option maxRecDepth 100000

def blk (p : Int) : Int := Int.tdiv p 3
def inR (a lo hi : Int) : Bool := leI lo a && leI a hi
def eqL (xs ys : List Int) : Bool := decide (xs = ys)

theorem krj {a lo hi : Int} : inR a lo hi = true ↔ lo ≤ a ∧ a ≤ hi := by simp [inR]

theorem inR_eq (a lo hi : Int) : (bif leI lo a then leI a hi else false) = inR a lo hi := by
  unfold inR; cases leI lo a <;> rfl

def kcz (y1 : List Int) (b : Nat) : (List Int) → Nat ⊕ (List Int)
  | y2 => (.inr ((List.set y2 (b) (Option.getD y1[b]? (0 : Int)))))

def ka5 (y1 : List Int) (i : Nat) : (List Int) → k86
  | y2 => ((i : Int), y1, y2)

def kod : k86 → List Int
  | (_, _, y2) => y2

theorem k10n (y1 : List Int) (y2 : List Int) (hn : y1.length ≤ 9223372036854775807) (hl : y2.length = y1.length) :
    k3t.fin ((0 : Int), y1, y2) = true ∧ k3t.res ((0 : Int), y1, y2) = ((walkL (kcz y1) 0 (List.range y1.length) 0 y2).1, (ka5 y1) (walkL (kcz y1) 0 (List.range y1.length) 0 y2).2.1 (walkL (kcz y1) 0 (List.range y1.length) 0 y2).2.2) := by
  have key := k3t.along (ka5 y1) kod (kcz y1) 0 (fun _ a => a.length = y1.length) (List.range y1.length) y2 hl (by simp only [k3t, ka5, List.length_range]; omega) (fun i b a hb hI => ?_) (fun a hI => ?_)
  · exact key
  · obtain y2 := a
    obtain ⟨rfl, hlt⟩ := range_get hb
    have hw : IntKind.i64.wrap ((b : Int) + 1) = ((b + 1 : Nat) : Int) := by rw [wrap_i64 (by omega) (by omega)]; omega
    have hdec : ltI (b : Int) (y1.length : Int) = true := ltI_t (by omega)
    have hnn : leI (0 : Int) (b : Int) = true := leI_t (by omega)
    have hltd : ltN b y1.length = true := ltN_t (by omega)
    refine ⟨?_, ?_, ?_, ?_⟩
    · simp [kf0, ket, kie, ki1, kii, ki4, ki9, kgr, k3t, LT.nds, allT, ka5, hdec, hnn, hltd, hI]
    · simp [kf0, ket, kie, ki1, kii, ki4, ki9, kgr, k3t, LT.each, ka5, kod, hw, hI]
    · simp only [kf0, ket, kie, ki1, kii, ki4, ki9, kgr, k3t, LT.fn, ka5, kod, kcz, Int.toNat_natCast, hdec, cond_true]
    · intro a' hf; simp only [kcz, Sum.inr.injEq] at hf; subst hf; simpa using hI
  · obtain y2 := a
    simp [kf0, ket, kie, ki1, kii, ki4, ki9, kgr, k3t, LT.out, ka5, List.length_range]

def ki0 (y1 : List Int) (y2 : List Int) (b : Nat) : (Unit) → Nat ⊕ (Unit)
  | _ => (bif ((Option.getD y1[b]? (0 : Int) != Option.getD y2[b]? (0 : Int))) then (.inl 0) else (.inr ()))

def kbg (y1 : List Int) (y2 : List Int) (i : Nat) : (Unit) → k8d
  | _ => ((i : Int), y1, y2)

def ko3 : k8d → Unit
  | (_, _, _) => ()

theorem k10a (y1 : List Int) (y2 : List Int)  (hn : y1.length ≤ 9223372036854775807) (he : y2.length = y1.length) :
    k38.fin ((0 : Int), y1, y2) = true ∧ k38.res ((0 : Int), y1, y2) = ((walkL (ki0 y1 y2) 1 (List.range y1.length) 0 ()).1, (kbg y1 y2) (walkL (ki0 y1 y2) 1 (List.range y1.length) 0 ()).2.1 (walkL (ki0 y1 y2) 1 (List.range y1.length) 0 ()).2.2) := by
  have key := k38.along (kbg y1 y2) ko3 (ki0 y1 y2) 1 (fun _ _ => True) (List.range y1.length) () (by trivial) (by simp only [k38, kbg, List.length_range]; omega) (fun i b a hb hI => ?_) (fun a hI => ?_)
  · exact key
  · obtain ⟨⟩ := a
    obtain ⟨rfl, hlt⟩ := range_get hb
    have hw : IntKind.i64.wrap ((b : Int) + 1) = ((b + 1 : Nat) : Int) := by rw [wrap_i64 (by omega) (by omega)]; omega
    have hdec : ltI (b : Int) (y1.length : Int) = true := ltI_t (by omega)
    have hnn : leI (0 : Int) (b : Int) = true := leI_t (by omega)
    have hltd : ltN b y1.length = true := ltN_t (by omega)
    refine ⟨?_, ?_, ?_, ?_⟩
    · simp [kez, kex, kiq, kin, ki7, kib, kit, khf, k38, LT.nds, allT, kbg, hdec, hnn, hltd, he]
    · simp [kez, kex, kiq, kin, ki7, kib, kit, khf, k38, LT.each, kbg, ko3, hw, he]
    · simp only [kez, kex, kiq, kin, ki7, kib, kit, khf, k38, LT.fn, kbg, ko3, ki0, Int.toNat_natCast, hdec, cond_true]
    · exact fun _ _ => trivial
  · obtain ⟨⟩ := a
    simp [kez, kex, kiq, kin, ki7, kib, kit, khf, k38, LT.out, kbg, List.length_range]

def kb3  (b : Nat) : (Int × List Int) → Nat ⊕ (Int × List Int)
  | (y1, y2) => (.inr (((IntKind.wrap IntKind.i64 (y1 + (1 : Int)))), ((List.set y2 (b) y1))))

def k6h  (i : Nat) : (Int × List Int) → k61
  | (y1, y2) => ((i : Int), y1, y2)

def kn8 : k61 → Int × List Int
  | (_, y1, y2) => (y1, y2)

theorem kxv  (y1 : Int) (y2 : List Int) (n : Nat) (hl : y2.length = n) (hn : n ≤ 9223372036854775807)  :
    k2s.fin ((0 : Int), y1, y2) = true ∧ k2s.res ((0 : Int), y1, y2) = ((walkL (kb3) 0 (List.range n) 0 (y1, y2)).1, (k6h) (walkL (kb3) 0 (List.range n) 0 (y1, y2)).2.1 (walkL (kb3) 0 (List.range n) 0 (y1, y2)).2.2) := by
  have key := k2s.along (k6h) kn8 (kb3) 0 (fun _ a => a.2.length = n) (List.range n) (y1, y2) hl (by simp only [k2s, k6h, List.length_range]; omega) (fun i b a hb hI => ?_) (fun a hI => ?_)
  · exact key
  · obtain ⟨y1, y2⟩ := a
    obtain ⟨rfl, hlt⟩ := range_get hb
    have hI0 : y2.length = n := hI
    have hw : IntKind.i64.wrap ((b : Int) + 1) = ((b + 1 : Nat) : Int) := by rw [wrap_i64 (by omega) (by omega)]; omega
    have hdec : ltI (b : Int) (y2.length : Int) = true := ltI_t (by omega)
    have hnn : leI (0 : Int) (b : Int) = true := leI_t (by omega)
    have hltd : ltN b y2.length = true := ltN_t (by omega)
    refine ⟨?_, ?_, ?_, ?_⟩
    · simp [kco, kfs, kfx, kf7, kfn, kfc, kee, k2s, LT.nds, allT, k6h, hdec, hnn, hltd]
    · simp [kco, kfs, kfx, kf7, kfn, kfc, kee, k2s, LT.each, k6h, kn8, hw]
    · simp only [kco, kfs, kfx, kf7, kfn, kfc, kee, k2s, LT.fn, k6h, kn8, kb3, Int.toNat_natCast, hdec, hnn, hltd, cond_true, Bool.cond_self]
    · intro a' hf; simp only [kb3, Sum.inr.injEq] at hf; subst hf; simp [hI0]
  · obtain ⟨y1, y2⟩ := a
    have hI0 : y2.length = n := hI
    simp [kco, kfs, kfx, kf7, kfn, kfc, kee, k2s, LT.out, k6h, hI0, List.length_range]

def kcq  (b : Int) : (Int) → Nat ⊕ (Int)
  | y1 => (bif ((b != y1)) then (.inl 0) else (.inr ((IntKind.wrap IntKind.i64 (y1 + (1 : Int))))))

def k8f (y2 : List Int) (i : Nat) : (Int) → k66
  | y1 => ((i : Int), y1, y2)

def kn3 : k66 → Int
  | (_, y1, _) => y1

theorem ks2 (y2 : List Int) (y1 : Int) (hn : y2.length ≤ 9223372036854775807)  :
    k2a.fin ((0 : Int), y1, y2) = true ∧ k2a.res ((0 : Int), y1, y2) = ((walkL (kcq) 1 y2 0 y1).1, (k8f y2) (walkL (kcq) 1 y2 0 y1).2.1 (walkL (kcq) 1 y2 0 y1).2.2) := by
  have key := k2a.along (k8f y2) kn3 (kcq) 1 (fun _ _ => True) y2 y1 (by trivial) (by simp only [k2a, k8f]; omega) (fun i b a hb hI => ?_) (fun a hI => ?_)
  · exact key
  · obtain y1 := a
    have hlt := (List.getElem?_eq_some_iff.1 hb).1
    have hget : ∀ d, Option.getD y2[i]? d = b := fun d => by rw [hb]; rfl
    have hw := wrap64 hlt hn
    have hdec : ltI (i : Int) (y2.length : Int) = true := ltI_t (by omega)
    have hnn : leI (0 : Int) (i : Int) = true := leI_t (by omega)
    have hltd : ltN i y2.length = true := ltN_t hlt
    refine ⟨?_, ?_, ?_, ?_⟩
    · simp [kch, kf6, kfy, kfr, kct, kfp, kfa, ke4, k2a, LT.nds, allT, k8f, hdec, hnn, hltd, hget]
    · simp [kch, kf6, kfy, kfr, kct, kfp, kfa, ke4, k2a, LT.each, k8f, kn3, hw]
    · simp only [kch, kf6, kfy, kfr, kct, kfp, kfa, ke4, k2a, LT.fn, k8f, kn3, kcq, Int.toNat_natCast, hdec, hnn, hltd, hget, cond_true, Bool.cond_self]
    · exact fun _ _ => trivial
  · obtain y1 := a
    simp [kch, kf6, kfy, kfr, kct, kfp, kfa, ke4, k2a, LT.out, k8f]

theorem k15r (xs : List Int) (hn : leN xs.length 1048576 = true) : kpy xs = xs ∧ kq9 xs = true := by
  have hn := leN_iff.1 hn
  have hr : (List.replicate (Int.toNat (xs.length : Int)) (0 : Int)).length = xs.length := by simp
  obtain ⟨w1, w2⟩ := k10n xs (List.replicate (Int.toNat (xs.length : Int)) (0 : Int)) (by omega) hr
  have hc := walk_copy (xs := xs) (d := (0 : Int)) (g := fun x => x) (f := kcz xs) (e := 0) (fun b a => rfl) hr
  rw [hc] at w2
  refine ⟨?_, ?_⟩
  · simp only [kog, kpy, kq9, w2, ka5]; simp
  · simp only [kog, kpy, kq9, w1, allT]; simp; omega

def kxa : List SV → List Entry → Option Out
  | [.one ⟨false, [.ref 0]⟩], [.row false 2 (.int .i64) x0] => some ⟨(.one ⟨false, [(.ref 1)]⟩), [(.row false 2 (CTy.int IntKind.i64) x0)], [(.row true 2 (CTy.int IntKind.i64) (x0))], [leN x0.length 1048576]⟩
  | _, _ => none

def kkk : PF Tryz.prog := PF.alt k12v kxa (by
  intro args es o h hnd; unfold kxa at h; split at h
  · rename_i x0
    cases h
    have hnd := nd_fst hnd
    have hh := k15r x0 hnd
    obtain ⟨e0, en⟩ := hh
    exact altok rfl (nd_one en) rfl rfl (by simp only [e0] <;> rfl)
  · cases h)

theorem k162 (xs ys : List Int) (hn : leN xs.length 9223372036854775807 = true) : kq0 xs ys = eqL xs ys ∧ kpz xs ys = true := by
  have hn := leN_iff.1 hn
  unfold eqL
  by_cases hl : ys.length = xs.length
  · obtain ⟨w1, w2⟩ := k10a xs ys hn hl
    have ha := any_ne (d := (0 : Int)) hl (P := fun b => Option.getD xs[b]? 0 != Option.getD ys[b]? 0) (fun b => by simp [bne, BEq.beq])
    rw [walk_stop (P := fun b => Option.getD xs[b]? 0 != Option.getD ys[b]? 0) (j := 0) (fun b => rfl), ha] at w2
    simp only [ko5, kor, kq0, kpz, w1, w2, allT]
    by_cases he : xs = ys
    · subst he; simp; decide
    · simp [he, hl]
  · have hne : xs ≠ ys := fun h => hl (by rw [h])
    simp [ko5, kor, kq0, kpz, allT, hne]
    omega

def kxf : List SV → List Entry → Option Out
  | [.one ⟨false, [.ref 0]⟩, .one ⟨false, [.ref 1]⟩], [.row false 2 (.int .i64) x0, .row false 2 (.int .i64) x1] => some ⟨(.one ⟨false, [(.val (.bool (eqL x0 x1)))]⟩), [(.row false 2 (CTy.int IntKind.i64) x0), (.row false 2 (CTy.int IntKind.i64) x1)], [], [leN x0.length 9223372036854775807]⟩
  | _, _ => none

def kkn : PF Tryz.prog := PF.alt k133 kxf (by
  intro args es o h hnd; unfold kxf at h; split at h
  · rename_i x0 x1
    cases h
    have hnd := nd_fst hnd
    have hh := k162 x0 x1 hnd
    obtain ⟨e0, en⟩ := hh
    exact altok rfl (nd_one en) (by simp only [e0] <;> rfl) rfl rfl
  · cases h)

/-- Numbers that a list is marked with stay numbers. -/
def mkOk (k : Int) (n : Nat) : Bool := leI 0 k && leI (k + n) 9223372036854775807

theorem ku2 {k : Int} {n : Nat} : mkOk k n = true ↔ 0 ≤ k ∧ k + n ≤ 9223372036854775807 := by simp [mkOk]

theorem k150 (k : Int) (xs : List Int) (h : mkOk k xs.length = true) : kjq k xs = k + xs.length ∧ kjj k xs = upFrom k xs.length ∧ kk5 k xs = true := by
  obtain ⟨h0, h1⟩ := ku2.1 h
  obtain ⟨w1, w2⟩ := kxv k xs xs.length rfl (by omega)
  rw [walk_mark (f := kb3) (fun b k xs => rfl) h0 h1] at w2
  refine ⟨?_, ?_, ?_⟩
  · simp only [kil, ki3, kjq, kjj, kk5, w2, k6h]
  · simp only [kil, ki3, kjq, kjj, kk5, w2, k6h]
  · simp only [kil, ki3, kjq, kjj, kk5, w1, allT, cond_true]

def kuj : List SV → List Entry → Option Out
  | [.one ⟨false, [.ref 0]⟩, .one ⟨false, [.val (.int .i64 x0)]⟩], [.row true 2 (.int .i64) x1] => some ⟨(.one ⟨false, [(.val (.int IntKind.i64 (x0 + (x1.length : Int))))]⟩), [(.row true 2 (CTy.int IntKind.i64) (upFrom x0 x1.length))], [], [mkOk x0 x1.length]⟩
  | _, _ => none

def kgb : PF Tryz.prog := PF.alt k123 kuj (by
  intro args es o h hnd; unfold kuj at h; split at h
  · rename_i x0 x1
    cases h
    have hnd := nd_fst hnd
    have hh := k150 x0 x1 hnd
    obtain ⟨e0, e1, en⟩ := hh
    exact altok rfl (nd_one en) (by simp only [e0] <;> rfl) (by simp only [e1] <;> rfl) rfl
  · cases h)

/-- What a marked list is found to be. -/
def heldV (k : Int) (xs : List Int) : Int := kjw k xs

theorem k16q (k : Int) (n : Nat) (h : mkOk k n = true) : heldV k (upFrom k n) = k + n := by
  obtain ⟨h0, h1⟩ := ku2.1 h
  obtain ⟨w1, w2⟩ := ks2 (upFrom k n) k (by rw [upFrom_length]; omega)
  rw [walk_held (f := kcq) (fun b k => rfl) h0 h1] at w2
  simp only [heldV, kir, kjw, knk, w2, k8f]
  rfl

theorem k14z (k : Int) (xs : List Int) (h : leN xs.length 9223372036854775807 = true) : kjw k xs = heldV k xs ∧ knk k xs = true := by
  obtain ⟨w1, w2⟩ := ks2 xs k (leN_iff.1 h)
  exact ⟨rfl, by simp only [kir, kjw, knk, w1, allT, cond_true]⟩

def kup : List SV → List Entry → Option Out
  | [.one ⟨false, [.ref 0]⟩, .one ⟨false, [.val (.int .i64 x0)]⟩], [.row false 2 (.int .i64) x1] => some ⟨(.one ⟨false, [(.val (.int IntKind.i64 (heldV x0 x1)))]⟩), [(.row false 2 (CTy.int IntKind.i64) x1)], [], [leN x1.length 9223372036854775807]⟩
  | _, _ => none

def kg5 : PF Tryz.prog := PF.alt k11x kup (by
  intro args es o h hnd; unfold kup at h; split at h
  · rename_i x0 x1
    cases h
    have hnd := nd_fst hnd
    have hh := k14z x0 x1 hnd
    obtain ⟨e0, en⟩ := hh
    exact altok rfl (nd_one en) (by simp only [e0] <;> rfl) rfl rfl
  · cases h)

def szV (k : Int) (xs : List Int) : Int := bif ltI (k - xs.length) 0 then -1 else k - xs.length

theorem k15t (k : Int) (xs : List Int) (h : (leN xs.length 9223372036854775807 && (leI (-1) k && leI k 1048576)) = true) : ksy k xs = szV k xs := by
  simp only [Bool.and_eq_true, leN_iff, leI_iff] at h
  simp only [kry, ksy, szV]
  rw [wrap_i64 (by omega) (by omega)]

def kxh : List SV → List Entry → Option Out
  | [.one ⟨false, [.ref 0]⟩, .one ⟨false, [.val (.int .i64 x0)]⟩], [.row false 2 (.int .i64) x1] => some ⟨(.one ⟨false, [(.val (.int IntKind.i64 (szV x0 x1)))]⟩), [(.row false 2 (CTy.int IntKind.i64) x1)], [], [leN x1.length 9223372036854775807 && (leI (-1) x0 && leI x0 1048576)]⟩
  | _, _ => none

def kkf : PF Tryz.prog := PF.alt k12w kxh (by
  intro args es o h hnd; unfold kxh at h; split at h
  · rename_i x0 x1
    cases h
    have hnd := nd_fst hnd
    have hh := k15t x0 x1 hnd
    have e0 := hh
    exact altok rfl (fun _ h => by cases h) (by simp only [e0] <;> rfl) rfl rfl
  · cases h)

theorem k16o (xs : List Int) (h : (leN 1 xs.length && leN xs.length 1048576) = true) : kd3 xs = true := by
  simp only [Bool.and_eq_true, leN_iff] at h
  simp [kd3, allT]
  omega

/-- slices.Clone at nil, at a slice of no elements; at any slice. -/
def k13e : List SV → List Entry → Option Out
  | [.one ⟨false, [.val (.slice none 0 0)]⟩], [] => some ⟨.one ⟨false, [.ref 0]⟩, [], [.row true 2 (.int .i64) []], [true]⟩
  | _, _ => none
def k14y : PF Tryz.prog := PF.ofG Tryz.prog [PF.raw Tryz.prog] [] hmix 194 Tryz.f194 Tryz.func194 (fun c _ => LOk.nil c) k13e (by
  intro vs es r h; unfold k13e at h; split at h
  · cases h; kernel_rfl
  · cases h)
def k138 : List SV → List Entry → Option Out
  | [.one ⟨false, [.val (.slice (some _) 0 _)]⟩], [] => some ⟨.one ⟨false, [.ref 0]⟩, [], [.row true 2 (.int .i64) []], [true]⟩
  | _, _ => none
def k14x : PF Tryz.prog := PF.ofG Tryz.prog [] [] hmix 194 Tryz.f194 Tryz.func194 (fun c _ => LOk.nil c) k138 (by
  intro vs es r h; unfold k138 at h; split at h
  · cases h; kernel_rfl
  · cases h)
def knf : List SV → List Entry → Option Out
  | [.one ⟨false, [.ref 0]⟩], [.row false 2 (.int .i64) x0] => some ⟨.one ⟨false, [.ref 1]⟩, [.row false 2 (.int .i64) x0], [.row true 2 (.int .i64) x0], [leN x0.length 1048576]⟩
  | _, _ => none
def k8c : PF Tryz.prog where
  k := 194
  F := knf
  ok := by
    intro args es o h hnd mem ρ w hp
    unfold knf at h
    split at h
    · rename_i x0
      cases h
      have hl := hnd _ (List.mem_singleton.2 rfl)
      cases x0 with
      | nil =>
        exact (clone0 k14y k14x rfl rfl rfl (fun _ _ => rfl) (by simp) (by simp) hp).mono fun en w' ⟨ρ', h1, h2, h3⟩ => ⟨ρ', h1, h2, rfl, (by intro v hv; rw [List.mem_singleton.1 hv]; rfl), h3⟩
      | cons x xs => exact kt6.ok _ _ ⟨_, _, _, [kd3 (x :: xs)]⟩ rfl (fun b hb => by rw [List.mem_singleton.1 hb]; exact k16o (x :: xs) ((Bool.and_eq_true _ _).mpr ⟨leN_t (Nat.succ_pos _), hl⟩)) mem ρ w hp
    · cases h

theorem own_ok (xs : List Int) (h : leN xs.length 1048576 = true) : kvg xs = true := by
  have h := leN_iff.1 h
  simp [kvg, allT]
  omega

def k11a : List SV → List Entry → Option Out
  | [.one ⟨false, [.ref 0]⟩], [.row false 2 (.int .i64) x0] => some ⟨(.one ⟨false, [(.ref 1)]⟩), [(.row false 2 (CTy.int IntKind.i64) x0)], [(.row true 2 (CTy.int IntKind.i64) x0)], [leN x0.length 1048576]⟩
  | _, _ => none

def kcf : PF Tryz.prog := PF.alt k147 k11a (by
  intro args es o h hnd; unfold k11a at h; split at h
  · rename_i x0
    cases h
    have hnd := nd_fst hnd
    have hh := own_ok x0 hnd
    have en := hh
    exact altok rfl (nd_one en) rfl rfl rfl
  · cases h)

end Go.SX

namespace Go.SX
open Go.Proofs
set_option maxRecDepth 100000

def kld (x0 : Int) : Bool :=
  bif leI (97 : Int) x0 then leI x0 (122 : Int) else false

def kva : List SV → List Entry → Option Out
  | [.one ⟨false, [.val (.int .u8 x0)]⟩], [] => some ⟨(.one ⟨false, [(.val (.bool (kld x0)))]⟩), [], [], []⟩
  | _, _ => none

def ks4 : PF Tryz.prog := PF.ofG Tryz.prog [] [] hmix 277 Tryz.f277 Tryz.func277 (fun c _ => LOk.nil c) kva (by
  intro vs es r h; unfold kva at h; split at h
  · cases h; kernel_rfl
  · cases h)

def kta (x0 : Int) : Bool :=
  bif leI (48 : Int) x0 then leI x0 (57 : Int) else false

def kxg : List SV → List Entry → Option Out
  | [.one ⟨false, [.val (.int .u8 x0)]⟩], [] => some ⟨(.one ⟨false, [(.val (.bool (kta x0)))]⟩), [], [], []⟩
  | _, _ => none

def k12y : PF Tryz.prog := PF.ofG Tryz.prog [] [] hmix 280 Tryz.f280 Tryz.func280 (fun c _ => LOk.nil c) kxg (by
  intro vs es r h; unfold kxg at h; split at h
  · cases h; kernel_rfl
  · cases h)

def kq7 (x0 : Int) : Bool :=
  bif bif kld x0 then true else kta x0 then true else x0 == (95 : Int)

def kxn : List SV → List Entry → Option Out
  | [.one ⟨false, [.val (.int .u8 x0)]⟩], [] => some ⟨(.one ⟨false, [(.val (.bool (kq7 x0)))]⟩), [], [], []⟩
  | _, _ => none

def kxr : PF Tryz.prog := PF.ofG Tryz.prog [ks4, k12y] [] hmix 276 Tryz.f276 Tryz.func276 (fun c _ => LOk.nil c) kxn (by
  intro vs es r h; unfold kxn at h; split at h
  · cases h; kernel_rfl
  · cases h)

abbrev kca := Int × ByteArray

def kjg (y0 : Int) (y1 : ByteArray) : Bool :=
  ltI y0 (↑(ByteArray.size y1) : Int)

def kuq (y0 : Int) : Bool :=
  leI (0 : Int) y0

def kqm (y0 : Int) (y1 : ByteArray) : Bool :=
  !kq7 (↑(UInt8.toNat (Option.getD y1[Int.toNat y0]? (0 : UInt8))) : Int)

def kuk (y0 : Int) : Int :=
  IntKind.wrap IntKind.i64 (y0 + (1 : Int))

def k109 : kca → List (Nat × SV)
  | (y0, y1) => [(3, (.one ⟨false, [(.val (.int IntKind.i64 y0))]⟩)), (0, (.one ⟨false, [(.val (.string y1))]⟩))]

def k10f : kca → List (Nat × Entry)
  | (_, _) => []

def k113 : Nat → kca → List (Nat × SV)
  | 0, (_, _) => [(2, (.one ⟨false, [(.val (.bool false))]⟩))]
  | _, (_, _) => []

def k10w : Nat → kca → List (Nat × Entry)
  | 0, (_, _) => []
  | _, (_, _) => []

def ki6 : kca → LT kca
  | (y0, y1) => .ite (kjg y0 y1) (.need [(kuq y0), (kjg y0 y1)] (.ite (kqm y0 y1) (.ext 0 []) (.nrm ((kuk y0), y1) []))) (.ext 1 [])

def kpf (s : St) : Option kca :=
  (match s.look 3 with
  | some ⟨none, (.one ⟨false, [(.val (.int IntKind.i64 y0))]⟩)⟩ =>
  (match s.look 0 with
  | some ⟨none, (.one ⟨false, [(.val (.string y1))]⟩)⟩ =>
  some (y0, y1)
  | _ => none)
  | _ => none)

def k3s : Lp kca where
  h := ⟨[4, 5, 6, 7, 10, 11, 12, 13, 14, 2, 8, 9, 3], [], [], []⟩
  JL := k109
  JE := k10f
  XL := k113
  XE := k10w
  q := fun j => match j with | 0 => .ret | _ => .exit 0
  tags := [0, 1]
  lt := ki6
  fuel := fun (y0, y1) => y0.natAbs + y1.size
  fix := fun (_, y1) (y0, _) => (y0, y1)
  σ := []
  rd := kpf

theorem kyg : LoopOk Tryz.prog (fun k => Nat.blt k Tryz.f266.ntmps) k3s.F (loopAt Tryz.f266 0) := by
  refine Lp.ok (tbl := [kj5, kxr, ks4]) (lf := []) hmix k3s (by kernel_rfl) (LOk.nil _) (fun _ => rfl) (fun j _ => by unfold k3s; match j with | 0 => rfl | _ + 1 => rfl) ?_ ?_ ?_ ?_ (fun _ => rfl) ?_
  · intro x; obtain ⟨y0, y1⟩ := x; kernel_rfl
  · intro x; obtain ⟨y0, y1⟩ := x; kernel_rfl
  · intro s x h
    have h : kpf s = some x := h
    unfold kpf at h
    repeat' split at h
    all_goals cases h
    exact ⟨absS_cons (by assumption) rfl (absS_cons (by assumption) rfl (rfl)), rfl⟩
  · intro x; obtain ⟨y0, y1⟩ := x; kernel_rfl
  · intro x z; obtain ⟨y0, y1⟩ := x; exact (And.intro (And.intro trivial rfl) trivial)

def kq1 (x0 : ByteArray) : Bool :=
  Nat.beq (Prod.fst (Lp.res k3s ((0 : Int), x0))) (0 : Nat)

def kq4 (x0 : ByteArray) : Bool :=
  k1o (↑(ByteArray.size x0) : Int) (1 : Int) (12 : Int)

def ku0 (x0 : ByteArray) : Bool :=
  bif kq1 x0 then false
  else bif kq4 x0 then kld (↑(UInt8.toNat (Option.getD x0[Int.toNat (0 : Int)]? (0 : UInt8))) : Int) else false

def ku5 (x0 : ByteArray) : Bool :=
  allT
  [Lp.fin k3s ((0 : Int), x0), kq1 x0 || (!(kq4 x0 && true) || leI (0 : Int) (0 : Int)),
    kq1 x0 || (!(kq4 x0 && true) || ltI (0 : Int) (↑(ByteArray.size x0) : Int))]

def k105 : List SV → List Entry → Option Out
  | [.one ⟨false, [.val (.string x0)]⟩], [] => some ⟨(.one ⟨false, [(.val (.bool (ku0 x0)))]⟩), [], [], [(ku5 x0)]⟩
  | _, _ => none

def k13o : PF Tryz.prog := PF.ofG Tryz.prog [kj5, kxr, ks4] [k3s.F] hmix 266 Tryz.f266 Tryz.func266 (LOk.fnT (l := [loopAt Tryz.f266 0]) (by kernel_rfl) (.cons kyg (.nil _))) k105 (by
  intro vs es r h; unfold k105 at h; split at h
  · cases h; kernel_rfl
  · cases h)

def kp8  : List ByteArray :=
  [{ data := #[(112 : UInt8), (114 : UInt8), (111 : UInt8), (103 : UInt8), (114 : UInt8), (97 : UInt8), (109 : UInt8)] },
  { data := #[(105 : UInt8), (110 : UInt8)] }, { data := #[(118 : UInt8), (97 : UInt8), (114 : UInt8)] },
  { data := #[(111 : UInt8), (117 : UInt8), (116 : UInt8)] }, { data := #[(103 : UInt8), (117 : UInt8), (97 : UInt8), (114 : UInt8), (100 : UInt8)] },
  { data := #[(101 : UInt8), (110 : UInt8), (100 : UInt8)] }, { data := #[(97 : UInt8), (110 : UInt8), (100 : UInt8)] },
  { data := #[(111 : UInt8), (114 : UInt8)] }, { data := #[(110 : UInt8), (111 : UInt8), (116 : UInt8)] },
  { data := #[(116 : UInt8), (114 : UInt8), (117 : UInt8), (101 : UInt8)] },
  { data := #[(102 : UInt8), (97 : UInt8), (108 : UInt8), (115 : UInt8), (101 : UInt8)] }, { data := #[(111 : UInt8), (110 : UInt8)] },
  { data := #[(111 : UInt8), (102 : UInt8), (102 : UInt8)] }, { data := #[(114 : UInt8), (105 : UInt8), (115 : UInt8), (101 : UInt8)] },
  { data := #[(108 : UInt8), (97 : UInt8), (116 : UInt8), (99 : UInt8), (104 : UInt8)] },
  { data := #[(99 : UInt8), (111 : UInt8), (117 : UInt8), (110 : UInt8), (116 : UInt8)] },
  { data := #[(112 : UInt8), (97 : UInt8), (105 : UInt8), (114 : UInt8)] }]

def ktr : List SV → List Entry → Option Out
  | [], [] => some ⟨(.one ⟨false, [(.ref 0)]⟩), [], [(.row true 9 (CTy.str) (kp8))], []⟩
  | _, _ => none

def ktk : PF Tryz.prog := PF.ofG Tryz.prog [] [] hmix 278 Tryz.f278 Tryz.func278 (fun c _ => LOk.nil c) ktr (by
  intro vs es r h; unfold ktr at h; split at h
  · cases h; kernel_rfl
  · cases h)

abbrev k63 := Int × ByteArray × List ByteArray

def kcu (y0 : Int) (y2 : List ByteArray) : Bool :=
  ltI y0 (↑(List.length y2) : Int)

def kf9 (y0 : Int) : Bool :=
  leI (0 : Int) y0

def kfl (y0 : Int) (y2 : List ByteArray) : Bool :=
  ltN (Int.toNat y0) (List.length y2)

def kfm (y0 : Int) (y1 : ByteArray) (y2 : List ByteArray) : Bool :=
  ByteArray.toList (Option.getD y2[Int.toNat y0]? ByteArray.empty) == ByteArray.toList y1

def kfb (y0 : Int) : Int :=
  IntKind.wrap IntKind.i64 (y0 + (1 : Int))

def kwu : k63 → List (Nat × SV)
  | (y0, y1, _) => [(4, (.one ⟨false, [(.val (.int IntKind.i64 y0))]⟩)), (3, (.one ⟨false, [(.ref 0)]⟩)), (0, (.one ⟨false, [(.val (.string y1))]⟩))]

def kwj : k63 → List (Nat × Entry)
  | (_, _, y2) => [(0, (.row true 9 (CTy.str) y2))]

def kwy : Nat → k63 → List (Nat × SV)
  | 0, (y0, _, _) => [(2, (.one ⟨false, [(.val (.int IntKind.i64 y0))]⟩))]
  | _, (_, _, _) => []

def kx2 : Nat → k63 → List (Nat × Entry)
  | 0, (_, _, y2) => [(0, (.row true 9 (CTy.str) y2))]
  | _, (_, _, y2) => [(0, (.row true 9 (CTy.str) y2))]

def kef : k63 → LT k63
  | (y0, y1, y2) => .ite (kcu y0 y2) (.need [(kf9 y0), (kcu y0 y2), (kfl y0 y2)] (.ite (kfm y0 y1 y2) (.ext 0 [(0, 0)]) (.nrm ((kfb y0), y1, y2) [(0, 0)]))) (.ext 1 [(0, 0)])

def kn4 (s : St) : Option k63 :=
  (match s.look 4 with
  | some ⟨none, (.one ⟨false, [(.val (.int IntKind.i64 y0))]⟩)⟩ =>
  (match s.look 3 with
  | some ⟨none, (.one ⟨false, [(.ref 128)]⟩)⟩ =>
  (match s.look 0 with
  | some ⟨none, (.one ⟨false, [(.val (.string y1))]⟩)⟩ =>
  (match s.ent 128 with
  | some (.row true 9 (CTy.str) y2) =>
  some (y0, y1, y2)
  | _ => none)
  | _ => none)
  | _ => none)
  | _ => none)

def k2c : Lp k63 where
  h := ⟨[6, 7, 8, 9, 12, 13, 14, 15, 16, 17, 18, 2, 10, 11, 4], [0], [], []⟩
  JL := kwu
  JE := kwj
  XL := kwy
  XE := kx2
  q := fun j => match j with | 0 => .ret | _ => .exit 0
  tags := [0, 1]
  lt := kef
  fuel := fun (y0, y1, y2) => y0.natAbs + y1.size + y2.length
  fix := fun (_, y1, y2) (y0, _, _) => (y0, y1, y2)
  σ := [(0, 128)]
  rd := kn4

theorem kuw : LoopOk Tryz.prog (fun k => Nat.blt k Tryz.f267.ntmps) k2c.F (loopAt Tryz.f267 0) := by
  refine Lp.ok (tbl := [ktk]) (lf := []) hmix k2c (by kernel_rfl) (LOk.nil _) (fun _ => rfl) (fun j _ => by unfold k2c; match j with | 0 => rfl | _ + 1 => rfl) ?_ ?_ ?_ ?_ (fun _ => rfl) ?_
  · intro x; obtain ⟨y0, y1, y2⟩ := x; kernel_rfl
  · intro x; obtain ⟨y0, y1, y2⟩ := x; kernel_rfl
  · intro s x h
    have h : kn4 s = some x := h
    unfold kn4 at h
    repeat' split at h
    all_goals cases h
    exact ⟨absS_cons (by assumption) rfl (absS_cons (by assumption) rfl (absS_cons (by assumption) rfl (rfl))), absE_cons rfl (by assumption) rfl (rfl)⟩
  · intro x; obtain ⟨y0, y1, y2⟩ := x; kernel_rfl
  · intro x z; obtain ⟨y0, y1, y2⟩ := x; exact (And.intro (And.intro trivial rfl) trivial)

def km8 (x0 : ByteArray) : Int × ByteArray × List ByteArray :=
  ((0 : Int), x0, kp8)

def knj (x0 : ByteArray) : Int :=
  bif Nat.beq (Prod.fst (Lp.res k2c (km8 x0))) (0 : Nat) then
  Prod.fst (Prod.snd (Lp.res k2c (km8 x0)))
  else (-1 : Int)

def knl (x0 : ByteArray) : Bool :=
  allT [Lp.fin k2c (km8 x0)]

def kun : List SV → List Entry → Option Out
  | [.one ⟨false, [.val (.string x0)]⟩], [] => some ⟨(.one ⟨false, [(.val (.int IntKind.i64 (knj x0)))]⟩), [], [], [(knl x0)]⟩
  | _, _ => none

def k122 : PF Tryz.prog := PF.ofG Tryz.prog [ktk] [k2c.F] hmix 267 Tryz.f267 Tryz.func267 (LOk.fnT (l := [loopAt Tryz.f267 0]) (by kernel_rfl) (.cons kuw (.nil _))) kun (by
  intro vs es r h; unfold kun at h; split at h
  · cases h; kernel_rfl
  · cases h)

def kcx (x0 : ByteArray) (x1 : Int) : Int :=
  ibs x0 x1

def kiu : List SV → List Entry → Option Out
  | [.one ⟨false, [.val (.string x0)]⟩, .one ⟨false, [.val (.int .u8 x1)]⟩], [] => some ⟨(.one ⟨false, [(.val (.int IntKind.i64 (kcx x0 x1)))]⟩), [], [], []⟩
  | _, _ => none

def kpd : PF Tryz.prog := PF.ofG Tryz.prog [] [] hmix 279 Tryz.f279 Tryz.func279 (fun c _ => LOk.nil c) kiu (by
  intro vs es r h; unfold kiu at h; split at h
  · cases h; kernel_rfl
  · cases h)

def kl7 (x0 : ByteArray) (x1 : Int) : Int :=
  kcx x0 x1

def ksn : List SV → List Entry → Option Out
  | [.one ⟨false, [.val (.string x0)]⟩, .one ⟨false, [.val (.int .u8 x1)]⟩], [] => some ⟨(.one ⟨false, [(.val (.int IntKind.i64 (kl7 x0 x1)))]⟩), [], [], []⟩
  | _, _ => none

def kos : PF Tryz.prog := PF.ofG Tryz.prog [kpd] [] hmix 273 Tryz.f273 Tryz.func273 (fun c _ => LOk.nil c) ksn (by
  intro vs es r h; unfold ksn at h; split at h
  · cases h; kernel_rfl
  · cases h)

abbrev kiy := Int × Int × ByteArray × ByteArray

def khi (y0 : Int) (y1 : Int) (y2 : ByteArray) : Bool :=
  ltI (IntKind.wrap IntKind.i64 (y0 + y1)) (↑(ByteArray.size y2) : Int)

def kv6 (y0 : Int) (y1 : Int) (y2 : ByteArray) : Bool :=
  !(khi y0 y1 y2 && true) || leI (0 : Int) (IntKind.wrap IntKind.i64 (y0 + y1))

def kvv (y0 : Int) (y1 : Int) (y2 : ByteArray) : Bool :=
  !(khi y0 y1 y2 && true) || khi y0 y1 y2

def ksh (y0 : Int) (y1 : Int) (y2 : ByteArray) (y3 : ByteArray) : Bool :=
  bif khi y0 y1 y2 then
  leI (0 : Int) (kl7 y3 (↑(UInt8.toNat (Option.getD y2[Int.toNat (IntKind.wrap IntKind.i64 (y0 + y1))]? (0 : UInt8))) : Int))
  else false

def k11e (y1 : Int) : Int :=
  IntKind.wrap IntKind.i64 (y1 + (1 : Int))

def k13i : kiy → List (Nat × SV)
  | (y0, y1, y2, y3) => [(1, (.one ⟨false, [(.val (.int IntKind.i64 y0))]⟩)), (7, (.one ⟨false, [(.val (.int IntKind.i64 y1))]⟩)), (0, (.one ⟨false, [(.val (.string y2))]⟩)), (2, (.one ⟨false, [(.val (.string y3))]⟩))]

def k13m : kiy → List (Nat × Entry)
  | (_, _, _, _) => []

def k13t : Nat → kiy → List (Nat × SV)
  | _, (_, y1, _, _) => [(7, (.one ⟨false, [(.val (.int IntKind.i64 y1))]⟩))]

def k13n : Nat → kiy → List (Nat × Entry)
  | _, (_, _, _, _) => []

def kob : kiy → LT kiy
  | (y0, y1, y2, y3) => .need [(kv6 y0 y1 y2), (kvv y0 y1 y2)] (.ite (ksh y0 y1 y2 y3) (.nrm (y0, (k11e y1), y2, y3) []) (.ext 0 []))

def ktw (s : St) : Option kiy :=
  (match s.look 1 with
  | some ⟨none, (.one ⟨false, [(.val (.int IntKind.i64 y0))]⟩)⟩ =>
  (match s.look 7 with
  | some ⟨none, (.one ⟨false, [(.val (.int IntKind.i64 y1))]⟩)⟩ =>
  (match s.look 0 with
  | some ⟨none, (.one ⟨false, [(.val (.string y2))]⟩)⟩ =>
  (match s.look 2 with
  | some ⟨none, (.one ⟨false, [(.val (.string y3))]⟩)⟩ =>
  some (y0, y1, y2, y3)
  | _ => none)
  | _ => none)
  | _ => none)
  | _ => none)

def k6i : Lp kiy where
  h := ⟨[8, 9, 10, 11, 12, 13, 14, 15, 16, 17, 18, 19, 20, 21, 22, 23, 24, 25, 7], [], [], []⟩
  JL := k13i
  JE := k13m
  XL := k13t
  XE := k13n
  q := fun j => match j with | _ => .exit 0
  tags := [0]
  lt := kob
  fuel := fun (y0, y1, y2, y3) => y0.natAbs + y1.natAbs + y2.size + y3.size
  fix := fun (y0, _, y2, y3) (_, y1, _, _) => (y0, y1, y2, y3)
  σ := []
  rd := ktw

theorem k12c : LoopOk Tryz.prog (fun k => Nat.blt k Tryz.f274.ntmps) k6i.F (loopAt Tryz.f274 0) := by
  refine Lp.ok (tbl := [kos]) (lf := []) hmix k6i (by kernel_rfl) (LOk.nil _) (fun _ => rfl) (fun _ _ => rfl) ?_ ?_ ?_ ?_ (fun _ => rfl) ?_
  · intro x; obtain ⟨y0, y1, y2, y3⟩ := x; kernel_rfl
  · intro x; obtain ⟨y0, y1, y2, y3⟩ := x; kernel_rfl
  · intro s x h
    have h : ktw s = some x := h
    unfold ktw at h
    repeat' split at h
    all_goals cases h
    exact ⟨absS_cons (by assumption) rfl (absS_cons (by assumption) rfl (absS_cons (by assumption) rfl (absS_cons (by assumption) rfl (rfl)))), rfl⟩
  · intro x; obtain ⟨y0, y1, y2, y3⟩ := x; kernel_rfl
  · intro x z; obtain ⟨y0, y1, y2, y3⟩ := x; exact (And.intro rfl trivial)

def k13b (x0 : ByteArray) (x1 : Int) (x2 : ByteArray) : Int × Int × ByteArray × ByteArray :=
  (x1, (0 : Int), x0, x2)

def k148 (x0 : ByteArray) (x1 : Int) (x2 : ByteArray) : Int :=
  Prod.fst (Prod.snd (Prod.snd (Lp.res k6i (k13b x0 x1 x2))))

def k142 (x0 : ByteArray) (x1 : Int) (x2 : ByteArray) : Bool :=
  allT [Lp.fin k6i (k13b x0 x1 x2)]

def k14c : List SV → List Entry → Option Out
  | [.one ⟨false, [.val (.string x0)]⟩, .one ⟨false, [.val (.int .i64 x1)]⟩, .one ⟨false, [.val (.string x2)]⟩], [] => some ⟨(.one ⟨false, [(.val (.int IntKind.i64 (k148 x0 x1 x2)))]⟩), [], [], [(k142 x0 x1 x2)]⟩
  | _, _ => none

def k15j : PF Tryz.prog := PF.ofG Tryz.prog [kos] [k6i.F] hmix 274 Tryz.f274 Tryz.func274 (LOk.fnT (l := [loopAt Tryz.f274 0]) (by kernel_rfl) (.cons k12c (.nil _))) k14c (by
  intro vs es r h; unfold k14c at h; split at h
  · cases h; kernel_rfl
  · cases h)

def kgm (x0 : ByteArray) : Bool :=
  k95 (↑(ByteArray.size x0) : Int) (1 : Int) (12 : Int)

def km2 (x0 : ByteArray) : Bool :=
  bif kgm x0 then
  leI (0 : Int)
    (kl7
      {
        data :=
          #[(97 : UInt8), (98 : UInt8), (99 : UInt8), (100 : UInt8), (101 : UInt8), (102 : UInt8), (103 : UInt8), (104 : UInt8), (105 : UInt8),
            (106 : UInt8), (107 : UInt8), (108 : UInt8), (109 : UInt8), (110 : UInt8), (111 : UInt8), (112 : UInt8), (113 : UInt8), (114 : UInt8),
            (115 : UInt8), (116 : UInt8), (117 : UInt8), (118 : UInt8), (119 : UInt8), (120 : UInt8), (121 : UInt8), (122 : UInt8)] }
      (↑(UInt8.toNat (Option.getD x0[Int.toNat (0 : Int)]? (0 : UInt8))) : Int))
  else false

def kw4 (x0 : ByteArray) : Bool :=
  bif km2 x0 then
  k148 x0 (0 : Int)
      {
        data :=
          #[(97 : UInt8), (98 : UInt8), (99 : UInt8), (100 : UInt8), (101 : UInt8), (102 : UInt8), (103 : UInt8), (104 : UInt8), (105 : UInt8),
            (106 : UInt8), (107 : UInt8), (108 : UInt8), (109 : UInt8), (110 : UInt8), (111 : UInt8), (112 : UInt8), (113 : UInt8), (114 : UInt8),
            (115 : UInt8), (116 : UInt8), (117 : UInt8), (118 : UInt8), (119 : UInt8), (120 : UInt8), (121 : UInt8), (122 : UInt8), (48 : UInt8),
            (49 : UInt8), (50 : UInt8), (51 : UInt8), (52 : UInt8), (53 : UInt8), (54 : UInt8), (55 : UInt8), (56 : UInt8), (57 : UInt8),
            (95 : UInt8)] } ==
    (↑(ByteArray.size x0) : Int)
  else false

def kv5 (x0 : ByteArray) : Bool :=
  allT
  [!(kgm x0 && true) || leI (0 : Int) (0 : Int), !(kgm x0 && true) || ltI (0 : Int) (↑(ByteArray.size x0) : Int),
    !(km2 x0 && true) ||
      k142 x0 (0 : Int)
        {
          data :=
            #[(97 : UInt8), (98 : UInt8), (99 : UInt8), (100 : UInt8), (101 : UInt8), (102 : UInt8), (103 : UInt8), (104 : UInt8), (105 : UInt8),
              (106 : UInt8), (107 : UInt8), (108 : UInt8), (109 : UInt8), (110 : UInt8), (111 : UInt8), (112 : UInt8), (113 : UInt8), (114 : UInt8),
              (115 : UInt8), (116 : UInt8), (117 : UInt8), (118 : UInt8), (119 : UInt8), (120 : UInt8), (121 : UInt8), (122 : UInt8), (48 : UInt8),
              (49 : UInt8), (50 : UInt8), (51 : UInt8), (52 : UInt8), (53 : UInt8), (54 : UInt8), (55 : UInt8), (56 : UInt8), (57 : UInt8),
              (95 : UInt8)] }]

def k11q : List SV → List Entry → Option Out
  | [.one ⟨false, [.val (.string x0)]⟩], [] => some ⟨(.one ⟨false, [(.val (.bool (kw4 x0)))]⟩), [], [], [(kv5 x0)]⟩
  | _, _ => none

def k143 : PF Tryz.prog := PF.ofG Tryz.prog [ksj, kos, k15j] [] hmix 257 Tryz.f257 Tryz.func257 (fun c _ => LOk.nil c) k11q (by
  intro vs es r h; unfold k11q at h; split at h
  · cases h; kernel_rfl
  · cases h)

abbrev k24 := Int × Int × ByteArray × List ByteArray

def k7d (y0 : Int) (y1 : Int) : Bool :=
  ltI y0 y1

def k7j (y0 : Int) : Bool :=
  leI (0 : Int) y0

def k7i (y0 : Int) (y3 : List ByteArray) : Bool :=
  ltI y0 (↑(List.length y3) : Int)

def k7k (y0 : Int) (y3 : List ByteArray) : Bool :=
  ltN (Int.toNat y0) (List.length y3)

def k7e (y0 : Int) (y2 : ByteArray) (y3 : List ByteArray) : Bool :=
  ByteArray.toList y2 == ByteArray.toList (Option.getD y3[Int.toNat y0]? ByteArray.empty)

def k7g (y0 : Int) : Int :=
  IntKind.wrap IntKind.i64 (y0 + (1 : Int))

def kpl : k24 → List (Nat × SV)
  | (y0, y1, y2, _) => [(8, (.one ⟨false, [(.val (.int IntKind.i64 y0))]⟩)), (7, (.one ⟨false, [(.val (.int IntKind.i64 y1))]⟩)), (1, (.one ⟨false, [(.val (.string y2))]⟩)), (0, (.one ⟨false, [(.ref 0)]⟩))]

def kpo : k24 → List (Nat × Entry)
  | (_, _, _, y3) => [(0, (.row false 9 (CTy.str) y3))]

def kpv : Nat → k24 → List (Nat × SV)
  | 0, (y0, _, _, _) => [(4, (.one ⟨false, [(.val (.int IntKind.i64 y0))]⟩))]
  | _, (_, _, _, _) => []

def kpb : Nat → k24 → List (Nat × Entry)
  | 0, (_, _, _, y3) => [(0, (.row false 9 (CTy.str) y3))]
  | _, (_, _, _, y3) => [(0, (.row false 9 (CTy.str) y3))]

def k6n : k24 → LT k24
  | (y0, y1, y2, y3) => .ite (k7d y0 y1) (.need [(k7j y0), (k7i y0 y3), (k7k y0 y3)] (.ite (k7e y0 y2 y3) (.ext 0 [(0, 0)]) (.nrm ((k7g y0), y1, y2, y3) [(0, 0)]))) (.ext 1 [(0, 0)])

def kd2 (s : St) : Option k24 :=
  (match s.look 8 with
  | some ⟨none, (.one ⟨false, [(.val (.int IntKind.i64 y0))]⟩)⟩ =>
  (match s.look 7 with
  | some ⟨none, (.one ⟨false, [(.val (.int IntKind.i64 y1))]⟩)⟩ =>
  (match s.look 1 with
  | some ⟨none, (.one ⟨false, [(.val (.string y2))]⟩)⟩ =>
  (match s.look 0 with
  | some ⟨none, (.one ⟨false, [(.ref 0)]⟩)⟩ =>
  (match s.ent 0 with
  | some (.row false 9 (CTy.str) y3) =>
  some (y0, y1, y2, y3)
  | _ => none)
  | _ => none)
  | _ => none)
  | _ => none)
  | _ => none)

def k19 : Lp k24 where
  h := ⟨[9, 10, 5, 11, 12, 13, 14, 15, 16, 17, 4, 18, 8], [0], [], []⟩
  JL := kpl
  JE := kpo
  XL := kpv
  XE := kpb
  q := fun j => match j with | 0 => .ret | _ => .exit 0
  tags := [0, 1]
  lt := k6n
  fuel := fun (y0, y1, y2, y3) => y0.natAbs + y1.natAbs + y2.size + y3.length
  fix := fun (_, y1, y2, y3) (y0, _, _, _) => (y0, y1, y2, y3)
  σ := [(0, 0)]
  rd := kd2

theorem kom : LoopOk Tryz.prog (fun k => Nat.blt k Tryz.f120.ntmps) k19.F (loopAt Tryz.f120 0) := by
  refine Lp.ok (tbl := []) (lf := []) hmix k19 (by kernel_rfl) (LOk.nil _) (fun _ => rfl) (fun j _ => by unfold k19; match j with | 0 => rfl | _ + 1 => rfl) ?_ ?_ ?_ ?_ (fun _ => rfl) ?_
  · intro x; obtain ⟨y0, y1, y2, y3⟩ := x; kernel_rfl
  · intro x; obtain ⟨y0, y1, y2, y3⟩ := x; kernel_rfl
  · intro s x h
    have h : kd2 s = some x := h
    unfold kd2 at h
    repeat' split at h
    all_goals cases h
    exact ⟨absS_cons (by assumption) rfl (absS_cons (by assumption) rfl (absS_cons (by assumption) rfl (absS_cons (by assumption) rfl (rfl)))), absE_cons rfl (by assumption) rfl (rfl)⟩
  · intro x; obtain ⟨y0, y1, y2, y3⟩ := x; kernel_rfl
  · intro x z; obtain ⟨y0, y1, y2, y3⟩ := x; exact (And.intro (And.intro trivial rfl) trivial)

def kbe (x0 : ByteArray) (x1 : List ByteArray) : Int × Int × ByteArray × List ByteArray :=
  ((0 : Int), (↑(List.length x1) : Int), x0, x1)

def kf1 (x0 : ByteArray) (x1 : List ByteArray) : Int :=
  bif Nat.beq (Prod.fst (Lp.res k19 (kbe x0 x1))) (0 : Nat) then
  Prod.fst (Prod.snd (Lp.res k19 (kbe x0 x1)))
  else (-1 : Int)

def kfi (x0 : ByteArray) (x1 : List ByteArray) : Bool :=
  allT [Lp.fin k19 (kbe x0 x1)]

def klq : List SV → List Entry → Option Out
  | [.one ⟨false, [.ref 0]⟩, .one ⟨false, [.val (.string x0)]⟩], [.row false 9 (.str) x1] => some ⟨(.one ⟨false, [(.val (.int IntKind.i64 (kf1 x0 x1)))]⟩), [(.row false 9 (CTy.str) x1)], [], [(kfi x0 x1)]⟩
  | _, _ => none

def kf5 : PF Tryz.prog := PF.ofG Tryz.prog [] [k19.F] hmix 120 Tryz.f120 Tryz.func120 (LOk.fnT (l := [loopAt Tryz.f120 0]) (by kernel_rfl) (.cons kom (.nil _))) klq (by
  intro vs es r h; unfold klq at h; split at h
  · cases h; kernel_rfl
  · cases h)

def kd8 (x0 : ByteArray) (x1 : List ByteArray) : Bool :=
  leI (0 : Int) (kf1 x0 x1)

def kd5 (x0 : ByteArray) (x1 : List ByteArray) : Bool :=
  allT [kfi x0 x1]

def kiz : List SV → List Entry → Option Out
  | [.one ⟨false, [.ref 0]⟩, .one ⟨false, [.val (.string x0)]⟩], [.row false 9 (.str) x1] => some ⟨(.one ⟨false, [(.val (.bool (kd8 x0 x1)))]⟩), [(.row false 9 (CTy.str) x1)], [], [(kd5 x0 x1)]⟩
  | _, _ => none

def kdc : PF Tryz.prog := PF.ofG Tryz.prog [kf5, PF.lend kf5, PF.fz kf5] [] hmix 234 Tryz.f234 Tryz.func234 (fun c _ => LOk.nil c) kiz (by
  intro vs es r h; unfold kiz at h; split at h
  · cases h; kernel_rfl
  · cases h)

def krr (x0 : ByteArray) : Bool :=
  kd8 x0 (List.drop (Int.toNat (0 : Int)) (List.take (Int.toNat (↑(List.length tab0) : Int)) tab0))

def krq (x0 : ByteArray) : Bool :=
  allT [kd5 x0 (List.drop (Int.toNat (0 : Int)) (List.take (Int.toNat (↑(List.length tab0) : Int)) tab0))]

def kvi : List SV → List Entry → Option Out
  | [.one ⟨false, [.val (.string x0)]⟩], [] => some ⟨(.one ⟨false, [(.val (.bool (krr x0)))]⟩), [], [], [(krq x0)]⟩
  | _, _ => none

def k12b : PF Tryz.prog := PF.ofG Tryz.prog [kdc, PF.lend kdc, PF.fz kdc] [] hmix 258 Tryz.f258 Tryz.func258 (fun c _ => LOk.nil c) kvi (by
  intro vs es r h; unfold kvi at h; split at h
  · cases h; kernel_rfl
  · cases h)

end Go.SX

namespace Go.SX
open Go.Proofs
set_option maxRecDepth 100000

/-- A loop over numbers that stops at the first of a kind. -/
theorem Lp.scan {X : Type} (p : Lp X) (st : Nat → X) (N : Nat) (P : Nat → Bool) (e : Nat) (hN : N ≤ p.fuel (st 0))
    (hs : ∀ b, b < N → (p.lt (st b)).nds = true ∧ (p.lt (st b)).each (fun y => y = st (b + 1)) ∧ (p.lt (st b)).fn (fun _ => ()) = (bif P b then .inl 0 else .inr ()))
    (he : (p.lt (st N)).out = some (.inl e)) : p.fin (st 0) = true ∧ (p.res (st 0)).1 = bif (List.range N).any P then 0 else e := by
  have key := p.along (fun i (_ : Unit) => st i) (fun _ => ()) (fun (b : Nat) (_ : Unit) => bif P b then .inl 0 else .inr ()) e (fun _ _ => True) (List.range N) () trivial (by rw [List.length_range]; exact hN)
    (fun i b a hb _ => by
      obtain ⟨rfl, hlt⟩ := range_get hb
      obtain ⟨h1, h2, h3⟩ := hs b hlt
      exact ⟨h1, h2, h3, fun _ _ => trivial⟩) (fun a _ => by rw [List.length_range]; exact he)
  rw [walk_stop (P := P) (j := 0) (fun b => rfl)] at key
  exact ⟨key.1, by rw [key.2]⟩

/-- A byte of a text. -/
def bAt (s : ByteArray) (b : Nat) : Int := ((s[b]?.getD 0).toNat : Int)
def letB (c : Int) : Bool := inR c 97 122
def innB (c : Int) : Bool := letB c || (inR c 48 57 || c == 95)
/-- A word. -/
def wordB (s : ByteArray) : Bool := inR (s.size : Int) 1 12 && (letB (bAt s 0) && (List.range s.size).all fun b => innB (bAt s b))
/-- A keyword. -/
def keyB (s : ByteArray) : Bool := tab0.any fun k => k.toList == s.toList
/-- A name. -/
def nameB (s : ByteArray) : Bool := wordB s && !keyB s

def abcS : ByteArray := ⟨#[97, 98, 99, 100, 101, 102, 103, 104, 105, 106, 107, 108, 109, 110, 111, 112, 113, 114, 115, 116, 117, 118, 119, 120, 121, 122]⟩
def wbS : ByteArray := ⟨#[97, 98, 99, 100, 101, 102, 103, 104, 105, 106, 107, 108, 109, 110, 111, 112, 113, 114, 115, 116, 117, 118, 119, 120, 121, 122, 48, 49, 50, 51, 52, 53, 54, 55, 56, 57, 95]⟩

theorem k170 : ∀ n : Nat, n < 256 → leI 0 (ibs abcS (n : Int)) = letB (n : Int) := by decide +kernel
theorem wb_nat : ∀ n : Nat, n < 256 → leI 0 (ibs wbS (n : Int)) = innB (n : Int) := by decide +kernel

theorem abc_ok (s : ByteArray) (b : Nat) : leI 0 (ibs abcS (bAt s b)) = letB (bAt s b) := k170 _ (UInt8.toNat_lt _)
theorem wb_ok (s : ByteArray) (b : Nat) : leI 0 (ibs wbS (bAt s b)) = innB (bAt s b) := wb_nat _ (UInt8.toNat_lt _)

theorem specInner (c : Int) : kq7 c = innB c := by
  simp only [kq7, kld, kta, inR_eq, innB, letB]
  cases inR c 97 122 <;> cases inR c 48 57 <;> rfl

theorem k15q (s : ByteArray) (hn : s.size ≤ 9223372036854775807) :
    k3s.fin ((0 : Int), s) = true ∧ (k3s.res ((0 : Int), s)).1 = bif (List.range s.size).any (fun b => !innB (bAt s b)) then 0 else 1 := by
  refine Lp.scan k3s (fun b => ((b : Int), s)) s.size (fun b => !innB (bAt s b)) 1 (by simp only [k3s]; omega) (fun b hb => ?_) ?_
  · have hdec : ltI (b : Int) (s.size : Int) = true := ltI_t (by omega)
    have hw : IntKind.i64.wrap ((b : Int) + 1) = ((b + 1 : Nat) : Int) := by rw [wrap_i64 (by omega) (by omega)]; omega
    have hnn : leI (0 : Int) (b : Int) = true := leI_t (by omega)
    have i2 : kqm (b : Int) s = !innB (bAt s b) := by simp only [kqm, specInner, Int.toNat_natCast, bAt]
    refine ⟨?_, ?_, ?_⟩
    · simp [k3s, ki6, LT.nds, allT, kjg, kuq, hdec, hnn]
    · simp [k3s, ki6, LT.each, kuk, hw]
    · simp only [k3s, ki6, LT.fn, kjg, hdec, i2, cond_true]
  · simp [k3s, ki6, LT.out, kjg]

theorem k155 (s : ByteArray) (h : leN s.size 9223372036854775807 = true) : ku0 s = wordB s ∧ ku5 s = true := by
  obtain ⟨w1, w2⟩ := k15q s (leN_iff.1 h)
  have e5 : ((List.range s.size).any fun b => !innB (bAt s b)) = !(List.range s.size).all fun b => innB (bAt s b) := by simp [List.all_eq_not_any_not]
  rw [e5] at w2
  have eb : ((UInt8.toNat (Option.getD s[Int.toNat (0 : Int)]? (0 : UInt8)) : Nat) : Int) = bAt s 0 := rfl
  have h0 : leI 0 0 = true := rfl
  simp only [ku0, ku5, kq1, kq4, w1, w2, eb, h0, kld, k1o, inR_eq, wordB, letB, allT, Bool.or_true, cond_true]
  cases hr : inR (s.size : Int) 1 12 with
  | false => cases (List.range s.size).all fun b => innB (bAt s b) <;> simp [Nat.beq]
  | true =>
    have := krj.1 hr
    rw [ltI_t (by omega)]
    cases inR (bAt s 0) 97 122 <;> cases (List.range s.size).all fun b => innB (bAt s b) <;> simp [Nat.beq]

theorem w_run (s : ByteArray) (hn : s.size ≤ 9223372036854775806) :
    k6i.fin ((0 : Int), (0 : Int), s, wbS) = true ∧ ((k6i.res ((0 : Int), (0 : Int), s, wbS)).2.2.1 == (s.size : Int)) = (List.range s.size).all fun b => innB (bAt s b) := by
  have hz : ∀ i : Nat, i ≤ s.size → IntKind.i64.wrap ((0 : Int) + (i : Int)) = (i : Int) := fun i hi => by rw [wrap_i64 (by omega) (by omega)]; omega
  have key := k6i.along (fun i (_ : Unit) => ((0 : Int), (i : Int), s, wbS)) (fun _ => ()) (fun (b : Nat) (_ : Unit) => bif !innB (bAt s b) then .inl 0 else .inr ()) 0 (fun _ _ => True) (List.range s.size) () trivial (by simp only [k6i, List.length_range]; omega)
    (fun i b a hb _ => by
      obtain ⟨rfl, hlt⟩ := range_get hb
      have hdec : ltI (b : Int) (s.size : Int) = true := ltI_t (by omega)
      have hnn : leI (0 : Int) (b : Int) = true := leI_t (by omega)
      have hw : IntKind.i64.wrap ((b : Int) + 1) = ((b + 1 : Nat) : Int) := by rw [wrap_i64 (by omega) (by omega)]; omega
      have ha : khi 0 (b : Int) s = true := by simp only [khi, hz b (by omega), hdec]
      have hb2 : ksh 0 (b : Int) s wbS = innB (bAt s b) := by
        simp only [ksh, ha, cond_true, hz b (by omega), Int.toNat_natCast, kl7, kcx]
        exact wb_ok s b
      refine ⟨?_, ?_, ?_, fun _ _ => trivial⟩
      · have hz2 := hz b (by omega)
        rw [Int.zero_add] at hz2
        simp [k6i, kob, LT.nds, allT, kv6, kvv, ha, hz2]
      · simp [k6i, kob, LT.each, k11e, hw]
      · simp only [k6i, kob, LT.fn, hb2]
        cases innB (bAt s b) <;> rfl)
    (fun a _ => by
      have hdec : ltI (s.size : Int) (s.size : Int) = false := by simp
      have ha : khi 0 (s.size : Int) s = false := by simp only [khi, hz s.size (by omega), hdec]
      rw [List.length_range]
      simp [k6i, kob, LT.out, ksh, kv6, kvv, allT, ha])
  rw [walk_stop (P := fun b => !innB (bAt s b)) (j := 0) (fun b => rfl)] at key
  refine ⟨key.1, ?_⟩
  have k2 : k6i.res ((0 : Int), (0 : Int), s, wbS) = _ := key.2
  rw [k2]
  simp only [Nat.zero_add]
  rw [Bool.eq_iff_iff, beq_iff_eq, List.all_eq_true]
  have hl : ∀ (l : List Nat) (P : Nat → Bool), (l.takeWhile P).length = l.length ↔ ∀ x ∈ l, P x = true := by
    intro l P
    induction l with
    | nil => simp
    | cons a r ih =>
      rw [List.takeWhile_cons]
      cases h : P a with
      | false => simp [h]
      | true => simp [h, ih]
  have h2 := hl (List.range s.size) (fun b => !!innB (bAt s b))
  rw [List.length_range] at h2
  constructor
  · intro h x hx; have := h2.1 (by exact_mod_cast h) x hx; simpa using this
  · intro h; exact_mod_cast h2.2 (fun x hx => by simpa using h x hx)

theorem k14w (s : ByteArray) : kw4 s = wordB s ∧ kv5 s = true := by
  have eb : ((UInt8.toNat (Option.getD s[Int.toNat (0 : Int)]? (0 : UInt8)) : Nat) : Int) = bAt s 0 := rfl
  have e0 : kgm s = inR (s.size : Int) 1 12 := by simp only [kgm, k95, inR_eq]
  have e1 : km2 s = (inR (s.size : Int) 1 12 && letB (bAt s 0)) := by
    have : km2 s = bif kgm s then leI 0 (ibs abcS (bAt s 0)) else false := rfl
    rw [this, e0, abc_ok]
    cases inR (s.size : Int) 1 12 <;> rfl
  have e2 : kw4 s = bif km2 s then (k6i.res ((0 : Int), (0 : Int), s, wbS)).2.2.1 == (s.size : Int) else false := rfl
  have e3 : kv5 s = allT [!(kgm s && true) || leI (0) (0), !(kgm s && true) || ltI (0) (↑(ByteArray.size s)), !(km2 s && true) || allT [k6i.fin ((0 : Int), (0 : Int), s, wbS)]] := rfl
  have h0 : leI 0 0 = true := rfl
  rw [e2, e3, e1, e0, h0]
  cases hr : inR (s.size : Int) 1 12 with
  | false => simp [wordB, hr, allT]
  | true =>
    have := krj.1 hr
    obtain ⟨w1, w2⟩ := w_run s (by omega)
    rw [w1, w2, ltI_t (by omega)]
    simp only [wordB, hr, allT, Bool.true_and, Bool.and_true, Bool.or_true, cond_true]
    cases letB (bAt s 0) <;> simp

def kf8 (y1 : ByteArray) (b : ByteArray) : (Unit) → Nat ⊕ (Unit)
  | _ => (bif ((ByteArray.toList (b) == ByteArray.toList y1)) then (.inl 0) else (.inr ()))

def k8e (y1 : ByteArray) (y2 : List ByteArray) (i : Nat) : (Unit) → k63
  | _ => ((i : Int), y1, y2)

def kn2 : k63 → Unit
  | (_, _, _) => ()

theorem kyj (y1 : ByteArray) (y2 : List ByteArray)  (hn : y2.length ≤ 9223372036854775807)  :
    k2c.fin ((0 : Int), y1, y2) = true ∧ k2c.res ((0 : Int), y1, y2) = ((walkL (kf8 y1) 1 y2 0 ()).1, (k8e y1 y2) (walkL (kf8 y1) 1 y2 0 ()).2.1 (walkL (kf8 y1) 1 y2 0 ()).2.2) := by
  have key := k2c.along (k8e y1 y2) kn2 (kf8 y1) 1 (fun _ _ => True) y2 () (by trivial) (by simp only [k2c, k8e]; omega) (fun i b a hb hI => ?_) (fun a hI => ?_)
  · exact key
  · obtain ⟨⟩ := a
    have hlt := (List.getElem?_eq_some_iff.1 hb).1
    have hget : ∀ d, Option.getD y2[i]? d = b := fun d => by rw [hb]; rfl
    have hw := wrap64 hlt hn
    have hdec : ltI (i : Int) (y2.length : Int) = true := ltI_t (by omega)
    have hnn : leI (0 : Int) (i : Int) = true := leI_t (by omega)
    have hltd : ltN i y2.length = true := ltN_t hlt
    refine ⟨?_, ?_, ?_, ?_⟩
    · simp [kcu, kf9, kfl, kfm, kfb, kef, k2c, LT.nds, allT, k8e, hdec, hnn, hltd, hget]
    · simp [kcu, kf9, kfl, kfm, kfb, kef, k2c, LT.each, k8e, kn2, hw]
    · simp only [kcu, kf9, kfl, kfm, kfb, kef, k2c, LT.fn, k8e, kn2, kf8, Int.toNat_natCast, hdec, hnn, hltd, hget, cond_true, Bool.cond_self]
    · exact fun _ _ => trivial
  · obtain ⟨⟩ := a
    simp [kcu, kf9, kfl, kfm, kfb, kef, k2c, LT.out, k8e]

def k7f (y2 : ByteArray) (b : ByteArray) : (Unit) → Nat ⊕ (Unit)
  | _ => (bif ((ByteArray.toList y2 == ByteArray.toList (b))) then (.inl 0) else (.inr ()))

def k2k (y2 : ByteArray) (y3 : List ByteArray) (i : Nat) : (Unit) → k24
  | _ => ((i : Int), (↑(List.length y3) : Int), y2, y3)

def kcp : k24 → Unit
  | (_, _, _, _) => ()

theorem kqb (y2 : ByteArray) (y3 : List ByteArray)  (hn : y3.length ≤ 9223372036854775807)  :
    k19.fin ((0 : Int), (↑(List.length y3) : Int), y2, y3) = true ∧ k19.res ((0 : Int), (↑(List.length y3) : Int), y2, y3) = ((walkL (k7f y2) 1 y3 0 ()).1, (k2k y2 y3) (walkL (k7f y2) 1 y3 0 ()).2.1 (walkL (k7f y2) 1 y3 0 ()).2.2) := by
  have key := k19.along (k2k y2 y3) kcp (k7f y2) 1 (fun _ _ => True) y3 () (by trivial) (by simp only [k19, k2k]; omega) (fun i b a hb hI => ?_) (fun a hI => ?_)
  · exact key
  · obtain ⟨⟩ := a
    have hlt := (List.getElem?_eq_some_iff.1 hb).1
    have hget : ∀ d, Option.getD y3[i]? d = b := fun d => by rw [hb]; rfl
    have hw := wrap64 hlt hn
    have hdec : ltI (i : Int) (y3.length : Int) = true := ltI_t (by omega)
    have hnn : leI (0 : Int) (i : Int) = true := leI_t (by omega)
    have hltd : ltN i y3.length = true := ltN_t hlt
    refine ⟨?_, ?_, ?_, ?_⟩
    · simp [k7d, k7j, k7i, k7k, k7e, k7g, k6n, k19, LT.nds, allT, k2k, hdec, hnn, hltd, hget]
    · simp [k7d, k7j, k7i, k7k, k7e, k7g, k6n, k19, LT.each, k2k, kcp, hw]
    · simp only [k7d, k7j, k7i, k7k, k7e, k7g, k6n, k19, LT.fn, k2k, kcp, k7f, Int.toNat_natCast, hdec, hnn, hltd, hget, cond_true, Bool.cond_self]
    · exact fun _ _ => trivial
  · obtain ⟨⟩ := a
    simp [k7d, k7j, k7i, k7k, k7e, k7g, k6n, k19, LT.out, k2k]

theorem key17 : tab0.length ≤ 9223372036854775807 := by decide

theorem k15o (s : ByteArray) : ltI (knj s) 0 = !keyB s ∧ knl s = true := by
  have e0 : kp8 = tab0 := rfl
  obtain ⟨w1, w2⟩ := kyj s tab0 key17
  rw [walk_stop (P := fun k => k.toList == s.toList) (j := 0) (fun k => rfl)] at w2
  simp only [knj, knl, km8, e0, w1, w2, allT, keyB, k8e]
  cases tab0.any fun k => k.toList == s.toList with
  | false => exact ⟨rfl, rfl⟩
  | true =>
    simp only [cond_true, Nat.beq]
    refine ⟨?_, trivial⟩
    exact ltI_not.2 (by omega)

theorem k157 (s : ByteArray) : krr s = keyB s ∧ krq s = true := by
  have e0 : List.drop (Int.toNat (0)) (List.take (Int.toNat (↑(List.length tab0))) tab0) = tab0 := rfl
  obtain ⟨w1, w2⟩ := kqb s tab0 key17
  rw [walk_stop (P := fun k => s.toList == k.toList) (j := 0) (fun k => rfl)] at w2
  have e1 : (fun k : ByteArray => s.toList == k.toList) = fun k => k.toList == s.toList := funext fun k => BEq.comm
  rw [e1] at w2
  simp only [krr, krq, e0, kd8, kd5, kf1, kfi, kbe, w1, w2, allT, keyB, k2k]
  cases tab0.any fun k => k.toList == s.toList with
  | false => exact ⟨rfl, rfl⟩
  | true =>
    simp only [cond_true, Nat.beq]
    rw [leI_t (by omega)]; simp

def kzp : List SV → List Entry → Option Out
  | [.one ⟨false, [.val (.string x0)]⟩], [] => some ⟨(.one ⟨false, [(.val (.bool (wordB x0)))]⟩), [], [], [leN x0.size 9223372036854775807]⟩
  | _, _ => none

def k13r : PF Tryz.prog := PF.alt k13o kzp (by
  intro args es o h hnd; unfold kzp at h; split at h
  · rename_i x0
    cases h
    have hnd := nd_fst hnd
    have hh := k155 x0 hnd
    obtain ⟨e0, en⟩ := hh
    exact altok rfl (nd_one en) (by simp only [e0] <;> rfl) rfl rfl
  · cases h)

def k11i : List SV → List Entry → Option Out
  | [.one ⟨false, [.val (.string x0)]⟩], [] => some ⟨(.one ⟨false, [(.val (.bool (wordB x0)))]⟩), [], [], []⟩
  | _, _ => none

def k14b : PF Tryz.prog := PF.alt k143 k11i (by
  intro args es o h hnd; unfold k11i at h; split at h
  · rename_i x0
    cases h
    have hh := k14w x0
    obtain ⟨e0, en⟩ := hh
    exact altok rfl (nd_one en) (by simp only [e0] <;> rfl) rfl rfl
  · cases h)

def kw9 : List SV → List Entry → Option Out
  | [.one ⟨false, [.val (.string x0)]⟩], [] => some ⟨(.one ⟨false, [(.val (.bool (keyB x0)))]⟩), [], [], []⟩
  | _, _ => none

def k12h : PF Tryz.prog := PF.alt k12b kw9 (by
  intro args es o h hnd; unfold kw9 at h; split at h
  · rename_i x0
    cases h
    have hh := k157 x0
    obtain ⟨e0, en⟩ := hh
    exact altok rfl (nd_one en) (by simp only [e0] <;> rfl) rfl rfl
  · cases h)

end Go.SX

namespace Go.SX
open Go.Proofs
set_option maxRecDepth 100000

def kr2 (x0 : ByteArray) : Bool :=
  bif wordB x0 then ltI (knj x0) (0 : Int) else false

def kr3 (x0 : ByteArray) : Bool :=
  allT [leN (ByteArray.size x0) (9223372036854775807 : Nat), !(wordB x0 && true) || knl x0]

def kzx : List SV → List Entry → Option Out
  | [.one ⟨false, [.val (.string x0)]⟩], [] => some ⟨(.one ⟨false, [(.val (.bool (kr2 x0)))]⟩), [], [], [(kr3 x0)]⟩
  | _, _ => none

def k13s : PF Tryz.prog := PF.ofG Tryz.prog [k13r, k122] [] hmix 239 Tryz.f239 Tryz.func239 (fun c _ => LOk.nil c) kzx (by
  intro vs es r h; unfold kzx at h; split at h
  · cases h; kernel_rfl
  · cases h)

def krm (x0 : Int) : Bool :=
  bif bif bif x0 == (7 : Int) then true else x0 == (8 : Int) then true else x0 == (11 : Int) then true else x0 == (12 : Int)

def kvz : List SV → List Entry → Option Out
  | [.one ⟨false, [.val (.int .i64 x0)]⟩], [] => some ⟨(.one ⟨false, [(.val (.bool (krm x0)))]⟩), [], [], []⟩
  | _, _ => none

def k12e : PF Tryz.prog := PF.ofG Tryz.prog [] [] hmix 251 Tryz.f251 Tryz.func251 (fun c _ => LOk.nil c) kvz (by
  intro vs es r h; unfold kvz at h; split at h
  · cases h; kernel_rfl
  · cases h)

def ku9 (x0 : Int) : Bool :=
  k1o x0 (1 : Int) (12 : Int)

def k102 : List SV → List Entry → Option Out
  | [.one ⟨false, [.val (.int .i64 x0)]⟩], [] => some ⟨(.one ⟨false, [(.val (.bool (ku9 x0)))]⟩), [], [], []⟩
  | _, _ => none

def k13j : PF Tryz.prog := PF.ofG Tryz.prog [kj5] [] hmix 252 Tryz.f252 Tryz.func252 (fun c _ => LOk.nil c) k102 (by
  intro vs es r h; unfold k102 at h; split at h
  · cases h; kernel_rfl
  · cases h)

def kt7 (x0 : Int) (x2 : Int) : Bool :=
  bif bif !ku9 x0 then true else !k1o x2 (0 : Int) (9999 : Int) then true
  else bif !krm x0 then x2 != (0 : Int) else false

def krb (x0 : Int) (x1 : ByteArray) (x2 : Int) : Bool :=
  bif kt7 x0 x2 then false else bif x0 == (1 : Int) then kr2 x1 else ByteArray.toList x1 == ByteArray.toList { data := #[] }

def kr4 (x0 : Int) (x1 : ByteArray) (x2 : Int) : Bool :=
  allT [kt7 x0 x2 || (!x0 == (1 : Int) || kr3 x1)]

def k103 : List SV → List Entry → Option Out
  | [.one ⟨true, [.val (.int .i64 x0), .val (.string x1), .val (.int .i64 x2)]⟩], [] => some ⟨(.one ⟨false, [(.val (.bool (krb x0 x1 x2)))]⟩), [], [], [(kr4 x0 x1 x2)]⟩
  | _, _ => none

def k13k : PF Tryz.prog := PF.ofG Tryz.prog [kj5, k13s, k12e, k13j] [] hmix 212 Tryz.f212 Tryz.func212 (fun c _ => LOk.nil c) k103 (by
  intro vs es r h; unfold k103 at h; split at h
  · cases h; kernel_rfl
  · cases h)

def kuc (x0 : Int) (x1 : ByteArray) (x2 : Int) : Bool :=
  bif krb x0 x1 x2 then leI (7 : Int) x0 else false

def kuf (x0 : Int) (x1 : ByteArray) (x2 : Int) : Bool :=
  allT [kr4 x0 x1 x2]

def kzk : List SV → List Entry → Option Out
  | [.one ⟨true, [.val (.int .i64 x0), .val (.string x1), .val (.int .i64 x2)]⟩], [] => some ⟨(.one ⟨false, [(.val (.bool (kuc x0 x1 x2)))]⟩), [], [], [(kuf x0 x1 x2)]⟩
  | _, _ => none

def k13q : PF Tryz.prog := PF.ofG Tryz.prog [k13k] [] hmix 154 Tryz.f154 Tryz.func154 (fun c _ => LOk.nil c) kzk (by
  intro vs es r h; unfold kzk at h; split at h
  · cases h; kernel_rfl
  · cases h)

def kso (x0 : ByteArray) : Bool :=
  bif wordB x0 then !keyB x0 else false

def k11f : List SV → List Entry → Option Out
  | [.one ⟨false, [.val (.string x0)]⟩], [] => some ⟨(.one ⟨false, [(.val (.bool (kso x0)))]⟩), [], [], []⟩
  | _, _ => none

def k14a : PF Tryz.prog := PF.ofG Tryz.prog [k14b, k12h] [] hmix 225 Tryz.f225 Tryz.func225 (fun c _ => LOk.nil c) k11f (by
  intro vs es r h; unfold k11f at h; split at h
  · cases h; kernel_rfl
  · cases h)

def kqn (x0 : Int) : Bool :=
  bif bif bif x0 == (7 : Int) then true else x0 == (8 : Int) then true else x0 == (11 : Int) then true else x0 == (12 : Int)

def kuv : List SV → List Entry → Option Out
  | [.one ⟨false, [.val (.int .i64 x0)]⟩], [] => some ⟨(.one ⟨false, [(.val (.bool (kqn x0)))]⟩), [], [], []⟩
  | _, _ => none

def k126 : PF Tryz.prog := PF.ofG Tryz.prog [] [] hmix 253 Tryz.f253 Tryz.func253 (fun c _ => LOk.nil c) kuv (by
  intro vs es r h; unfold kuv at h; split at h
  · cases h; kernel_rfl
  · cases h)

def ksf (x0 : Int) (x1 : ByteArray) (x2 : Int) : Bool :=
  bif bif !k95 x0 (1 : Int) (12 : Int) then true else !(x0 == (1 : Int)) == !ByteArray.toList x1 == ByteArray.toList { data := #[] } then
  false
  else
  bif kqn x0 then k95 x2 (0 : Int) (9999 : Int)
  else bif x2 == (0 : Int) then bif x0 != (1 : Int) then true else kso x1 else false

def k11n : List SV → List Entry → Option Out
  | [.one ⟨true, [.val (.int .i64 x0), .val (.string x1), .val (.int .i64 x2)]⟩], [] => some ⟨(.one ⟨false, [(.val (.bool (ksf x0 x1 x2)))]⟩), [], [], []⟩
  | _, _ => none

def k145 : PF Tryz.prog := PF.ofG Tryz.prog [ksj, k14a, k126] [] hmix 215 Tryz.f215 Tryz.func215 (fun c _ => LOk.nil c) k11n (by
  intro vs es r h; unfold k11n at h; split at h
  · cases h; kernel_rfl
  · cases h)

def ku7 (x0 : Int) (x1 : ByteArray) (x2 : Int) : Bool :=
  bif ksf x0 x1 x2 then leI (7 : Int) x0 else false

def kza : List SV → List Entry → Option Out
  | [.one ⟨true, [.val (.int .i64 x0), .val (.string x1), .val (.int .i64 x2)]⟩], [] => some ⟨(.one ⟨false, [(.val (.bool (ku7 x0 x1 x2)))]⟩), [], [], []⟩
  | _, _ => none

def k141 : PF Tryz.prog := PF.ofG Tryz.prog [k145] [] hmix 161 Tryz.f161 Tryz.func161 (fun c _ => LOk.nil c) kza (by
  intro vs es r h; unfold kza at h; split at h
  · cases h; kernel_rfl
  · cases h)

def kgc (x0 : Int) (x2 : Int) (x3 : Int) (x4 : Int) (x5 : Int) : Bool :=
  bif bif x0 == (7 : Int) then x0 == (7 : Int) else x0 == (8 : Int) then
  bif bif k95 x3 (0 : Int) x2 then x4 == (0 : Int) else false then x5 == (0 : Int) else false
  else
  bif x0 == (11 : Int) then bif bif k95 x3 (0 : Int) x2 then k95 x4 (0 : Int) (1 : Int) else false then x5 == (0 : Int) else false
  else
    bif x0 == (12 : Int) then
      bif x4 == (0 : Int) then
        bif bif k95 x3 (0 : Int) x2 then x5 == (0 : Int) else false then true
        else bif x3 == IntKind.wrap IntKind.i64 (x2 + (1 : Int)) then x5 == (1 : Int) else false
      else false
    else bif bif k95 x3 (0 : Int) (1 : Int) then x4 == (0 : Int) else false then x5 == (0 : Int) else false

def kut : List SV → List Entry → Option Out
  | [.one ⟨true, [.val (.int .i64 x0), .val (.string _x1), .val (.int .i64 x2)]⟩, .one ⟨true, [.val (.int .i64 x3), .val (.int .i64 x4), .val (.int .i64 x5)]⟩], [] => some ⟨(.one ⟨false, [(.val (.bool (kgc x0 x2 x3 x4 x5)))]⟩), [], [], []⟩
  | _, _ => none

def kul : PF Tryz.prog := PF.ofG Tryz.prog [ksj] [] hmix 185 Tryz.f185 Tryz.func185 (fun c _ => LOk.nil c) kut (by
  intro vs es r h; unfold kut at h; split at h
  · cases h; kernel_rfl
  · cases h)

def k2i (x0 : Int) (x2 : Int) (x3 : Int) (x4 : Int) (x5 : Int) : Bool :=
  bif bif x0 == (9 : Int) then x0 == (9 : Int) else x0 == (10 : Int) then
  bif bif k1o x3 (0 : Int) (1 : Int) then x4 == (0 : Int) else false then x5 == (0 : Int) else false
  else
  bif x0 == (11 : Int) then bif bif k1o x3 (0 : Int) x2 then k1o x4 (0 : Int) (1 : Int) else false then x5 == (0 : Int) else false
  else
    bif x0 == (12 : Int) then
      bif x4 == (0 : Int) then
        bif bif k1o x3 (0 : Int) x2 then x5 == (0 : Int) else false then true
        else bif x3 == IntKind.wrap IntKind.i64 (x2 + (1 : Int)) then x5 == (1 : Int) else false
      else false
    else bif bif k1o x3 (0 : Int) x2 then x4 == (0 : Int) else false then x5 == (0 : Int) else false

end Go.SX

namespace Go.SX
open Go.Proofs
set_option maxRecDepth 100000

/-- Kinds of terms that have a number. -/
def countK (k : Int) : Bool := k == 7 || (k == 8 || (k == 11 || k == 12))
/-- A valid term. -/
def termB (k : Int) (s : ByteArray) (n : Int) : Bool := inR k 1 12 && (inR n 0 9999 && ((countK k || n == 0) && (bif k == 1 then nameB s else s.toList == [])))
/-- A valid block. -/
def blockB (k : Int) (s : ByteArray) (n : Int) : Bool := termB k s n && leI 7 k
/-- A possible state of a block. -/
def possB (k n a b c : Int) : Bool := k2i k n a b c

theorem k14t : ByteArray.toList { data := #[] } = [] := by rw [Go.Lib.toList_data]

theorem k16r {s : ByteArray} (h : nameB s = true) : (s.toList == []) = false := by
  simp only [nameB, wordB, Bool.and_eq_true, krj] at h
  have h1 : s.size = s.toList.length := by rw [Go.Lib.size_eq, Go.Lib.toList_data]
  cases hs : s.toList with
  | nil =>
    rw [hs] at h1
    have h2 : s.size = 0 := h1
    omega
  | cons a l => rfl

theorem n0_in {n : Int} (h : (n == 0) = true) : inR n 0 9999 = true := by
  have : n = 0 := by simpa using h
  rw [this]; rfl

theorem k14u (k : Int) (s : ByteArray) (n : Int) (h : leN s.size 9223372036854775807 = true) : krb k s n = termB k s n ∧ kr4 k s n = true := by
  obtain ⟨e1, e2⟩ := k15o s
  have e3 : kr2 s = nameB s := by simp only [kr2, e1, nameB]; cases wordB s <;> rfl
  have e4 : kr3 s = true := by simp only [kr3, e2, h, allT, Bool.or_true, cond_true]
  simp only [krb, kr4, kt7, e3, e4, ku9, k1o, inR_eq, k14t, krm, termB, countK, allT, Bool.or_true, cond_true]
  refine ⟨?_, trivial⟩
  simp only [bne]
  generalize (bif k == 1 then nameB s else s.toList == []) = q
  generalize inR k 1 12 = q1
  generalize inR n 0 9999 = q2
  generalize (k == 7) = q3
  generalize (k == 8) = q4
  generalize (k == 11) = q5
  generalize (k == 12) = q6
  generalize (n == 0) = q7
  revert q q1 q2 q3 q4 q5 q6 q7
  decide

theorem k153 (k : Int) (s : ByteArray) (n : Int) : ksf k s n = termB k s n := by
  have e3 : kso s = nameB s := by simp only [kso, nameB]; cases wordB s <;> rfl
  simp only [ksf, e3, k95, inR_eq, k14t, kqn, termB, countK]
  by_cases h1 : k = 1
  · subst h1
    have z7 : ((1 : Int) == 7) = false := rfl
    have z8 : ((1 : Int) == 8) = false := rfl
    have z11 : ((1 : Int) == 11) = false := rfl
    have z12 : ((1 : Int) == 12) = false := rfl
    have z1 : ((1 : Int) == 1) = true := rfl
    have zn : ((1 : Int) != 1) = false := rfl
    have zr : inR (1 : Int) 1 12 = true := rfl
    rw [z7, z8, z11, z12, z1, zn, zr]
    have hs : nameB s = true → (s.toList == []) = false := k16r
    have h0 : (n == 0) = true → inR n 0 9999 = true := n0_in
    generalize (s.toList == []) = q at hs ⊢
    generalize (n == 0) = q2 at h0 ⊢
    generalize inR n 0 9999 = q3 at h0 ⊢
    generalize nameB s = q4 at hs ⊢
    revert q q2 q3 q4
    decide
  · have z1 : (k == 1) = false := by simpa using h1
    have zn : (k != 1) = true := by simpa using h1
    rw [z1, zn]
    have h0 : (n == 0) = true → inR n 0 9999 = true := n0_in
    generalize (s.toList == []) = q
    generalize (n == 0) = q2 at h0 ⊢
    generalize inR n 0 9999 = q3 at h0 ⊢
    generalize inR k 1 12 = q1
    generalize (k == 7) = p3
    generalize (k == 8) = p4
    generalize (k == 11) = p5
    generalize (k == 12) = p6
    generalize nameB s = p7
    revert q q1 q2 q3 p3 p4 p5 p6 p7
    decide

theorem k14k (k : Int) (s : ByteArray) (n : Int) (h : leN s.size 9223372036854775807 = true) : kuc k s n = blockB k s n ∧ kuf k s n = true := by
  obtain ⟨e1, e2⟩ := k14u k s n h
  simp only [kuc, kuf, e1, e2, blockB, allT, cond_true]
  refine ⟨?_, trivial⟩
  cases termB k s n <;> rfl

theorem k14n (k : Int) (s : ByteArray) (n : Int) : ku7 k s n = blockB k s n := by
  simp only [ku7, k153, blockB]
  cases termB k s n <;> rfl

theorem kzl {k : Int} {s : ByteArray} {n : Int} (h : blockB k s n = true) : (7 ≤ k ∧ k ≤ 12) ∧ (0 ≤ n ∧ n ≤ 9999) ∧ (countK k = true ∨ n = 0) := by
  simp only [blockB, termB, Bool.and_eq_true, krj, leI_iff, Bool.or_eq_true, beq_iff_eq] at h
  obtain ⟨⟨h1, h2, h3, _⟩, h4⟩ := h
  exact ⟨⟨h4, h1.2⟩, h2, h3⟩

/-- The kinds of blocks. -/
theorem kinds {k : Int} (h : 7 ≤ k ∧ k ≤ 12) : k = 7 ∨ k = 8 ∨ k = 9 ∨ k = 10 ∨ k = 11 ∨ k = 12 := by omega

theorem k16y {k n a b c : Int} (h : 7 ≤ k ∧ k ≤ 12) : kgc k n a b c = possB k n a b c := by
  rcases kinds h with rfl | rfl | rfl | rfl | rfl | rfl <;> rfl

theorem k12s {k n a b c : Int} (h : possB k n a b c = true) (hn : 0 ≤ n ∧ n ≤ 9999) : (0 ≤ a ∧ a ≤ 10000) ∧ (b = 0 ∨ b = 1) ∧ (c = 0 ∨ c = 1) := by
  have hw : IntKind.i64.wrap (n + 1) = n + 1 := wrap_i64 (by omega) (by omega)
  simp only [possB, k2i, k1o, inR_eq, hw] at h
  cases h1 : (bif k == 9 then k == 9 else k == 10) with
  | true =>
    rw [h1] at h
    cases h2 : inR a 0 1 <;> rw [h2] at h <;> simp at h
    have := krj.1 h2
    omega
  | false =>
    rw [h1] at h
    cases h3 : k == 11 with
    | true =>
      rw [h3] at h
      cases h2 : inR a 0 n <;> cases h4 : inR b 0 1 <;> rw [h2] at h <;> simp [h4] at h
      have := krj.1 h2
      have := krj.1 h4
      omega
    | false =>
      rw [h3] at h
      cases h5 : k == 12 with
      | true =>
        rw [h5] at h
        cases h2 : inR a 0 n <;> rw [h2] at h <;> simp at h
        · omega
        · have := krj.1 h2
          omega
      | false =>
        rw [h5] at h
        cases h2 : inR a 0 n <;> rw [h2] at h <;> simp at h
        have := krj.1 h2
        omega

def kyr : List SV → List Entry → Option Out
  | [.one ⟨true, [.val (.int .i64 x0), .val (.string x1), .val (.int .i64 x2)]⟩], [] => some ⟨(.one ⟨false, [(.val (.bool (blockB x0 x1 x2)))]⟩), [], [], [leN x1.size 9223372036854775807]⟩
  | _, _ => none

def kz8 : PF Tryz.prog := PF.alt k13q kyr (by
  intro args es o h hnd; unfold kyr at h; split at h
  · rename_i x0 x1 x2
    cases h
    have hnd := nd_fst hnd
    have hh := k14k x0 x1 x2 hnd
    obtain ⟨e0, en⟩ := hh
    exact altok rfl (nd_one en) (by simp only [e0] <;> rfl) rfl rfl
  · cases h)

def kzz : List SV → List Entry → Option Out
  | [.one ⟨true, [.val (.int .i64 x0), .val (.string x1), .val (.int .i64 x2)]⟩], [] => some ⟨(.one ⟨false, [(.val (.bool (blockB x0 x1 x2)))]⟩), [], [], []⟩
  | _, _ => none

def kz5 : PF Tryz.prog := PF.alt k141 kzz (by
  intro args es o h hnd; unfold kzz at h; split at h
  · rename_i x0 x1 x2
    cases h
    have hh := k14n x0 x1 x2
    have e0 := hh
    exact altok rfl (fun _ h => by cases h) (by simp only [e0] <;> rfl) rfl rfl
  · cases h)

end Go.SX

namespace Go.SX
open Go.Proofs
set_option maxRecDepth 100000

def ku6 (x1 : ByteArray) (x3 : Int) : Int :=
  IntKind.wrap IntKind.i64 (x3 - (↑(ByteArray.size x1) : Int))

def kdl (x1 : ByteArray) (x3 : Int) : Int :=
  bif ltI (ku6 x1 x3) (0 : Int) then (-1 : Int) else ku6 x1 x3

def k11j : List SV → List Entry → Option Out
  | [.one ⟨true, [.val (.int .i64 _x0), .val (.string x1), .val (.int .i64 _x2)]⟩, .one ⟨false, [.val (.int .i64 x3)]⟩], [] => some ⟨(.one ⟨false, [(.val (.int IntKind.i64 (kdl x1 x3)))]⟩), [], [], []⟩
  | _, _ => none

def k11g : PF Tryz.prog := PF.ofG Tryz.prog [] [] hmix 152 Tryz.f152 Tryz.func152 (fun c _ => LOk.nil c) k11j (by
  intro vs es r h; unfold k11j at h; split at h
  · cases h; kernel_rfl
  · cases h)

def kkm (x0 : Int) : Int :=
  bif bif x0 == (1 : Int) then x0 == (1 : Int) else bif x0 == (2 : Int) then x0 == (2 : Int) else x0 == (3 : Int) then (0 : Int)
  else
  bif
      bif x0 == (4 : Int) then x0 == (4 : Int)
      else bif x0 == (7 : Int) then x0 == (7 : Int) else bif x0 == (8 : Int) then x0 == (8 : Int) else x0 == (9 : Int) then
    (1 : Int)
  else (2 : Int)

def kxi : List SV → List Entry → Option Out
  | [.one ⟨false, [.val (.int .i64 x0)]⟩], [] => some ⟨(.one ⟨false, [(.val (.int IntKind.i64 (kkm x0)))]⟩), [], [], []⟩
  | _, _ => none

def k134 : PF Tryz.prog := PF.ofG Tryz.prog [] [] hmix 224 Tryz.f224 Tryz.func224 (fun c _ => LOk.nil c) kxi (by
  intro vs es r h; unfold kxi at h; split at h
  · cases h; kernel_rfl
  · cases h)

abbrev k9g := Int × List Int

def kg8 (y0 : Int) (y1 : List Int) : Bool :=
  ltI y0 (↑(List.length y1) : Int)

def kji (y0 : Int) : Bool :=
  leI (0 : Int) y0

def kjs (y0 : Int) (y1 : List Int) : Bool :=
  ltN (Int.toNat y0) (List.length y1)

def kjn (y0 : Int) (y1 : List Int) : Bool :=
  !k1o (Option.getD y1[Int.toNat y0]? (0 : Int)) (0 : Int) (1 : Int)

def kk1 (y0 : Int) : Int :=
  IntKind.wrap IntKind.i64 (y0 + (1 : Int))

def k10q : k9g → List (Nat × SV)
  | (y0, _) => [(5, (.one ⟨false, [(.val (.int IntKind.i64 y0))]⟩)), (0, (.one ⟨false, [(.ref 0)]⟩))]

def k10g : k9g → List (Nat × Entry)
  | (_, y1) => [(0, (.row false 2 (CTy.int IntKind.i64) y1))]

def k10b : Nat → k9g → List (Nat × SV)
  | 0, (_, _) => [(4, (.one ⟨false, [(.val (.bool false))]⟩))]
  | _, (_, _) => []

def k10i : Nat → k9g → List (Nat × Entry)
  | 0, (_, y1) => [(0, (.row false 2 (CTy.int IntKind.i64) y1))]
  | _, (_, y1) => [(0, (.row false 2 (CTy.int IntKind.i64) y1))]

def khy : k9g → LT k9g
  | (y0, y1) => .ite (kg8 y0 y1) (.need [(kji y0), (kg8 y0 y1), (kjs y0 y1)] (.ite (kjn y0 y1) (.ext 0 [(0, 0)]) (.nrm ((kk1 y0), y1) [(0, 0)]))) (.ext 1 [(0, 0)])

def kps (s : St) : Option k9g :=
  (match s.look 5 with
  | some ⟨none, (.one ⟨false, [(.val (.int IntKind.i64 y0))]⟩)⟩ =>
  (match s.look 0 with
  | some ⟨none, (.one ⟨false, [(.ref 0)]⟩)⟩ =>
  (match s.ent 0 with
  | some (.row false 2 (CTy.int IntKind.i64) y1) =>
  some (y0, y1)
  | _ => none)
  | _ => none)
  | _ => none)

def k3v : Lp k9g where
  h := ⟨[6, 7, 8, 9, 12, 13, 14, 15, 16, 17, 4, 10, 11, 5], [0], [], []⟩
  JL := k10q
  JE := k10g
  XL := k10b
  XE := k10i
  q := fun j => match j with | 0 => .ret | _ => .exit 0
  tags := [0, 1]
  lt := khy
  fuel := fun (y0, y1) => y0.natAbs + y1.length
  fix := fun (_, y1) (y0, _) => (y0, y1)
  σ := [(0, 0)]
  rd := kps

theorem kxw : LoopOk Tryz.prog (fun k => Nat.blt k Tryz.f88.ntmps) k3v.F (loopAt Tryz.f88 0) := by
  refine Lp.ok (tbl := [kj5]) (lf := []) hmix k3v (by kernel_rfl) (LOk.nil _) (fun _ => rfl) (fun j _ => by unfold k3v; match j with | 0 => rfl | _ + 1 => rfl) ?_ ?_ ?_ ?_ (fun _ => rfl) ?_
  · intro x; obtain ⟨y0, y1⟩ := x; kernel_rfl
  · intro x; obtain ⟨y0, y1⟩ := x; kernel_rfl
  · intro s x h
    have h : kps s = some x := h
    unfold kps at h
    repeat' split at h
    all_goals cases h
    exact ⟨absS_cons (by assumption) rfl (absS_cons (by assumption) rfl (rfl)), absE_cons rfl (by assumption) rfl (rfl)⟩
  · intro x; obtain ⟨y0, y1⟩ := x; kernel_rfl
  · intro x z; obtain ⟨y0, y1⟩ := x; exact (And.intro (And.intro trivial rfl) trivial)

def ktx (x0 : Int) (x1 : List Int) : Bool :=
  bif Nat.beq (Prod.fst (Lp.res k3v ((0 : Int), x1))) (0 : Nat) then false else (↑(List.length x1) : Int) == x0

def kty (x1 : List Int) : Bool :=
  allT [Lp.fin k3v ((0 : Int), x1)]

def kzb : List SV → List Entry → Option Out
  | [.one ⟨false, [.ref 0]⟩, .one ⟨false, [.val (.int .i64 x0)]⟩], [.row false 2 (.int .i64) x1] => some ⟨(.one ⟨false, [(.val (.bool (ktx x0 x1)))]⟩), [(.row false 2 (CTy.int IntKind.i64) x1)], [], [(kty x1)]⟩
  | _, _ => none

def k13w : PF Tryz.prog := PF.ofG Tryz.prog [kj5] [k3v.F] hmix 88 Tryz.f88 Tryz.func88 (LOk.fnT (l := [loopAt Tryz.f88 0]) (by kernel_rfl) (.cons kxw (.nil _))) kzb (by
  intro vs es r h; unfold kzb at h; split at h
  · cases h; kernel_rfl
  · cases h)

def k5x (x0 : Bool) : Int :=
  bif x0 then (1 : Int) else (0 : Int)

def k117 : List SV → List Entry → Option Out
  | [.one ⟨false, [.val (.bool x0)]⟩], [] => some ⟨(.one ⟨false, [(.val (.int IntKind.i64 (k5x x0)))]⟩), [], [], []⟩
  | _, _ => none

def k116 : PF Tryz.prog := PF.ofG Tryz.prog [] [] hmix 244 Tryz.f244 Tryz.func244 (fun c _ => LOk.nil c) k117 (by
  intro vs es r h; unfold k117 at h; split at h
  · cases h; kernel_rfl
  · cases h)

def k4p (x3 : Int) (x4 : Int) (x5 : Int) : Bool :=
  bif bif x3 == (1 : Int) then x4 == (0 : Int) else false then x5 == (0 : Int) else false

def k5k (x3 : Int) (x4 : Int) (x5 : Int) : Bool :=
  (bif k4p x3 x4 x5 then (0 : Int) else x3) == (0 : Int)

def k64 (x3 : Int) (x4 : Int) (x5 : Int) : Bool :=
  bif k5k x3 x4 x5 then x4 != x5 else false

def k74 (x1 : Int) (x3 : Int) (x4 : Int) (x5 : Int) : Int :=
  IntKind.wrap IntKind.i64 ((bif k4p x3 x4 x5 then (0 : Int) else x1) + (1 : Int))

def k75 (x0 : Int) (x1 : Int) (x3 : Int) (x4 : Int) (x5 : Int) : Int :=
  bif k64 x3 x4 x5 then k5x (ltI x0 (k74 x1 x3 x4 x5))
  else bif k5k x3 x4 x5 then (0 : Int) else bif k4p x3 x4 x5 then (0 : Int) else x3

def k8o (x0 : Int) (x1 : Int) (x3 : Int) (x4 : Int) (x5 : Int) : Int :=
  k5x (bif bif x4 == (1 : Int) then x5 == (1 : Int) else false then k75 x0 x1 x3 x4 x5 == (0 : Int) else false)

def k8l (x1 : Int) (x3 : Int) (x4 : Int) (x5 : Int) : Int :=
  bif k64 x3 x4 x5 then k74 x1 x3 x4 x5
  else bif k5k x3 x4 x5 then (0 : Int) else bif k4p x3 x4 x5 then (0 : Int) else x1

def k8m (x2 : Int) (x3 : Int) (x4 : Int) (x5 : Int) : Int :=
  bif k64 x3 x4 x5 then (0 : Int) else bif k5k x3 x4 x5 then (0 : Int) else bif k4p x3 x4 x5 then (0 : Int) else x2

def k8n (x0 : Int) (x1 : Int) (x3 : Int) (x4 : Int) (x5 : Int) : Int :=
  k75 x0 x1 x3 x4 x5

def kz1 : List SV → List Entry → Option Out
  | [.one ⟨false, [.val (.int .i64 x0)]⟩, .one ⟨true, [.val (.int .i64 x1), .val (.int .i64 x2), .val (.int .i64 x3)]⟩, .one ⟨false, [.val (.int .i64 x4)]⟩, .one ⟨false, [.val (.int .i64 x5)]⟩], [] => some ⟨(.tup [⟨false, [(.val (.int IntKind.i64 (k8o x0 x1 x3 x4 x5)))]⟩, ⟨true, [(.val (.int IntKind.i64 (k8l x1 x3 x4 x5))), (.val (.int IntKind.i64 (k8m x2 x3 x4 x5))), (.val (.int IntKind.i64 (k8n x0 x1 x3 x4 x5)))]⟩]), [], [], []⟩
  | _, _ => none

def k13y : PF Tryz.prog := PF.ofG Tryz.prog [k116] [] hmix 245 Tryz.f245 Tryz.func245 (fun c _ => LOk.nil c) kz1 (by
  intro vs es r h; unfold kz1 at h; split at h
  · cases h; kernel_rfl
  · cases h)

def k23 (x6 : List Int) : Int :=
  Option.getD x6[Int.toNat (0 : Int)]? (0 : Int)

def k5j (x3 : Int) : Int :=
  IntKind.wrap IntKind.i64 (x3 + (1 : Int))

def k6x (x2 : Int) (x3 : Int) (x6 : List Int) : Int :=
  IntKind.wrap IntKind.i64 (ifLt (k5j x3) x2 (k5j x3) x2 * k23 x6)

def k42 (x6 : List Int) : Int :=
  bif ltI (1 : Int) (↑(List.length x6) : Int) then Option.getD x6[Int.toNat (1 : Int)]? (0 : Int) else (0 : Int)

def k72 (x3 : Int) (x6 : List Int) : Int :=
  bif k42 x6 == (1 : Int) then (0 : Int) else bif k23 x6 == (1 : Int) then (1 : Int) else x3

def k6z (x2 : Int) (x3 : Int) (x4 : Int) (x6 : List Int) : Int :=
  bif k42 x6 == (1 : Int) then (0 : Int)
  else bif bif k23 x6 == (1 : Int) then x4 == (0 : Int) else false then ifLt (k5j x3) x2 (k5j x3) x2 else x3

def k6v (x3 : Int) : Int :=
  IntKind.wrap IntKind.i64 (x3 - (1 : Int))

def k6w (x6 : List Int) : Int :=
  bif k23 x6 == (1 : Int) then (0 : Int) else (0 : Int)

def k65 (x6 : List Int) : Bool :=
  !ltI (1 : Int) (↑(List.length x6) : Int)

def k40 (x0 : Int) (x2 : Int) (x3 : Int) (x4 : Int) (x5 : Int) (x6 : List Int) : Int :=
  bif x0 == (7 : Int) then k5x (bif k23 x6 == (1 : Int) then k6x x2 x3 x6 == x2 else false)
  else
  bif x0 == (8 : Int) then bif k23 x6 == (1 : Int) then (1 : Int) else k5x (ltI (0 : Int) x3)
  else
    bif x0 == (9 : Int) then k5x (bif k23 x6 == (1 : Int) then x3 == (0 : Int) else false)
    else
      bif x0 == (10 : Int) then k72 x3 x6
      else
        bif x0 == (11 : Int) then k5x (k6z x2 x3 x4 x6 == x2)
        else k8o x2 x3 x5 (k23 x6) (k42 x6)

def k5n (x0 : Int) (x2 : Int) (x3 : Int) (x4 : Int) (x5 : Int) (x6 : List Int) : Int :=
  bif x0 == (7 : Int) then k6x x2 x3 x6
  else
  bif x0 == (8 : Int) then bif k23 x6 == (1 : Int) then x2 else ifLt (0 : Int) (k6v x3) (k6v x3) (0 : Int)
  else
    bif x0 == (9 : Int) then k23 x6
    else
      bif x0 == (10 : Int) then k72 x3 x6
      else bif x0 == (11 : Int) then k6z x2 x3 x4 x6 else k8l x3 x5 (k23 x6) (k42 x6)

def k5u (x0 : Int) (x4 : Int) (x5 : Int) (x6 : List Int) : Int :=
  bif x0 == (7 : Int) then (0 : Int)
  else
  bif x0 == (8 : Int) then k6w x6
  else
    bif x0 == (9 : Int) then (0 : Int)
    else
      bif x0 == (10 : Int) then (0 : Int)
      else bif x0 == (11 : Int) then k23 x6 else k8m x4 x5 (k23 x6) (k42 x6)

def k5w (x0 : Int) (x2 : Int) (x3 : Int) (x5 : Int) (x6 : List Int) : Int :=
  bif x0 == (7 : Int) then (0 : Int)
  else
  bif x0 == (8 : Int) then k6w x6
  else
    bif x0 == (9 : Int) then (0 : Int)
    else
      bif x0 == (10 : Int) then (0 : Int)
      else bif x0 == (11 : Int) then (0 : Int) else k8n x2 x3 x5 (k23 x6) (k42 x6)

def k7q (x6 : List Int) : Bool :=
  allT
  [ltI (0 : Int) (↑(List.length x6) : Int), ltN (Int.toNat (0 : Int)) (List.length x6), k65 x6 || leI (0 : Int) (1 : Int),
    k65 x6 || ltI (1 : Int) (↑(List.length x6) : Int), k65 x6 || ltN (Int.toNat (1 : Int)) (List.length x6)]

def k104 : List SV → List Entry → Option Out
  | [.one ⟨true, [.val (.int .i64 x0), .val (.string _x1), .val (.int .i64 x2)]⟩, .one ⟨true, [.val (.int .i64 x3), .val (.int .i64 x4), .val (.int .i64 x5)]⟩, .one ⟨false, [.ref 0]⟩], [.row false 2 (.int .i64) x6] => some ⟨(.tup [⟨false, [(.val (.int IntKind.i64 (k40 x0 x2 x3 x4 x5 x6)))]⟩, ⟨true, [(.val (.int IntKind.i64 (k5n x0 x2 x3 x4 x5 x6))), (.val (.int IntKind.i64 (k5u x0 x4 x5 x6))), (.val (.int IntKind.i64 (k5w x0 x2 x3 x5 x6)))]⟩]), [(.row false 2 (CTy.int IntKind.i64) x6)], [], [(k7q x6)]⟩
  | _, _ => none

def ku1 : PF Tryz.prog := PF.ofG Tryz.prog [k116, k13y] [] hmix 190 Tryz.f190 Tryz.func190 (fun c _ => LOk.nil c) k104 (by
  intro vs es r h; unfold k104 at h; split at h
  · cases h; kernel_rfl
  · cases h)

def k11p : List SV → List Entry → Option Out
  | [.one ⟨true, [.val (.int .i64 x0), .val (.string x1), .val (.int .i64 x2)]⟩], [] => some ⟨(.one ⟨true, [(.val (.int IntKind.i64 x0)), (.val (.string x1)), (.val (.int IntKind.i64 x2))]⟩), [], [], []⟩
  | _, _ => none

def k11s : PF Tryz.prog := PF.ofG Tryz.prog [] [] hmix 156 Tryz.f156 Tryz.func156 (fun c _ => LOk.nil c) k11p (by
  intro vs es r h; unfold k11p at h; split at h
  · cases h; kernel_rfl
  · cases h)

def k12m (x0 : Int) : Bool :=
  bif x0 != (0 : Int) then x0 != (1 : Int) else false

def kvy : List SV → List Entry → Option Out
  | [.one ⟨false, [.val (.int .i64 x0)]⟩], [] => some ⟨(.one ⟨false, [(.val (.bool (k12m x0)))]⟩), [], [], []⟩
  | _, _ => none

def k12f : PF Tryz.prog := PF.ofG Tryz.prog [] [] hmix 219 Tryz.f219 Tryz.func219 (fun c _ => LOk.nil c) kvy (by
  intro vs es r h; unfold kvy at h; split at h
  · cases h; kernel_rfl
  · cases h)

def kgg (x0 : Int) : Bool :=
  bif x0 != (0 : Int) then x0 != (1 : Int) else false

def kqe : List SV → List Entry → Option Out
  | [(.one ⟨false, [(.val (.int IntKind.i64 x0))]⟩)], [] => some ⟨(.one ⟨false, [(.val (.bool (kgg x0)))]⟩), [], [], []⟩
  | _, _ => none

def kqf : PF Tryz.prog := PF.ofG Tryz.prog [] [] hmix 219 Tryz.f219 Tryz.func219 (fun c _ => LOk.nil c) kqe (by
  intro vs es r h; unfold kqe at h; split at h
  · cases h; kernel_rfl
  · cases h)

abbrev k1i := Int × Int × List Int

def k3o (y0 : Int) (y1 : Int) : Bool :=
  ltI y0 y1

def k3k (y0 : Int) : Bool :=
  leI (0 : Int) y0

def k3j (y0 : Int) (y2 : List Int) : Bool :=
  ltI y0 (↑(List.length y2) : Int)

def k3l (y0 : Int) (y2 : List Int) : Bool :=
  ltN (Int.toNat y0) (List.length y2)

def k3i (y0 : Int) (y2 : List Int) : Bool :=
  kgg (Option.getD y2[Int.toNat y0]? (0 : Int))

def k3n (y0 : Int) : Int :=
  IntKind.wrap IntKind.i64 (y0 + (1 : Int))

def kl9 : k1i → List (Nat × SV)
  | (y0, y1, _) => [(8, (.one ⟨false, [(.val (.int IntKind.i64 y0))]⟩)), (7, (.one ⟨false, [(.val (.int IntKind.i64 y1))]⟩)), (1, (.one ⟨false, [(.val (.func (.func 219) ⟨[]⟩ ⟨[]⟩))]⟩)), (0, (.one ⟨false, [(.ref 0)]⟩))]

def kla : k1i → List (Nat × Entry)
  | (_, _, y2) => [(0, (.row false 2 (CTy.int IntKind.i64) y2))]

def klb : Nat → k1i → List (Nat × SV)
  | 0, (y0, _, _) => [(4, (.one ⟨false, [(.val (.int IntKind.i64 y0))]⟩))]
  | _, (_, _, _) => []

def klc : Nat → k1i → List (Nat × Entry)
  | 0, (_, _, y2) => [(0, (.row false 2 (CTy.int IntKind.i64) y2))]
  | _, (_, _, y2) => [(0, (.row false 2 (CTy.int IntKind.i64) y2))]

def k3e : k1i → LT k1i
  | (y0, y1, y2) => .ite (k3o y0 y1) (.need [(k3k y0), (k3j y0 y2), (k3l y0 y2)] (.ite (k3i y0 y2) (.ext 0 [(0, 0)]) (.nrm ((k3n y0), y1, y2) [(0, 0)]))) (.ext 1 [(0, 0)])

def k8r (s : St) : Option k1i :=
  (match s.look 8 with
  | some ⟨none, (.one ⟨false, [(.val (.int IntKind.i64 y0))]⟩)⟩ =>
  (match s.look 7 with
  | some ⟨none, (.one ⟨false, [(.val (.int IntKind.i64 y1))]⟩)⟩ =>
  (match s.look 1 with
  | some ⟨none, (.one ⟨false, [(.val (.func (.func 219) ⟨[]⟩ ⟨[]⟩))]⟩)⟩ =>
  (match s.look 0 with
  | some ⟨none, (.one ⟨false, [(.ref 0)]⟩)⟩ =>
  (match s.ent 0 with
  | some (.row false 2 (CTy.int IntKind.i64) y2) =>
  some (y0, y1, y2)
  | _ => none)
  | _ => none)
  | _ => none)
  | _ => none)
  | _ => none)

def ko : Lp k1i where
  h := ⟨[9, 10, 5, 11, 12, 13, 14, 15, 16, 17, 4, 18, 8], [0], [], []⟩
  JL := kl9
  JE := kla
  XL := klb
  XE := klc
  q := fun j => match j with | 0 => .ret | _ => .exit 0
  tags := [0, 1]
  lt := k3e
  fuel := fun (y0, y1, y2) => y0.natAbs + y1.natAbs + y2.length
  fix := fun (_, y1, y2) (y0, _, _) => (y0, y1, y2)
  σ := [(0, 0)]
  rd := k8r

theorem kke : LoopOk Tryz.prog (fun k => Nat.blt k Tryz.f255.ntmps) ko.F (loopAt Tryz.f255 0) := by
  refine Lp.ok (tbl := [kqf]) (lf := []) hmix ko (by kernel_rfl) (LOk.nil _) (fun _ => rfl) (fun j _ => by unfold ko; match j with | 0 => rfl | _ + 1 => rfl) ?_ ?_ ?_ ?_ (fun _ => rfl) ?_
  · intro x; obtain ⟨y0, y1, y2⟩ := x; kernel_rfl
  · intro x; obtain ⟨y0, y1, y2⟩ := x; kernel_rfl
  · intro s x h
    have h : k8r s = some x := h
    unfold k8r at h
    repeat' split at h
    all_goals cases h
    exact ⟨absS_cons (by assumption) rfl (absS_cons (by assumption) rfl (absS_cons (by assumption) rfl (absS_cons (by assumption) rfl (rfl)))), absE_cons rfl (by assumption) rfl (rfl)⟩
  · intro x; obtain ⟨y0, y1, y2⟩ := x; kernel_rfl
  · intro x z; obtain ⟨y0, y1, y2⟩ := x; exact (And.intro (And.intro trivial rfl) trivial)

def k6j (x0 : List Int) : Int × Int × List Int :=
  ((0 : Int), (↑(List.length x0) : Int), x0)

def kay (x0 : List Int) : Int :=
  bif Nat.beq (Prod.fst (Lp.res ko (k6j x0))) (0 : Nat) then
  Prod.fst (Prod.snd (Lp.res ko (k6j x0)))
  else (-1 : Int)

def kas (x0 : List Int) : Bool :=
  allT [Lp.fin ko (k6j x0)]

def kep : List SV → List Entry → Option Out
  | [(.one ⟨false, [(.ref 0)]⟩), (.one ⟨false, [(.val (.func (.func 219) ⟨[]⟩ ⟨[]⟩))]⟩)], [(.row false 2 (CTy.int IntKind.i64) x0)] => some ⟨(.one ⟨false, [(.val (.int IntKind.i64 (kay x0)))]⟩), [(.row false 2 (CTy.int IntKind.i64) x0)], [], [(kas x0)]⟩
  | _, _ => none

def kao : PF Tryz.prog := PF.ofG Tryz.prog [kqf] [ko.F] hmix 255 Tryz.f255 Tryz.func255 (LOk.fnT (l := [loopAt Tryz.f255 0]) (by kernel_rfl) (.cons kke (.nil _))) kep (by
  intro vs es r h; unfold kep at h; split at h
  · cases h; kernel_rfl
  · cases h)

def k8z (x0 : List Int) : Bool :=
  leI (0 : Int) (kay x0)

def k9b (x0 : List Int) : Bool :=
  allT [kas x0]

def kde : List SV → List Entry → Option Out
  | [(.one ⟨false, [(.ref 0)]⟩), (.one ⟨false, [(.val (.func (.func 219) ⟨[]⟩ ⟨[]⟩))]⟩)], [(.row false 2 (CTy.int IntKind.i64) x0)] => some ⟨(.one ⟨false, [(.val (.bool (k8z x0)))]⟩), [(.row false 2 (CTy.int IntKind.i64) x0)], [], [(k9b x0)]⟩
  | _, _ => none

def k99 : PF Tryz.prog := PF.ofG Tryz.prog [kao, PF.lend kao, PF.fz kao] [] hmix 218 Tryz.f218 Tryz.func218 (fun c _ => LOk.nil c) kde (by
  intro vs es r h; unfold kde at h; split at h
  · cases h; kernel_rfl
  · cases h)

def kue (x0 : Int) (x1 : List Int) : Bool :=
  bif (↑(List.length x1) : Int) == x0 then !k8z x1 else false

def kug (x0 : Int) (x1 : List Int) : Bool :=
  allT [!((↑(List.length x1) : Int) == x0 && true) || k9b x1]

def kyw : List SV → List Entry → Option Out
  | [.one ⟨false, [.ref 0]⟩, .one ⟨false, [.val (.int .i64 x0)]⟩], [.row false 2 (.int .i64) x1] => some ⟨(.one ⟨false, [(.val (.bool (kue x0 x1)))]⟩), [(.row false 2 (CTy.int IntKind.i64) x1)], [], [(kug x0 x1)]⟩
  | _, _ => none

def k13p : PF Tryz.prog := PF.ofG Tryz.prog [k12f, k99, PF.lend k99, PF.fz k99] [] hmix 165 Tryz.f165 Tryz.func165 (fun c _ => LOk.nil c) kyw (by
  intro vs es r h; unfold kyw at h; split at h
  · cases h; kernel_rfl
  · cases h)

def ka3 (x0 : Bool) : Int :=
  bif x0 then (1 : Int) else (0 : Int)

def k12j : List SV → List Entry → Option Out
  | [.one ⟨false, [.val (.bool x0)]⟩], [] => some ⟨(.one ⟨false, [(.val (.int IntKind.i64 (ka3 x0)))]⟩), [], [], []⟩
  | _, _ => none

def kxx : PF Tryz.prog := PF.ofG Tryz.prog [] [] hmix 269 Tryz.f269 Tryz.func269 (fun c _ => LOk.nil c) k12j (by
  intro vs es r h; unfold k12j at h; split at h
  · cases h; kernel_rfl
  · cases h)

def kcg (x2 : Int) (x4 : Bool) : Bool :=
  bif x4 then x2 == (0 : Int) else false

def kc8 (x1 : Int) : Int :=
  IntKind.wrap IntKind.i64 (x1 + (1 : Int))

def kce (x0 : Int) (x1 : Int) (x2 : Int) (x4 : Bool) (x5 : Bool) : Int :=
  bif x5 then (0 : Int) else bif kcg x2 x4 then ifLt x0 (kc8 x1) x0 (kc8 x1) else x1

def kd6 (x0 : Int) (x1 : Int) (x2 : Int) (x4 : Bool) (x5 : Bool) : Int :=
  ka3 (kce x0 x1 x2 x4 x5 == x0)

def kdh (x0 : Int) (x1 : Int) (x2 : Int) (x4 : Bool) (x5 : Bool) : Int :=
  kce x0 x1 x2 x4 x5

def kdk (x4 : Bool) : Int :=
  ka3 x4

def kdj (x2 : Int) (x3 : Int) (x4 : Bool) (x5 : Bool) : Int :=
  bif x5 then x3 else bif kcg x2 x4 then x3 else x3

def kwd : List SV → List Entry → Option Out
  | [.one ⟨false, [.val (.int .i64 x0)]⟩, .one ⟨true, [.val (.int .i64 x1), .val (.int .i64 x2), .val (.int .i64 x3)]⟩, .one ⟨false, [.val (.bool x4)]⟩, .one ⟨false, [.val (.bool x5)]⟩], [] => some ⟨(.tup [⟨false, [(.val (.int IntKind.i64 (kd6 x0 x1 x2 x4 x5)))]⟩, ⟨true, [(.val (.int IntKind.i64 (kdh x0 x1 x2 x4 x5))), (.val (.int IntKind.i64 (kdk x4))), (.val (.int IntKind.i64 (kdj x2 x3 x4 x5)))]⟩]), [], [], []⟩
  | _, _ => none

def k12o : PF Tryz.prog := PF.ofG Tryz.prog [kxx] [] hmix 270 Tryz.f270 Tryz.func270 (fun c _ => LOk.nil c) kwd (by
  intro vs es r h; unfold kwd at h; split at h
  · cases h; kernel_rfl
  · cases h)

def k5o (x3 : Int) (x4 : Bool) (x5 : Bool) : Bool :=
  bif bif x3 == (1 : Int) then !x4 else false then !x5 else false

def kau (x3 : Int) (x4 : Bool) (x5 : Bool) : Bool :=
  (bif k5o x3 x4 x5 then (0 : Int) else x3) == (0 : Int)

def kc2 (x3 : Int) (x4 : Bool) (x5 : Bool) : Bool :=
  bif kau x3 x4 x5 then !x4 == x5 else false

def kdb (x1 : Int) (x3 : Int) (x4 : Bool) (x5 : Bool) : Int :=
  IntKind.wrap IntKind.i64 ((bif k5o x3 x4 x5 then (0 : Int) else x1) + (1 : Int))

def kdf (x0 : Int) (x1 : Int) (x3 : Int) (x4 : Bool) (x5 : Bool) : Int :=
  bif kc2 x3 x4 x5 then ka3 (ltI x0 (kdb x1 x3 x4 x5))
  else bif kau x3 x4 x5 then bif k5o x3 x4 x5 then (0 : Int) else x3 else bif k5o x3 x4 x5 then (0 : Int) else x3

def ker (x0 : Int) (x1 : Int) (x3 : Int) (x4 : Bool) (x5 : Bool) : Int :=
  ka3 (bif bif x4 then x5 else false then kdf x0 x1 x3 x4 x5 == (0 : Int) else false)

def kem (x1 : Int) (x3 : Int) (x4 : Bool) (x5 : Bool) : Int :=
  bif kc2 x3 x4 x5 then kdb x1 x3 x4 x5
  else bif kau x3 x4 x5 then (0 : Int) else bif k5o x3 x4 x5 then (0 : Int) else x1

def ken (x2 : Int) (x3 : Int) (x4 : Bool) (x5 : Bool) : Int :=
  bif kc2 x3 x4 x5 then bif k5o x3 x4 x5 then x2 else x2
  else bif kau x3 x4 x5 then bif k5o x3 x4 x5 then x2 else x2 else bif k5o x3 x4 x5 then x2 else x2

def kel (x0 : Int) (x1 : Int) (x3 : Int) (x4 : Bool) (x5 : Bool) : Int :=
  kdf x0 x1 x3 x4 x5

def kxl : List SV → List Entry → Option Out
  | [.one ⟨false, [.val (.int .i64 x0)]⟩, .one ⟨true, [.val (.int .i64 x1), .val (.int .i64 x2), .val (.int .i64 x3)]⟩, .one ⟨false, [.val (.bool x4)]⟩, .one ⟨false, [.val (.bool x5)]⟩], [] => some ⟨(.tup [⟨false, [(.val (.int IntKind.i64 (ker x0 x1 x3 x4 x5)))]⟩, ⟨true, [(.val (.int IntKind.i64 (kem x1 x3 x4 x5))), (.val (.int IntKind.i64 (ken x2 x3 x4 x5))), (.val (.int IntKind.i64 (kel x0 x1 x3 x4 x5)))]⟩]), [], [], []⟩
  | _, _ => none

def k136 : PF Tryz.prog := PF.ofG Tryz.prog [kxx] [] hmix 271 Tryz.f271 Tryz.func271 (fun c _ => LOk.nil c) kxl (by
  intro vs es r h; unfold kxl at h; split at h
  · cases h; kernel_rfl
  · cases h)

def k43 (x6 : List Int) : Bool :=
  Option.getD x6[Int.toNat (0 : Int)]? (0 : Int) == (1 : Int)

def klu (x3 : Int) : Int :=
  IntKind.wrap IntKind.i64 (x3 + (1 : Int))

def klo (x2 : Int) (x3 : Int) (x6 : List Int) : Int :=
  IntKind.wrap IntKind.i64 (ka3 (k43 x6) * ifLt x2 (klu x3) x2 (klu x3))

def khm (x6 : List Int) : Int :=
  IntKind.wrap IntKind.i64 ((↑(List.length x6) : Int) - (1 : Int))

def ka4 (x6 : List Int) : Bool :=
  Option.getD x6[Int.toNat (khm x6)]? (0 : Int) == (1 : Int)

def klj (x3 : Int) (x6 : List Int) : Int :=
  bif ka4 x6 then (0 : Int) else bif k43 x6 then (1 : Int) else x3

def kli (x3 : Int) : Int :=
  IntKind.wrap IntKind.i64 (x3 - (1 : Int))

def km9 (x0 : Int) (x2 : Int) (x3 : Int) (x4 : Int) (x5 : Int) (x6 : List Int) : Int :=
  bif x0 == (7 : Int) then ka3 (bif k43 x6 then klo x2 x3 x6 == x2 else false)
  else
  bif x0 == (8 : Int) then bif k43 x6 then (1 : Int) else ka3 (ltI (0 : Int) x3)
  else
    bif x0 == (9 : Int) then ka3 (bif k43 x6 then x3 == (0 : Int) else false)
    else
      bif x0 == (10 : Int) then klj x3 x6
      else
        bif x0 == (11 : Int) then kd6 x2 x3 x4 (k43 x6) (ka4 x6)
        else ker x2 x3 x5 (k43 x6) (ka4 x6)

def kkj (x0 : Int) (x2 : Int) (x3 : Int) (x4 : Int) (x5 : Int) (x6 : List Int) : Int :=
  bif x0 == (7 : Int) then klo x2 x3 x6
  else
  bif x0 == (8 : Int) then bif k43 x6 then x2 else ifLt (kli x3) (0 : Int) (0 : Int) (kli x3)
  else
    bif x0 == (9 : Int) then ka3 (k43 x6)
    else
      bif x0 == (10 : Int) then klj x3 x6
      else
        bif x0 == (11 : Int) then kdh x2 x3 x4 (k43 x6) (ka4 x6)
        else kem x3 x5 (k43 x6) (ka4 x6)

def kki (x0 : Int) (x4 : Int) (x5 : Int) (x6 : List Int) : Int :=
  bif x0 == (7 : Int) then x4
  else
  bif x0 == (8 : Int) then bif k43 x6 then x4 else x4
  else
    bif x0 == (9 : Int) then x4
    else
      bif x0 == (10 : Int) then bif ka4 x6 then x4 else bif k43 x6 then x4 else x4
      else bif x0 == (11 : Int) then kdk (k43 x6) else ken x4 x5 (k43 x6) (ka4 x6)

def kkl (x0 : Int) (x2 : Int) (x3 : Int) (x4 : Int) (x5 : Int) (x6 : List Int) : Int :=
  bif x0 == (7 : Int) then x5
  else
  bif x0 == (8 : Int) then bif k43 x6 then x5 else x5
  else
    bif x0 == (9 : Int) then x5
    else
      bif x0 == (10 : Int) then bif ka4 x6 then x5 else bif k43 x6 then x5 else x5
      else
        bif x0 == (11 : Int) then kdj x4 x5 (k43 x6) (ka4 x6)
        else kel x2 x3 x5 (k43 x6) (ka4 x6)

def kmc (x6 : List Int) : Bool :=
  allT
  [ltI (0 : Int) (↑(List.length x6) : Int), ltN (Int.toNat (0 : Int)) (List.length x6), leI (0 : Int) (khm x6),
    ltI (khm x6) (↑(List.length x6) : Int), ltN (Int.toNat (khm x6)) (List.length x6)]

def k13f : List SV → List Entry → Option Out
  | [.one ⟨true, [.val (.int .i64 x0), .val (.string _x1), .val (.int .i64 x2)]⟩, .one ⟨true, [.val (.int .i64 x3), .val (.int .i64 x4), .val (.int .i64 x5)]⟩, .one ⟨false, [.ref 0]⟩], [.row false 2 (.int .i64) x6] => some ⟨(.tup [⟨false, [(.val (.int IntKind.i64 (km9 x0 x2 x3 x4 x5 x6)))]⟩, ⟨true, [(.val (.int IntKind.i64 (kkj x0 x2 x3 x4 x5 x6))), (.val (.int IntKind.i64 (kki x0 x4 x5 x6))), (.val (.int IntKind.i64 (kkl x0 x2 x3 x4 x5 x6)))]⟩]), [(.row false 2 (CTy.int IntKind.i64) x6)], [], [(kmc x6)]⟩
  | _, _ => none

def k10y : PF Tryz.prog := PF.ofG Tryz.prog [kxx, k12o, k136] [] hmix 246 Tryz.f246 Tryz.func246 (fun c _ => LOk.nil c) k13f (by
  intro vs es r h; unfold k13f at h; split at h
  · cases h; kernel_rfl
  · cases h)

end Go.SX

namespace Go.SX
open Go.Proofs
set_option maxRecDepth 100000

/-- So many bits. -/
def bitsB (n : Int) (l : List Int) : Bool := l.all (fun v => inR v 0 1) && ((l.length : Int) == n)
/-- How many values a term of a kind takes. -/
def takesK (k : Int) : Int := kkm k

theorem k9w {n : Int} {l : List Int} : bitsB n l = true ↔ (∀ v ∈ l, v = 0 ∨ v = 1) ∧ (l.length : Int) = n := by
  simp only [bitsB, Bool.and_eq_true, List.all_eq_true, krj, beq_iff_eq]
  constructor
  · rintro ⟨h1, h2⟩; exact ⟨fun v hv => by have := h1 v hv; omega, h2⟩
  · rintro ⟨h1, h2⟩; exact ⟨fun v hv => by have := h1 v hv; omega, h2⟩

def kgd  (b : Int) : (Unit) → Nat ⊕ (Unit)
  | _ => (bif ((!k1o (b) (0 : Int) (1 : Int))) then (.inl 0) else (.inr ()))

def kd0 (y1 : List Int) (i : Nat) : (Unit) → k9g
  | _ => ((i : Int), y1)

def kpn : k9g → Unit
  | (_, _) => ()

theorem k127 (y1 : List Int)  (hn : y1.length ≤ 9223372036854775807)  :
    k3v.fin ((0 : Int), y1) = true ∧ k3v.res ((0 : Int), y1) = ((walkL (kgd) 1 y1 0 ()).1, (kd0 y1) (walkL (kgd) 1 y1 0 ()).2.1 (walkL (kgd) 1 y1 0 ()).2.2) := by
  have key := k3v.along (kd0 y1) kpn (kgd) 1 (fun _ _ => True) y1 () (by trivial) (by simp only [k3v, kd0]; omega) (fun i b a hb hI => ?_) (fun a hI => ?_)
  · exact key
  · obtain ⟨⟩ := a
    have hlt := (List.getElem?_eq_some_iff.1 hb).1
    have hget : ∀ d, Option.getD y1[i]? d = b := fun d => by rw [hb]; rfl
    have hw := wrap64 hlt hn
    have hdec : ltI (i : Int) (y1.length : Int) = true := ltI_t (by omega)
    have hnn : leI (0 : Int) (i : Int) = true := leI_t (by omega)
    have hltd : ltN i y1.length = true := ltN_t hlt
    refine ⟨?_, ?_, ?_, ?_⟩
    · simp [kg8, kji, kjs, kjn, kk1, khy, k3v, LT.nds, allT, kd0, hdec, hnn, hltd, hget]
    · simp [kg8, kji, kjs, kjn, kk1, khy, k3v, LT.each, kd0, kpn, hw]
    · simp only [kg8, kji, kjs, kjn, kk1, khy, k3v, LT.fn, kd0, kpn, kgd, Int.toNat_natCast, hdec, hnn, hltd, hget, cond_true, Bool.cond_self]
    · exact fun _ _ => trivial
  · obtain ⟨⟩ := a
    simp [kg8, kji, kjs, kjn, kk1, khy, k3v, LT.out, kd0]

def k2j  (b : Int) : (Unit) → Nat ⊕ (Unit)
  | _ => (bif ((kgg (b))) then (.inl 0) else (.inr ()))

def k1u (y2 : List Int) (i : Nat) : (Unit) → k1i
  | _ => ((i : Int), (↑(List.length y2) : Int), y2)

def k8q : k1i → Unit
  | (_, _, _) => ()

theorem kls (y2 : List Int)  (hn : y2.length ≤ 9223372036854775807)  :
    ko.fin ((0 : Int), (↑(List.length y2) : Int), y2) = true ∧ ko.res ((0 : Int), (↑(List.length y2) : Int), y2) = ((walkL (k2j) 1 y2 0 ()).1, (k1u y2) (walkL (k2j) 1 y2 0 ()).2.1 (walkL (k2j) 1 y2 0 ()).2.2) := by
  have key := ko.along (k1u y2) k8q (k2j) 1 (fun _ _ => True) y2 () (by trivial) (by simp only [ko, k1u]; omega) (fun i b a hb hI => ?_) (fun a hI => ?_)
  · exact key
  · obtain ⟨⟩ := a
    have hlt := (List.getElem?_eq_some_iff.1 hb).1
    have hget : ∀ d, Option.getD y2[i]? d = b := fun d => by rw [hb]; rfl
    have hw := wrap64 hlt hn
    have hdec : ltI (i : Int) (y2.length : Int) = true := ltI_t (by omega)
    have hnn : leI (0 : Int) (i : Int) = true := leI_t (by omega)
    have hltd : ltN i y2.length = true := ltN_t hlt
    refine ⟨?_, ?_, ?_, ?_⟩
    · simp [k3o, k3k, k3j, k3l, k3i, k3n, k3e, ko, LT.nds, allT, k1u, hdec, hnn, hltd, hget]
    · simp [k3o, k3k, k3j, k3l, k3i, k3n, k3e, ko, LT.each, k1u, k8q, hw]
    · simp only [k3o, k3k, k3j, k3l, k3i, k3n, k3e, ko, LT.fn, k1u, k8q, k2j, Int.toNat_natCast, hdec, hnn, hltd, hget, cond_true, Bool.cond_self]
    · exact fun _ _ => trivial
  · obtain ⟨⟩ := a
    simp [k3o, k3k, k3j, k3l, k3i, k3n, k3e, ko, LT.out, k1u]

theorem k152 (n : Int) (l : List Int) (h : leN l.length 9223372036854775807 = true) : ktx n l = bitsB n l ∧ kty l = true := by
  obtain ⟨w1, w2⟩ := k127 l (leN_iff.1 h)
  rw [walk_stop (P := fun v => !inR v 0 1) (j := 0) (fun v => by simp only [kgd, k1o, inR_eq])] at w2
  have e5 : (l.any fun v => !inR v 0 1) = !l.all fun v => inR v 0 1 := by simp [List.all_eq_not_any_not]
  rw [e5] at w2
  simp only [ktx, kty, w1, w2, allT, bitsB]
  cases (l.all fun v => inR v 0 1) <;> simp [Nat.beq]

theorem bit_in (v : Int) : (bif v != 0 then v != 1 else false) = !inR v 0 1 := by
  have : inR v 0 1 = (v == 0 || v == 1) := by rw [Bool.eq_iff_iff, krj]; simp; omega
  rw [this]
  cases h0 : v == 0 <;> simp [bne, h0]

theorem k14v (n : Int) (l : List Int) (h : leN l.length 9223372036854775807 = true) : kue n l = bitsB n l ∧ kug n l = true := by
  obtain ⟨w1, w2⟩ := kls l (leN_iff.1 h)
  rw [walk_stop (P := fun v => !inR v 0 1) (j := 0) (fun v => by simp only [k2j, kgg, bit_in])] at w2
  have e5 : (l.any fun v => !inR v 0 1) = !l.all fun v => inR v 0 1 := by simp [List.all_eq_not_any_not]
  rw [e5] at w2
  have q : ∀ m : Nat, leI 0 (m : Int) = true := fun m => leI_t (by omega)
  have q2 : leI 0 (-1) = false := rfl
  simp only [kue, kug, k8z, k9b, kay, kas, k6j, w1, w2, allT, bitsB, k1u]
  cases (l.all fun v => inR v 0 1) <;> cases ((l.length : Int) == n) <;> simp [Nat.beq, q, q2]

theorem k13d (p q : Int) : ifLt p q p q = min p q := by rw [ifLt_eq]; cases h : ltI p q <;> simp <;> simp at h <;> omega
theorem k13g (p q : Int) : ifLt p q q p = max p q := by rw [ifLt_eq]; cases h : ltI p q <;> simp <;> simp at h <;> omega

theorem k10d {l : List Int} (h : bitsB 1 l = true) : ∃ x, l = [x] ∧ (x = 0 ∨ x = 1) := by
  obtain ⟨h1, h2⟩ := k9w.1 h
  match l, h1, h2 with
  | [x], h1, _ => exact ⟨x, rfl, h1 x (by simp)⟩
  | [], _, h2 => simp at h2
  | _ :: _ :: _, _, h2 => simp at h2; omega

theorem k10o {l : List Int} (h : bitsB 2 l = true) : ∃ x y, l = [x, y] ∧ (x = 0 ∨ x = 1) ∧ (y = 0 ∨ y = 1) := by
  obtain ⟨h1, h2⟩ := k9w.1 h
  match l, h1, h2 with
  | [x, y], h1, _ => exact ⟨x, y, rfl, h1 x (by simp), h1 y (by simp)⟩
  | [], _, h2 => simp at h2
  | [_], _, h2 => simp at h2
  | _ :: _ :: _ :: _, _, h2 => simp at h2; omega

/-- The program's step and the reference's. -/
theorem k15k {k n a b c : Int} {s : ByteArray} {l : List Int} (hB : blockB k s n = true) (hP : possB k n a b c = true) (hA : bitsB (takesK k) l = true) :
    km9 k n a b c l = k40 k n a b c l ∧ kkj k n a b c l = k5n k n a b c l ∧
    kki k b c l = k5u k b c l ∧ kkl k n a b c l = k5w k n a c l ∧ kmc l = true ∧ k7q l = true ∧
    possB k n (k5n k n a b c l) (k5u k b c l) (k5w k n a c l) = true := by
  obtain ⟨hk, hn, _⟩ := kzl hB
  have hw : IntKind.i64.wrap (n + 1) = n + 1 := wrap_i64 (by omega) (by omega)
  have hwa := (k12s hP hn).1
  have hwa1 : IntKind.i64.wrap (a + 1) = a + 1 := wrap_i64 (by omega) (by omega)
  have hwa2 : IntKind.i64.wrap (a - 1) = a - 1 := wrap_i64 (by omega) (by omega)
  have hm : IntKind.i64.wrap (min (a + 1) n) = min (a + 1) n := wrap_i64 (by omega) (by omega)
  have hm2 : IntKind.i64.wrap (min n (a + 1)) = min n (a + 1) := wrap_i64 (by omega) (by omega)
  have h01 : IntKind.i64.wrap (0 + 1) = 1 := rfl
  have n0 : IntKind.i64.wrap 0 = 0 := rfl
  have w1 : IntKind.i64.wrap 1 = 1 := rfl
  have l12 : ltI 1 2 = true := rfl
  have hb := (k12s hP hn).2.1
  have hc := (k12s hP hn).2.2
  rcases kinds hk with rfl | rfl | rfl | rfl | rfl | rfl
  · obtain ⟨x, rfl, hx⟩ := k10d hA
    have hp := hP
    simp [possB, k2i, k1o] at hp
    rcases hx with rfl | rfl <;> simp only [k43, klu, klo, khm, ka4, klj, kli, km9, kkj, kki, kkl, kmc, kcg, kc8, kce, kd6, kdh, kdk, kdj, k5o, kau, kc2, kdb, kdf, ker, kem, ken, kel, ka3, k23, k5j, k6x, k42, k72, k6z, k6v, k6w, k65, k40, k5n, k5u, k5w, k7q, k4p, k5k, k64, k74, k75, k8o, k8l, k8m, k8n, k5x, possB, k2i, k1o, allT, k13d, k13g] <;> simp [hw, hwa1, hwa2, hm, hm2, h01, n0, w1, l12, hp, Bool.cond_eq_ite] <;> (repeat' split) <;> omega
  · obtain ⟨x, rfl, hx⟩ := k10d hA
    have hp := hP
    simp [possB, k2i, k1o] at hp
    rcases hx with rfl | rfl <;> simp only [k43, klu, klo, khm, ka4, klj, kli, km9, kkj, kki, kkl, kmc, kcg, kc8, kce, kd6, kdh, kdk, kdj, k5o, kau, kc2, kdb, kdf, ker, kem, ken, kel, ka3, k23, k5j, k6x, k42, k72, k6z, k6v, k6w, k65, k40, k5n, k5u, k5w, k7q, k4p, k5k, k64, k74, k75, k8o, k8l, k8m, k8n, k5x, possB, k2i, k1o, allT, k13d, k13g] <;> simp [hw, hwa1, hwa2, hm, hm2, h01, n0, w1, l12, hp, Bool.cond_eq_ite] <;> (repeat' split) <;> omega
  · obtain ⟨x, rfl, hx⟩ := k10d hA
    have hp := hP
    simp [possB, k2i, k1o] at hp
    rcases hx with rfl | rfl <;> simp only [k43, klu, klo, khm, ka4, klj, kli, km9, kkj, kki, kkl, kmc, kcg, kc8, kce, kd6, kdh, kdk, kdj, k5o, kau, kc2, kdb, kdf, ker, kem, ken, kel, ka3, k23, k5j, k6x, k42, k72, k6z, k6v, k6w, k65, k40, k5n, k5u, k5w, k7q, k4p, k5k, k64, k74, k75, k8o, k8l, k8m, k8n, k5x, possB, k2i, k1o, allT, k13d, k13g] <;> simp [hw, hwa1, hwa2, hm, hm2, h01, n0, w1, l12, hp, Bool.cond_eq_ite] <;> (repeat' split) <;> omega
  · obtain ⟨x, y, rfl, hx, hy⟩ := k10o hA
    have hp := hP
    simp [possB, k2i, k1o] at hp
    rcases hx with rfl | rfl <;> rcases hy with rfl | rfl <;> simp only [k43, klu, klo, khm, ka4, klj, kli, km9, kkj, kki, kkl, kmc, kcg, kc8, kce, kd6, kdh, kdk, kdj, k5o, kau, kc2, kdb, kdf, ker, kem, ken, kel, ka3, k23, k5j, k6x, k42, k72, k6z, k6v, k6w, k65, k40, k5n, k5u, k5w, k7q, k4p, k5k, k64, k74, k75, k8o, k8l, k8m, k8n, k5x, possB, k2i, k1o, allT, k13d, k13g] <;> simp [hw, hwa1, hwa2, hm, hm2, h01, n0, w1, l12, hp, Bool.cond_eq_ite] <;> (repeat' split) <;> omega
  · obtain ⟨x, y, rfl, hx, hy⟩ := k10o hA
    have hp := hP
    rcases hb with rfl | rfl <;> rcases hc with rfl | rfl <;> rcases hx with rfl | rfl <;> rcases hy with rfl | rfl <;> simp [possB, k2i, k1o, hw] at hp <;> simp only [k43, klu, klo, khm, ka4, klj, kli, km9, kkj, kki, kkl, kmc, kcg, kc8, kce, kd6, kdh, kdk, kdj, k5o, kau, kc2, kdb, kdf, ker, kem, ken, kel, ka3, k23, k5j, k6x, k42, k72, k6z, k6v, k6w, k65, k40, k5n, k5u, k5w, k7q, k4p, k5k, k64, k74, k75, k8o, k8l, k8m, k8n, k5x, possB, k2i, k1o, allT, k13d, k13g] <;> simp [hw, hwa1, hwa2, hm, hm2, h01, n0, w1, l12, hp, Bool.cond_eq_ite] <;> (repeat' split) <;> omega
  · obtain ⟨x, y, rfl, hx, hy⟩ := k10o hA
    have hp := hP
    rcases hb with rfl | rfl <;> rcases hc with rfl | rfl <;> rcases hx with rfl | rfl <;> rcases hy with rfl | rfl <;> simp [possB, k2i, k1o, hw] at hp <;> simp only [k43, klu, klo, khm, ka4, klj, kli, km9, kkj, kki, kkl, kmc, kcg, kc8, kce, kd6, kdh, kdk, kdj, k5o, kau, kc2, kdb, kdf, ker, kem, ken, kel, ka3, k23, k5j, k6x, k42, k72, k6z, k6v, k6w, k65, k40, k5n, k5u, k5w, k7q, k4p, k5k, k64, k74, k75, k8o, k8l, k8m, k8n, k5x, possB, k2i, k1o, allT, k13d, k13g] <;> simp [hw, hwa1, hwa2, hm, hm2, h01, n0, w1, l12, hp, Bool.cond_eq_ite] <;> (repeat' split) <;> omega

def kz2 : List SV → List Entry → Option Out
  | [.one ⟨false, [.ref 0]⟩, .one ⟨false, [.val (.int .i64 x0)]⟩], [.row false 2 (.int .i64) x1] => some ⟨(.one ⟨false, [(.val (.bool (bitsB x0 x1)))]⟩), [(.row false 2 (CTy.int IntKind.i64) x1)], [], [leN x1.length 9223372036854775807]⟩
  | _, _ => none

def keh : PF Tryz.prog := PF.alt k13w kz2 (by
  intro args es o h hnd; unfold kz2 at h; split at h
  · rename_i x0 x1
    cases h
    have hnd := nd_fst hnd
    have hh := k152 x0 x1 hnd
    obtain ⟨e0, en⟩ := hh
    exact altok rfl (nd_one en) (by simp only [e0] <;> rfl) rfl rfl
  · cases h)

def k108 : List SV → List Entry → Option Out
  | [.one ⟨false, [.ref 0]⟩, .one ⟨false, [.val (.int .i64 x0)]⟩], [.row false 2 (.int .i64) x1] => some ⟨(.one ⟨false, [(.val (.bool (bitsB x0 x1)))]⟩), [(.row false 2 (CTy.int IntKind.i64) x1)], [], [leN x1.length 9223372036854775807]⟩
  | _, _ => none

def kej : PF Tryz.prog := PF.alt k13p k108 (by
  intro args es o h hnd; unfold k108 at h; split at h
  · rename_i x0 x1
    cases h
    have hnd := nd_fst hnd
    have hh := k14v x0 x1 hnd
    obtain ⟨e0, en⟩ := hh
    exact altok rfl (nd_one en) (by simp only [e0] <;> rfl) rfl rfl
  · cases h)

end Go.SX

namespace Go.SX
open Go.Proofs
set_option maxRecDepth 100000

def ssOk (m : Nat) (rs : List (List Int)) : Bool := leN rs.length m && rs.all fun x => leN x.length m

theorem ss_iff {m : Nat} {rs : List (List Int)} : ssOk m rs = true ↔ rs.length ≤ m ∧ ∀ x ∈ rs, x.length ≤ m := by
  simp only [ssOk, Bool.and_eq_true, leN_iff, List.all_eq_true]

end Go.SX

namespace Go.SX
open Go.Proofs
set_option maxRecDepth 100000

abbrev k9e := Int × Int × List (Int × (ByteArray × Int))

def keu (y0 : Int) (y1 : Int) (y2 : List (Int × (ByteArray × Int))) : Int :=
  kdl (Prod.fst (Prod.snd (Option.getD y2[Int.toNat y0]? ((0 : Int), ByteArray.empty, (0 : Int))))) y1

def kge (y0 : Int) (y2 : List (Int × (ByteArray × Int))) : Bool :=
  ltI y0 (↑(List.length y2) : Int)

def kk4 (y0 : Int) : Bool :=
  leI (0 : Int) y0

def kje (y0 : Int) (y2 : List (Int × (ByteArray × Int))) : Bool :=
  ltN (Int.toNat y0) (List.length y2)

def kjk (y0 : Int) (y1 : Int) (y2 : List (Int × (ByteArray × Int))) : Bool :=
  ltI (keu y0 y1 y2) (0 : Int)

def ke2  : Int :=
  (-1 : Int)

def kjm (y0 : Int) : Int :=
  IntKind.wrap IntKind.i64 (y0 + (1 : Int))

def kk2 (y0 : Int) (y1 : Int) (y2 : List (Int × (ByteArray × Int))) : Int :=
  keu y0 y1 y2

def k10j : k9e → List (Nat × SV)
  | (y0, y1, _) => [(5, (.one ⟨false, [(.val (.int IntKind.i64 y0))]⟩)), (0, (.one ⟨false, [(.ref 0)]⟩)), (1, (.one ⟨false, [(.val (.int IntKind.i64 y1))]⟩))]

def k10e : k9e → List (Nat × Entry)
  | (_, _, y2) => [(0, (.row false 175 (CTy.pair (CTy.int IntKind.i64) (CTy.pair CTy.str (CTy.int IntKind.i64))) y2))]

def k10c : Nat → k9e → List (Nat × SV)
  | 0, (_, _, _) => [(4, (.one ⟨false, [(.val (.int IntKind.i64 (ke2)))]⟩))]
  | _, (_, y1, _) => [(1, (.one ⟨false, [(.val (.int IntKind.i64 y1))]⟩))]

def k10h : Nat → k9e → List (Nat × Entry)
  | 0, (_, _, y2) => [(0, (.row false 175 (CTy.pair (CTy.int IntKind.i64) (CTy.pair CTy.str (CTy.int IntKind.i64))) y2))]
  | _, (_, _, y2) => [(0, (.row false 175 (CTy.pair (CTy.int IntKind.i64) (CTy.pair CTy.str (CTy.int IntKind.i64))) y2))]

def kim : k9e → LT k9e
  | (y0, y1, y2) => .ite (kge y0 y2) (.need [(kk4 y0), (kge y0 y2), (kje y0 y2)] (.ite (kjk y0 y1 y2) (.ext 0 [(0, 0)]) (.nrm ((kjm y0), (kk2 y0 y1 y2), y2) [(0, 0)]))) (.ext 1 [(0, 0)])

def kpg (s : St) : Option k9e :=
  (match s.look 5 with
  | some ⟨none, (.one ⟨false, [(.val (.int IntKind.i64 y0))]⟩)⟩ =>
  (match s.look 0 with
  | some ⟨none, (.one ⟨false, [(.ref 0)]⟩)⟩ =>
  (match s.look 1 with
  | some ⟨none, (.one ⟨false, [(.val (.int IntKind.i64 y1))]⟩)⟩ =>
  (match s.ent 0 with
  | some (.row false 175 (CTy.pair (CTy.int IntKind.i64) (CTy.pair CTy.str (CTy.int IntKind.i64))) y2) =>
  some (y0, y1, y2)
  | _ => none)
  | _ => none)
  | _ => none)
  | _ => none)

def k39 : Lp k9e where
  h := ⟨[12, 13, 14, 15, 18, 19, 20, 21, 22, 23, 1, 24, 25, 4, 16, 17, 5], [0], [], []⟩
  JL := k10j
  JE := k10e
  XL := k10c
  XE := k10h
  q := fun j => match j with | 0 => .ret | _ => .exit 0
  tags := [0, 1]
  lt := kim
  fuel := fun (y0, y1, y2) => y0.natAbs + y1.natAbs + y2.length
  fix := fun (_, _, y2) (y0, y1, _) => (y0, y1, y2)
  σ := [(0, 0)]
  rd := kpg

theorem kyd : LoopOk Tryz.prog (fun k => Nat.blt k Tryz.f84.ntmps) k39.F (loopAt Tryz.f84 0) := by
  refine Lp.ok (tbl := [k11g]) (lf := []) hmix k39 (by kernel_rfl) (LOk.nil _) (fun _ => rfl) (fun j _ => by unfold k39; match j with | 0 => rfl | _ + 1 => rfl) ?_ ?_ ?_ ?_ (fun _ => rfl) ?_
  · intro x; obtain ⟨y0, y1, y2⟩ := x; kernel_rfl
  · intro x; obtain ⟨y0, y1, y2⟩ := x; kernel_rfl
  · intro s x h
    have h : kpg s = some x := h
    unfold kpg at h
    repeat' split at h
    all_goals cases h
    exact ⟨absS_cons (by assumption) rfl (absS_cons (by assumption) rfl (absS_cons (by assumption) rfl (rfl))), absE_cons rfl (by assumption) rfl (rfl)⟩
  · intro x; obtain ⟨y0, y1, y2⟩ := x; kernel_rfl
  · intro x z; obtain ⟨y0, y1, y2⟩ := x; exact (And.intro (And.intro trivial rfl) trivial)

def kq5 (x0 : Int) (x1 : List (Int × ByteArray × Int)) : Int :=
  IntKind.wrap IntKind.i64 (x0 - (↑(List.length x1) : Int))

def kq8 (x0 : Int) (x1 : List (Int × ByteArray × Int)) : Int × Int × List (Int × ByteArray × Int) :=
  ((0 : Int), kq5 x0 x1, x1)

def ktu (x0 : Int) (x1 : List (Int × ByteArray × Int)) : Int :=
  bif ltI (kq5 x0 x1) (0 : Int) then (-1 : Int)
  else
  bif Nat.beq (Prod.fst (Lp.res k39 (kq8 x0 x1))) (0 : Nat) then ke2
  else Prod.fst (Prod.snd (Prod.snd (Lp.res k39 (kq8 x0 x1))))

def kud (x0 : Int) (x1 : List (Int × ByteArray × Int)) : Bool :=
  allT [ltI (kq5 x0 x1) (0 : Int) || Lp.fin k39 (kq8 x0 x1)]

def kyz : List SV → List Entry → Option Out
  | [.one ⟨false, [.ref 0]⟩, .one ⟨false, [.val (.int .i64 x0)]⟩], [.row false 175 (.pair (.int .i64) (.pair (.str) (.int .i64))) x1] => some ⟨(.one ⟨false, [(.val (.int IntKind.i64 (ktu x0 x1)))]⟩), [(.row false 175 (CTy.pair (CTy.int IntKind.i64) (CTy.pair CTy.str (CTy.int IntKind.i64))) x1)], [], [(kud x0 x1)]⟩
  | _, _ => none

def k13l : PF Tryz.prog := PF.ofG Tryz.prog [k11g] [k39.F] hmix 84 Tryz.f84 Tryz.func84 (LOk.fnT (l := [loopAt Tryz.f84 0]) (by kernel_rfl) (.cons kyd (.nil _))) kyz (by
  intro vs es r h; unfold kyz at h; split at h
  · cases h; kernel_rfl
  · cases h)

def kln (x0 : Int) (x1 : List (Int × Int)) : Int :=
  IntKind.wrap IntKind.i64 (x0 - (↑(List.length x1) : Int))

def kn7 (x0 : Int) (x1 : List (Int × Int)) : Int :=
  bif ltI (kln x0 x1) (0 : Int) then (-1 : Int) else kln x0 x1

def kqw : List SV → List Entry → Option Out
  | [.one ⟨false, [.ref 0]⟩, .one ⟨false, [.val (.int .i64 x0)]⟩], [.row false 183 (.pair (.int .i64) (.int .i64)) x1] => some ⟨(.one ⟨false, [(.val (.int IntKind.i64 (kn7 x0 x1)))]⟩), [(.row false 183 (CTy.pair (CTy.int IntKind.i64) (CTy.int IntKind.i64)) x1)], [], []⟩
  | _, _ => none

def kx0 : PF Tryz.prog := PF.ofG Tryz.prog [] [] hmix 85 Tryz.f85 Tryz.func85 (fun c _ => LOk.nil c) kqw (by
  intro vs es r h; unfold kqw at h; split at h
  · cases h; kernel_rfl
  · cases h)

def k7x (x3 : Int) : Bool :=
  bif x3 == (1 : Int) then x3 == (1 : Int) else bif x3 == (2 : Int) then x3 == (2 : Int) else x3 == (3 : Int)

def k7t (x3 : Int) : Bool :=
  bif x3 == (5 : Int) then x3 == (5 : Int) else x3 == (6 : Int)

def kbv (x3 : Int) : Bool :=
  bif x3 == (8 : Int) then x3 == (8 : Int) else x3 == (9 : Int)

def k3g (x3 : Int) (x4 : Int) (x5 : List (Int × ByteArray × Int)) : Int :=
  bif k7x x3 then (0 : Int)
  else
  bif x3 == (4 : Int) then (1 : Int)
  else
    bif k7t x3 then (2 : Int)
    else
      bif x3 == (7 : Int) then kkm (Prod.fst (Option.getD x5[Int.toNat x4]? ((0 : Int), ByteArray.empty, (0 : Int))))
      else bif kbv x3 then (1 : Int) else (0 : Int)

def k60 (x3 : Int) : Int :=
  bif k7x x3 then (1 : Int)
  else
  bif x3 == (4 : Int) then (1 : Int)
  else bif k7t x3 then (1 : Int) else bif x3 == (7 : Int) then (1 : Int) else bif kbv x3 then (0 : Int) else (0 : Int)

def kes (x3 : Int) (x4 : Int) (x5 : List (Int × ByteArray × Int)) : Bool :=
  allT
  [k7x x3 || (x3 == (4 : Int) || (k7t x3 || (!x3 == (7 : Int) || leI (0 : Int) x4))),
    k7x x3 || (x3 == (4 : Int) || (k7t x3 || (!x3 == (7 : Int) || ltI x4 (↑(List.length x5) : Int)))),
    k7x x3 || (x3 == (4 : Int) || (k7t x3 || (!x3 == (7 : Int) || ltN (Int.toNat x4) (List.length x5))))]

def kx9 : List SV → List Entry → Option Out
  | [.one ⟨true, [.val (.int .i64 _x0), .val (.int .i64 _x1), .val (.int .i64 _x2), .ref 0, .ref 1]⟩, .one ⟨true, [.val (.int .i64 x3), .val (.int .i64 x4)]⟩], [.row false 178 (.pair (.int .i64) (.pair (.str) (.int .i64))) x5, .row false 150 (.pair (.int .i64) (.int .i64)) x6] => some ⟨(.tup [⟨false, [(.val (.int IntKind.i64 (k3g x3 x4 x5)))]⟩, ⟨false, [(.val (.int IntKind.i64 (k60 x3)))]⟩]), [(.row false 178 (CTy.pair (CTy.int IntKind.i64) (CTy.pair CTy.str (CTy.int IntKind.i64))) x5), (.row false 150 (CTy.pair (CTy.int IntKind.i64) (CTy.int IntKind.i64)) x6)], [], [(kes x3 x4 x5)]⟩
  | _, _ => none

def kd4 : PF Tryz.prog := PF.ofG Tryz.prog [k134] [] hmix 189 Tryz.f189 Tryz.func189 (fun c _ => LOk.nil c) kx9 (by
  intro vs es r h; unfold kx9 at h; split at h
  · cases h; kernel_rfl
  · cases h)

def kek (x0 : Int) (x1 : Int) (x2 : Int) (x3 : Int) (x4 : Int) (x5 : List (Int × ByteArray × Int)) : Bool :=
  bif x3 == (1 : Int) then k1o x4 (0 : Int) (1 : Int)
  else
  bif bif x3 == (2 : Int) then x3 == (2 : Int) else x3 == (10 : Int) then k1o x4 (0 : Int) (IntKind.wrap IntKind.i64 (x0 - (1 : Int)))
  else
    bif bif x3 == (3 : Int) then x3 == (3 : Int) else bif x3 == (8 : Int) then x3 == (8 : Int) else x3 == (11 : Int) then
      k1o x4 (0 : Int) (IntKind.wrap IntKind.i64 (x1 - (1 : Int)))
    else
      bif bif x3 == (4 : Int) then x3 == (4 : Int) else bif x3 == (5 : Int) then x3 == (5 : Int) else x3 == (6 : Int) then x4 == (0 : Int)
      else
        bif x3 == (7 : Int) then k1o x4 (0 : Int) (IntKind.wrap IntKind.i64 ((↑(List.length x5) : Int) - (1 : Int)))
        else bif x3 == (9 : Int) then k1o x4 (0 : Int) (IntKind.wrap IntKind.i64 (x2 - (1 : Int))) else false

def kyp : List SV → List Entry → Option Out
  | [.one ⟨true, [.val (.int .i64 x0), .val (.int .i64 x1), .val (.int .i64 x2), .ref 0, .ref 1]⟩, .one ⟨true, [.val (.int .i64 x3), .val (.int .i64 x4)]⟩], [.row false 178 (.pair (.int .i64) (.pair (.str) (.int .i64))) x5, .row false 150 (.pair (.int .i64) (.int .i64)) x6] => some ⟨(.one ⟨false, [(.val (.bool (kek x0 x1 x2 x3 x4 x5)))]⟩), [(.row false 178 (CTy.pair (CTy.int IntKind.i64) (CTy.pair CTy.str (CTy.int IntKind.i64))) x5), (.row false 150 (CTy.pair (CTy.int IntKind.i64) (CTy.int IntKind.i64)) x6)], [], []⟩
  | _, _ => none

def kma : PF Tryz.prog := PF.ofG Tryz.prog [kj5] [] hmix 213 Tryz.f213 Tryz.func213 (fun c _ => LOk.nil c) kyp (by
  intro vs es r h; unfold kyp at h; split at h
  · cases h; kernel_rfl
  · cases h)

abbrev k62 := Int × Int × Int × Int × Int × List Int × List (Int × (ByteArray × Int)) × List (Int × Int)

def k2r (y0 : Int) (y7 : List (Int × Int)) : Int × Int :=
  Option.getD y7[Int.toNat y0]? ((0 : Int), (0 : Int))

def ke3 (y0 : Int) (y6 : List (Int × (ByteArray × Int))) (y7 : List (Int × Int)) : Int :=
  k3g (Prod.fst (k2r y0 y7)) (Prod.snd (k2r y0 y7)) y6

def k8h (y0 : Int) (y1 : Int) (y6 : List (Int × (ByteArray × Int))) (y7 : List (Int × Int)) : Int :=
  IntKind.wrap IntKind.i64 (IntKind.wrap IntKind.i64 (y1 - ke3 y0 y6 y7) + k60 (Prod.fst (k2r y0 y7)))

def kb8 (y0 : Int) (y7 : List (Int × Int)) : Bool :=
  ltI y0 (↑(List.length y7) : Int)

def kfh (y0 : Int) : Bool :=
  leI (0 : Int) y0

def kfq (y0 : Int) (y7 : List (Int × Int)) : Bool :=
  ltN (Int.toNat y0) (List.length y7)

def kfd (y0 : Int) (y2 : Int) (y3 : Int) (y4 : Int) (y6 : List (Int × (ByteArray × Int))) (y7 : List (Int × Int)) : Bool :=
  !kek y2 y3 y4 (Prod.fst (k2r y0 y7)) (Prod.snd (k2r y0 y7)) y6

def kj4 (y0 : Int) (y6 : List (Int × (ByteArray × Int))) (y7 : List (Int × Int)) : Bool :=
  kes (Prod.fst (k2r y0 y7)) (Prod.snd (k2r y0 y7)) y6

def kj3 (y0 : Int) (y1 : Int) (y6 : List (Int × (ByteArray × Int))) (y7 : List (Int × Int)) : Bool :=
  bif ltI y1 (ke3 y0 y6 y7) then true else ltI (40 : Int) (k8h y0 y1 y6 y7)

def kj7 (y0 : Int) (y1 : Int) (y5 : List Int) (y6 : List (Int × (ByteArray × Int))) (y7 : List (Int × Int)) : Bool :=
  leN (List.length y5 + List.length [k8h y0 y1 y6 y7]) (9223372036854775807 : Nat)

def kj2 (y0 : Int) (y1 : Int) (y5 : List Int) (y6 : List (Int × (ByteArray × Int))) (y7 : List (Int × Int)) : Bool :=
  leN ((List.length y5 + List.length [k8h y0 y1 y6 y7]) * (8 : Nat)) (140737488355328 : Nat)

def kj1 (y0 : Int) : Int :=
  IntKind.wrap IntKind.i64 (y0 + (1 : Int))

def kja (y0 : Int) (y1 : Int) (y6 : List (Int × (ByteArray × Int))) (y7 : List (Int × Int)) : Int :=
  k8h y0 y1 y6 y7

def kht (y0 : Int) (y1 : Int) (y5 : List Int) (y6 : List (Int × (ByteArray × Int))) (y7 : List (Int × Int)) : List Int :=
  y5 ++ [k8h y0 y1 y6 y7]

def kx1 : k62 → List (Nat × SV)
  | (y0, y1, _, _, _, _, _, _) => [(6, (.one ⟨false, [(.val (.int IntKind.i64 y0))]⟩)), (1, (.one ⟨false, [(.ptr 0 0)]⟩)), (5, (.one ⟨false, [(.val (.int IntKind.i64 y1))]⟩)), (4, (.one ⟨false, [(.ref 1)]⟩))]

def kwp : k62 → List (Nat × Entry)
  | (_, _, y2, y3, y4, y5, y6, y7) => [(0, (.box 34 [(.val (.int IntKind.i64 y2)), (.val (.int IntKind.i64 y3)), (.val (.int IntKind.i64 y4)), (.ref 2), (.ref 3)])), (2, (.row false 178 (CTy.pair (CTy.int IntKind.i64) (CTy.pair CTy.str (CTy.int IntKind.i64))) y6)), (3, (.row false 150 (CTy.pair (CTy.int IntKind.i64) (CTy.int IntKind.i64)) y7)), (1, (.row true 2 (CTy.int IntKind.i64) y5))]

def kwm : Nat → k62 → List (Nat × SV)
  | 0, (_, _, _, _, _, _, _, _) => [(2, (.one ⟨false, [(.ref 4)]⟩)), (3, (.one ⟨false, [(.val (.bool false))]⟩))]
  | 1, (_, _, _, _, _, _, _, _) => [(2, (.one ⟨false, [(.ref 4)]⟩)), (3, (.one ⟨false, [(.val (.bool false))]⟩))]
  | _, (_, y1, _, _, _, _, _, _) => [(5, (.one ⟨false, [(.val (.int IntKind.i64 y1))]⟩)), (4, (.one ⟨false, [(.ref 1)]⟩))]

def kwg : Nat → k62 → List (Nat × Entry)
  | 0, (_, _, y2, y3, y4, y5, y6, y7) => [(0, (.box 34 [(.val (.int IntKind.i64 y2)), (.val (.int IntKind.i64 y3)), (.val (.int IntKind.i64 y4)), (.ref 2), (.ref 3)])), (1, (.row true 2 (CTy.int IntKind.i64) y5)), (2, (.row false 178 (CTy.pair (CTy.int IntKind.i64) (CTy.pair CTy.str (CTy.int IntKind.i64))) y6)), (3, (.row false 150 (CTy.pair (CTy.int IntKind.i64) (CTy.int IntKind.i64)) y7)), (4, (.row true 2 (CTy.int IntKind.i64) []))]
  | 1, (_, _, y2, y3, y4, y5, y6, y7) => [(0, (.box 34 [(.val (.int IntKind.i64 y2)), (.val (.int IntKind.i64 y3)), (.val (.int IntKind.i64 y4)), (.ref 2), (.ref 3)])), (1, (.row true 2 (CTy.int IntKind.i64) y5)), (2, (.row false 178 (CTy.pair (CTy.int IntKind.i64) (CTy.pair CTy.str (CTy.int IntKind.i64))) y6)), (3, (.row false 150 (CTy.pair (CTy.int IntKind.i64) (CTy.int IntKind.i64)) y7)), (4, (.row true 2 (CTy.int IntKind.i64) []))]
  | _, (_, _, y2, y3, y4, y5, y6, y7) => [(0, (.box 34 [(.val (.int IntKind.i64 y2)), (.val (.int IntKind.i64 y3)), (.val (.int IntKind.i64 y4)), (.ref 2), (.ref 3)])), (1, (.row true 2 (CTy.int IntKind.i64) y5)), (2, (.row false 178 (CTy.pair (CTy.int IntKind.i64) (CTy.pair CTy.str (CTy.int IntKind.i64))) y6)), (3, (.row false 150 (CTy.pair (CTy.int IntKind.i64) (CTy.int IntKind.i64)) y7))]

def ked : k62 → LT k62
  | (y0, y1, y2, y3, y4, y5, y6, y7) => .ite (kb8 y0 y7) (.need [(kfh y0), (kb8 y0 y7), (kfq y0 y7)] (.ite (kfd y0 y2 y3 y4 y6 y7) (.ext 0 [(0, 0), (1, 1), (2, 2), (3, 3), (4, 896)]) (.need [(kfh y0), (kb8 y0 y7), (kfq y0 y7), (kj4 y0 y6 y7)] (.ite (kj3 y0 y1 y6 y7) (.ext 1 [(0, 0), (1, 1), (2, 2), (3, 3), (4, 2368)]) (.need [(kj7 y0 y1 y5 y6 y7), (kj2 y0 y1 y5 y6 y7)] (.nrm ((kj1 y0), (kja y0 y1 y6 y7), y2, y3, y4, (kht y0 y1 y5 y6 y7), y6, y7) [(0, 0), (1, 2944), (2, 2), (3, 3)])))))) (.ext 2 [(0, 0), (1, 1), (2, 2), (3, 3)])

def kn9 (s : St) : Option k62 :=
  (match s.look 6 with
  | some ⟨none, (.one ⟨false, [(.val (.int IntKind.i64 y0))]⟩)⟩ =>
  (match s.look 1 with
  | some ⟨none, (.one ⟨false, [(.ptr 192 0)]⟩)⟩ =>
  (match s.look 5 with
  | some ⟨none, (.one ⟨false, [(.val (.int IntKind.i64 y1))]⟩)⟩ =>
  (match s.look 4 with
  | some ⟨none, (.one ⟨false, [(.ref 384)]⟩)⟩ =>
  (match s.ent 192 with
  | some (.box 34 [(.val (.int IntKind.i64 y2)), (.val (.int IntKind.i64 y3)), (.val (.int IntKind.i64 y4)), (.ref 0), (.ref 1)]) =>
  (match s.ent 0 with
  | some (.row false 178 (CTy.pair (CTy.int IntKind.i64) (CTy.pair CTy.str (CTy.int IntKind.i64))) y6) =>
  (match s.ent 1 with
  | some (.row false 150 (CTy.pair (CTy.int IntKind.i64) (CTy.int IntKind.i64)) y7) =>
  (match s.ent 384 with
  | some (.row true 2 (CTy.int IntKind.i64) y5) =>
  some (y0, y1, y2, y3, y4, y5, y6, y7)
  | _ => none)
  | _ => none)
  | _ => none)
  | _ => none)
  | _ => none)
  | _ => none)
  | _ => none)
  | _ => none)

def k26 : Lp k62 where
  h := ⟨[10, 11, 12, 13, 14, 17, 18, 19, 20, 21, 22, 23, 24, 2, 3, 26, 27, 28, 29, 30, 31, 32, 25, 33, 34, 7, 8, 35, 36, 37, 38, 39, 40, 41, 42, 43, 44, 45, 46, 47, 48, 49, 50, 5, 51, 52, 53, 54, 4, 15, 16, 6], [0, 2, 3], [1], [4]⟩
  JL := kx1
  JE := kwp
  XL := kwm
  XE := kwg
  q := fun j => match j with | 0 => .ret | 1 => .ret | _ => .exit 0
  tags := [0, 1, 2]
  lt := ked
  fuel := fun (y0, y1, y2, y3, y4, y5, y6, y7) => y0.natAbs + y1.natAbs + y2.natAbs + y3.natAbs + y4.natAbs + y5.length + y6.length + y7.length
  fix := fun (_, _, y2, y3, y4, _, y6, y7) (y0, y1, _, _, _, y5, _, _) => (y0, y1, y2, y3, y4, y5, y6, y7)
  σ := [(0, 192), (2, 0), (3, 1), (1, 384)]
  rd := kn9

theorem kv0 : LoopOk Tryz.prog (fun k => Nat.blt k Tryz.f155.ntmps) k26.F (loopAt Tryz.f155 0) := by
  refine Lp.ok (tbl := [kd4, PF.lend kd4, PF.fz kd4, kma, PF.lend kma, PF.fz kma]) (lf := []) hmix k26 (by kernel_rfl) (LOk.nil _) (fun _ => rfl) (fun j _ => by unfold k26; match j with | 0 => rfl | 1 => rfl | _ + 2 => rfl) ?_ ?_ ?_ ?_ (fun _ => rfl) ?_
  · intro x; obtain ⟨y0, y1, y2, y3, y4, y5, y6, y7⟩ := x; kernel_rfl
  · intro x; obtain ⟨y0, y1, y2, y3, y4, y5, y6, y7⟩ := x; kernel_rfl
  · intro s x h
    have h : kn9 s = some x := h
    unfold kn9 at h
    repeat' split at h
    all_goals cases h
    exact ⟨absS_cons (by assumption) rfl (absS_cons (by assumption) rfl (absS_cons (by assumption) rfl (absS_cons (by assumption) rfl (rfl)))), absE_cons rfl (by assumption) rfl (absE_cons rfl (by assumption) rfl (absE_cons rfl (by assumption) rfl (absE_cons rfl (by assumption) rfl (rfl))))⟩
  · intro x; obtain ⟨y0, y1, y2, y3, y4, y5, y6, y7⟩ := x; kernel_rfl
  · intro x z; obtain ⟨y0, y1, y2, y3, y4, y5, y6, y7⟩ := x; exact (And.intro (And.intro trivial (And.intro trivial rfl)) trivial)

def kij (x0 : Int) (x1 : Int) (x2 : Int) (x3 : List (Int × ByteArray × Int)) (x4 : List (Int × Int)) : Int × Int × Int × Int × Int × List Int × List (Int × ByteArray × Int) × List (Int × Int) :=
  ((0 : Int), (0 : Int), x0, x1, x2, [], x3, x4)

def kpj (x0 : Int) (x1 : Int) (x2 : Int) (x3 : List (Int × ByteArray × Int)) (x4 : List (Int × Int)) : Bool :=
  Nat.beq (Prod.fst (Lp.res k26 (kij x0 x1 x2 x3 x4))) (0 : Nat)

def kph (x0 : Int) (x1 : Int) (x2 : Int) (x3 : List (Int × ByteArray × Int)) (x4 : List (Int × Int)) : Bool :=
  Nat.beq (Prod.fst (Lp.res k26 (kij x0 x1 x2 x3 x4))) (1 : Nat)

def kpe (x0 : Int) (x1 : Int) (x2 : Int) (x3 : List (Int × ByteArray × Int)) (x4 : List (Int × Int)) : Int × Int × Int × Int × List Int × List (Int × ByteArray × Int) × List (Int × Int) :=
  Prod.snd (Prod.snd (Lp.res k26 (kij x0 x1 x2 x3 x4)))

def knr (x0 : Int) (x1 : Int) (x2 : Int) (x3 : List (Int × ByteArray × Int)) (x4 : List (Int × Int)) : Bool :=
  bif kpj x0 x1 x2 x3 x4 then false
  else bif kph x0 x1 x2 x3 x4 then false else Prod.fst (kpe x0 x1 x2 x3 x4) == (0 : Int)

def kqr (x0 : Int) (x1 : Int) (x2 : Int) (x3 : List (Int × ByteArray × Int)) (x4 : List (Int × Int)) : List Int :=
  bif kpj x0 x1 x2 x3 x4 then []
  else bif kph x0 x1 x2 x3 x4 then [] else Prod.fst (Prod.snd (Prod.snd (Prod.snd (Prod.snd (kpe x0 x1 x2 x3 x4)))))

def kno (x0 : Int) (x1 : Int) (x2 : Int) (x3 : List (Int × ByteArray × Int)) (x4 : List (Int × Int)) : Bool :=
  allT [Lp.fin k26 (kij x0 x1 x2 x3 x4)]

def kus : List SV → List Entry → Option Out
  | [.one ⟨true, [.val (.int .i64 x0), .val (.int .i64 x1), .val (.int .i64 x2), .ref 0, .ref 1]⟩], [.row false 178 (.pair (.int .i64) (.pair (.str) (.int .i64))) x3, .row false 150 (.pair (.int .i64) (.int .i64)) x4] => some ⟨(.tup [⟨false, [(.ref 2)]⟩, ⟨false, [(.val (.bool (knr x0 x1 x2 x3 x4)))]⟩]), [(.row false 178 (CTy.pair (CTy.int IntKind.i64) (CTy.pair CTy.str (CTy.int IntKind.i64))) x3), (.row false 150 (CTy.pair (CTy.int IntKind.i64) (CTy.int IntKind.i64)) x4)], [(.row true 2 (CTy.int IntKind.i64) (kqr x0 x1 x2 x3 x4))], [(kno x0 x1 x2 x3 x4)]⟩
  | _, _ => none

def kg7 : PF Tryz.prog := PF.ofG Tryz.prog [kd4, PF.lend kd4, PF.fz kd4, kma, PF.lend kma, PF.fz kma] [k26.F] hmix 155 Tryz.f155 Tryz.func155 (LOk.fnT (l := [loopAt Tryz.f155 0]) (by kernel_rfl) (.cons kv0 (.nil _))) kus (by
  intro vs es r h; unfold kus at h; split at h
  · cases h; kernel_rfl
  · cases h)

abbrev kaq := Int × Int × Int × Int × List (Int × (ByteArray × Int)) × List (Int × Int)

def k9f (y0 : Int) (y4 : List (Int × (ByteArray × Int))) : Int × ByteArray × Int :=
  Option.getD y4[Int.toNat y0]? ((0 : Int), ByteArray.empty, (0 : Int))

def kia (y0 : Int) (y4 : List (Int × (ByteArray × Int))) : Bool :=
  ltI y0 (↑(List.length y4) : Int)

def koy (y0 : Int) : Bool :=
  leI (0 : Int) y0

def kox (y0 : Int) (y4 : List (Int × (ByteArray × Int))) : Bool :=
  ltN (Int.toNat y0) (List.length y4)

def ko7 (y0 : Int) (y4 : List (Int × (ByteArray × Int))) : Bool :=
  leN (ByteArray.size (Prod.fst (Prod.snd (k9f y0 y4)))) (9223372036854775807 : Nat)

def klt (y0 : Int) (y4 : List (Int × (ByteArray × Int))) : Bool :=
  !blockB (Prod.fst (k9f y0 y4)) (Prod.fst (Prod.snd (k9f y0 y4))) (Prod.snd (Prod.snd (k9f y0 y4)))

def kou (y0 : Int) : Int :=
  IntKind.wrap IntKind.i64 (y0 + (1 : Int))

def k11u : kaq → List (Nat × SV)
  | (y0, _, _, _, _, _) => [(3, (.one ⟨false, [(.val (.int IntKind.i64 y0))]⟩)), (1, (.one ⟨false, [(.ptr 0 0)]⟩))]

def k125 : kaq → List (Nat × Entry)
  | (_, y1, y2, y3, y4, y5) => [(0, (.box 34 [(.val (.int IntKind.i64 y1)), (.val (.int IntKind.i64 y2)), (.val (.int IntKind.i64 y3)), (.ref 1), (.ref 2)])), (1, (.row false 178 (CTy.pair (CTy.int IntKind.i64) (CTy.pair CTy.str (CTy.int IntKind.i64))) y4)), (2, (.row false 150 (CTy.pair (CTy.int IntKind.i64) (CTy.int IntKind.i64)) y5))]

def k121 : Nat → kaq → List (Nat × SV)
  | 0, (_, _, _, _, _, _) => [(2, (.one ⟨false, [(.val (.bool false))]⟩))]
  | _, (_, _, _, _, _, _) => []

def k11w : Nat → kaq → List (Nat × Entry)
  | 0, (_, y1, y2, y3, y4, y5) => [(0, (.box 34 [(.val (.int IntKind.i64 y1)), (.val (.int IntKind.i64 y2)), (.val (.int IntKind.i64 y3)), (.ref 1), (.ref 2)])), (1, (.row false 178 (CTy.pair (CTy.int IntKind.i64) (CTy.pair CTy.str (CTy.int IntKind.i64))) y4)), (2, (.row false 150 (CTy.pair (CTy.int IntKind.i64) (CTy.int IntKind.i64)) y5))]
  | _, (_, y1, y2, y3, y4, y5) => [(0, (.box 34 [(.val (.int IntKind.i64 y1)), (.val (.int IntKind.i64 y2)), (.val (.int IntKind.i64 y3)), (.ref 1), (.ref 2)])), (1, (.row false 178 (CTy.pair (CTy.int IntKind.i64) (CTy.pair CTy.str (CTy.int IntKind.i64))) y4)), (2, (.row false 150 (CTy.pair (CTy.int IntKind.i64) (CTy.int IntKind.i64)) y5))]

def kk0 : kaq → LT kaq
  | (y0, y1, y2, y3, y4, y5) => .ite (kia y0 y4) (.need [(koy y0), (kia y0 y4), (kox y0 y4), (ko7 y0 y4)] (.ite (klt y0 y4) (.ext 0 [(0, 0), (1, 1), (2, 2)]) (.nrm ((kou y0), y1, y2, y3, y4, y5) [(0, 0), (1, 1), (2, 2)]))) (.ext 1 [(0, 0), (1, 1), (2, 2)])

def kqp (s : St) : Option kaq :=
  (match s.look 3 with
  | some ⟨none, (.one ⟨false, [(.val (.int IntKind.i64 y0))]⟩)⟩ =>
  (match s.look 1 with
  | some ⟨none, (.one ⟨false, [(.ptr 192 0)]⟩)⟩ =>
  (match s.ent 192 with
  | some (.box 34 [(.val (.int IntKind.i64 y1)), (.val (.int IntKind.i64 y2)), (.val (.int IntKind.i64 y3)), (.ref 0), (.ref 1)]) =>
  (match s.ent 0 with
  | some (.row false 178 (CTy.pair (CTy.int IntKind.i64) (CTy.pair CTy.str (CTy.int IntKind.i64))) y4) =>
  (match s.ent 1 with
  | some (.row false 150 (CTy.pair (CTy.int IntKind.i64) (CTy.int IntKind.i64)) y5) =>
  some (y0, y1, y2, y3, y4, y5)
  | _ => none)
  | _ => none)
  | _ => none)
  | _ => none)
  | _ => none)

def k51 : Lp kaq where
  h := ⟨[34, 35, 36, 37, 38, 41, 42, 43, 44, 45, 46, 47, 2, 39, 40, 3], [0, 1, 2], [], []⟩
  JL := k11u
  JE := k125
  XL := k121
  XE := k11w
  q := fun j => match j with | 0 => .ret | _ => .exit 0
  tags := [0, 1]
  lt := kk0
  fuel := fun (y0, y1, y2, y3, y4, y5) => y0.natAbs + y1.natAbs + y2.natAbs + y3.natAbs + y4.length + y5.length
  fix := fun (_, y1, y2, y3, y4, y5) (y0, _, _, _, _, _) => (y0, y1, y2, y3, y4, y5)
  σ := [(0, 192), (1, 0), (2, 1)]
  rd := kqp

theorem kze : LoopOk Tryz.prog (fun k => Nat.blt k Tryz.f87.ntmps) k51.F (loopAt Tryz.f87 0) := by
  refine Lp.ok (tbl := [kj5, kz8, kg7, PF.lend kg7, PF.fz kg7]) (lf := []) hmix k51 (by kernel_rfl) (LOk.nil _) (fun _ => rfl) (fun j _ => by unfold k51; match j with | 0 => rfl | _ + 1 => rfl) ?_ ?_ ?_ ?_ (fun _ => rfl) ?_
  · intro x; obtain ⟨y0, y1, y2, y3, y4, y5⟩ := x; kernel_rfl
  · intro x; obtain ⟨y0, y1, y2, y3, y4, y5⟩ := x; kernel_rfl
  · intro s x h
    have h : kqp s = some x := h
    unfold kqp at h
    repeat' split at h
    all_goals cases h
    exact ⟨absS_cons (by assumption) rfl (absS_cons (by assumption) rfl (rfl)), absE_cons rfl (by assumption) rfl (absE_cons rfl (by assumption) rfl (absE_cons rfl (by assumption) rfl (rfl)))⟩
  · intro x; obtain ⟨y0, y1, y2, y3, y4, y5⟩ := x; kernel_rfl
  · intro x z; obtain ⟨y0, y1, y2, y3, y4, y5⟩ := x; exact (And.intro (And.intro trivial rfl) trivial)

def kj0 (x0 : Int) (x1 : Int) (x2 : Int) (x3 : List (Int × ByteArray × Int)) (x4 : List (Int × Int)) : Bool :=
  bif
    bif
        bif bif !k1o x0 (0 : Int) (20 : Int) then true else !k1o x1 (0 : Int) (20 : Int) then true
        else !k1o x2 (0 : Int) (20 : Int) then
      true
    else ltI (2000 : Int) (↑(List.length x3) : Int) then
  true
  else ltI (2000 : Int) (↑(List.length x4) : Int)

def kuh (x0 : Int) (x1 : Int) (x2 : Int) (x3 : List (Int × ByteArray × Int)) (x4 : List (Int × Int)) : Int × Int × Int × Int × List (Int × ByteArray × Int) × List (Int × Int) :=
  ((0 : Int), x0, x1, x2, x3, x4)

def ktv (x0 : Int) (x1 : Int) (x2 : Int) (x3 : List (Int × ByteArray × Int)) (x4 : List (Int × Int)) : Bool :=
  Nat.beq (Prod.fst (Lp.res k51 (kuh x0 x1 x2 x3 x4))) (0 : Nat)

def kvk (x0 : Int) (x1 : Int) (x2 : Int) (x3 : List (Int × ByteArray × Int)) (x4 : List (Int × Int)) : Bool :=
  bif kj0 x0 x1 x2 x3 x4 then false else bif ktv x0 x1 x2 x3 x4 then false else knr x0 x1 x2 x3 x4

def kvo (x0 : Int) (x1 : Int) (x2 : Int) (x3 : List (Int × ByteArray × Int)) (x4 : List (Int × Int)) : Bool :=
  allT
  [kj0 x0 x1 x2 x3 x4 || Lp.fin k51 (kuh x0 x1 x2 x3 x4),
    kj0 x0 x1 x2 x3 x4 || (ktv x0 x1 x2 x3 x4 || kno x0 x1 x2 x3 x4)]

def k11m : List SV → List Entry → Option Out
  | [.one ⟨true, [.val (.int .i64 x0), .val (.int .i64 x1), .val (.int .i64 x2), .ref 0, .ref 1]⟩], [.row false 178 (.pair (.int .i64) (.pair (.str) (.int .i64))) x3, .row false 150 (.pair (.int .i64) (.int .i64)) x4] => some ⟨(.one ⟨false, [(.val (.bool (kvk x0 x1 x2 x3 x4)))]⟩), [(.row false 178 (CTy.pair (CTy.int IntKind.i64) (CTy.pair CTy.str (CTy.int IntKind.i64))) x3), (.row false 150 (CTy.pair (CTy.int IntKind.i64) (CTy.int IntKind.i64)) x4)], [], [(kvo x0 x1 x2 x3 x4)]⟩
  | _, _ => none

def k14d : PF Tryz.prog := PF.ofG Tryz.prog [kj5, kz8, kg7, PF.lend kg7, PF.fz kg7] [k51.F] hmix 87 Tryz.f87 Tryz.func87 (LOk.fnT (l := [loopAt Tryz.f87 0]) (by kernel_rfl) (.cons kze (.nil _))) k11m (by
  intro vs es r h; unfold k11m at h; split at h
  · cases h; kernel_rfl
  · cases h)

abbrev k9h := Int × List (Int × (ByteArray × Int)) × List (Int × (ByteArray × Int))

def kcn (y0 : Int) (y1 : List (Int × (ByteArray × Int))) : Int × ByteArray × Int :=
  Option.getD y1[Int.toNat y0]? ((0 : Int), ByteArray.empty, (0 : Int))

def kg6 (y0 : Int) (y1 : List (Int × (ByteArray × Int))) : Bool :=
  ltI y0 (↑(List.length y1) : Int)

def kga (y0 : Int) : Bool :=
  leI (0 : Int) y0

def kjr (y0 : Int) (y1 : List (Int × (ByteArray × Int))) : Bool :=
  ltN (Int.toNat y0) (List.length y1)

def kk3 (y0 : Int) (y2 : List (Int × (ByteArray × Int))) : Bool :=
  ltI y0 (↑(List.length y2) : Int)

def kk7 (y0 : Int) (y2 : List (Int × (ByteArray × Int))) : Bool :=
  ltN (Int.toNat y0) (List.length y2)

def kju (y0 : Int) : Int :=
  IntKind.wrap IntKind.i64 (y0 + (1 : Int))

def kjz (y0 : Int) (y1 : List (Int × (ByteArray × Int))) (y2 : List (Int × (ByteArray × Int))) : List (Int × (ByteArray × Int)) :=
  List.set y2 (Int.toNat y0)
  (Prod.fst (kcn y0 y1), Prod.fst (Prod.snd (kcn y0 y1)), Prod.snd (Prod.snd (kcn y0 y1)))

def k10v : k9h → List (Nat × SV)
  | (y0, _, _) => [(4, (.one ⟨false, [(.val (.int IntKind.i64 y0))]⟩)), (0, (.one ⟨false, [(.ref 0)]⟩)), (3, (.one ⟨false, [(.ref 1)]⟩))]

def k111 : k9h → List (Nat × Entry)
  | (_, y1, y2) => [(0, (.row false 175 (CTy.pair (CTy.int IntKind.i64) (CTy.pair CTy.str (CTy.int IntKind.i64))) y1)), (1, (.row true 178 (CTy.pair (CTy.int IntKind.i64) (CTy.pair CTy.str (CTy.int IntKind.i64))) y2))]

def k10t : Nat → k9h → List (Nat × SV)
  | _, (_, _, _) => []

def k112 : Nat → k9h → List (Nat × Entry)
  | _, (_, y1, y2) => [(0, (.row false 175 (CTy.pair (CTy.int IntKind.i64) (CTy.pair CTy.str (CTy.int IntKind.i64))) y1)), (1, (.row true 178 (CTy.pair (CTy.int IntKind.i64) (CTy.pair CTy.str (CTy.int IntKind.i64))) y2))]

def kip : k9h → LT k9h
  | (y0, y1, y2) => .ite (kg6 y0 y1) (.need [(kga y0), (kg6 y0 y1), (kjr y0 y1), (kga y0), (kk3 y0 y2), (kk7 y0 y2)] (.nrm ((kju y0), y1, (kjz y0 y1 y2)) [(0, 0), (1, 1)])) (.ext 0 [(0, 0), (1, 1)])

def kpc (s : St) : Option k9h :=
  (match s.look 4 with
  | some ⟨none, (.one ⟨false, [(.val (.int IntKind.i64 y0))]⟩)⟩ =>
  (match s.look 0 with
  | some ⟨none, (.one ⟨false, [(.ref 0)]⟩)⟩ =>
  (match s.look 3 with
  | some ⟨none, (.one ⟨false, [(.ref 320)]⟩)⟩ =>
  (match s.ent 0 with
  | some (.row false 175 (CTy.pair (CTy.int IntKind.i64) (CTy.pair CTy.str (CTy.int IntKind.i64))) y1) =>
  (match s.ent 320 with
  | some (.row true 178 (CTy.pair (CTy.int IntKind.i64) (CTy.pair CTy.str (CTy.int IntKind.i64))) y2) =>
  some (y0, y1, y2)
  | _ => none)
  | _ => none)
  | _ => none)
  | _ => none)
  | _ => none)

def k4w : Lp k9h where
  h := ⟨[8, 9, 10, 11, 14, 15, 16, 17, 18, 19, 20, 21, 12, 13, 4], [0, 1], [], []⟩
  JL := k10v
  JE := k111
  XL := k10t
  XE := k112
  q := fun j => match j with | _ => .exit 0
  tags := [0]
  lt := kip
  fuel := fun (y0, y1, y2) => y0.natAbs + y1.length + y2.length
  fix := fun (_, y1, _) (y0, _, y2) => (y0, y1, y2)
  σ := [(0, 0), (1, 320)]
  rd := kpc

theorem ky5 : LoopOk Tryz.prog (fun k => Nat.blt k Tryz.f90.ntmps) k4w.F (loopAt Tryz.f90 0) := by
  refine Lp.ok (tbl := [k11s]) (lf := []) hmix k4w (by kernel_rfl) (LOk.nil _) (fun _ => rfl) (fun _ _ => rfl) ?_ ?_ ?_ ?_ (fun _ => rfl) ?_
  · intro x; obtain ⟨y0, y1, y2⟩ := x; kernel_rfl
  · intro x; obtain ⟨y0, y1, y2⟩ := x; kernel_rfl
  · intro s x h
    have h : kpc s = some x := h
    unfold kpc at h
    repeat' split at h
    all_goals cases h
    exact ⟨absS_cons (by assumption) rfl (absS_cons (by assumption) rfl (absS_cons (by assumption) rfl (rfl))), absE_cons rfl (by assumption) rfl (absE_cons rfl (by assumption) rfl (rfl))⟩
  · intro x; obtain ⟨y0, y1, y2⟩ := x; kernel_rfl
  · intro x z; obtain ⟨y0, y1, y2⟩ := x; exact (And.intro rfl trivial)

def kqa (x0 : List (Int × ByteArray × Int)) : Int × List (Int × ByteArray × Int) × List (Int × ByteArray × Int) :=
  ((0 : Int), x0, List.replicate (Int.toNat (↑(List.length x0) : Int)) ((0 : Int), { data := #[] }, (0 : Int)))

def kra (x0 : List (Int × ByteArray × Int)) : List (Int × (ByteArray × Int)) :=
  Prod.snd (Prod.snd (Prod.snd (Lp.res k4w (kqa x0))))

def kr0 (x0 : List (Int × ByteArray × Int)) : Bool :=
  allT
  [leI (0 : Int) (↑(List.length x0) : Int), leI (↑(List.length x0) : Int) (↑(List.length x0) : Int),
    leI ((↑(32 : Nat) : Int) * (↑(List.length x0) : Int)) (281474976710656 : Int), leI (↑(List.length x0) : Int) (9223372036854775807 : Int),
    Lp.fin k4w (kqa x0)]

def k106 : List SV → List Entry → Option Out
  | [.one ⟨false, [.ref 0]⟩], [.row false 175 (.pair (.int .i64) (.pair (.str) (.int .i64))) x0] => some ⟨(.one ⟨false, [(.ref 1)]⟩), [(.row false 175 (CTy.pair (CTy.int IntKind.i64) (CTy.pair CTy.str (CTy.int IntKind.i64))) x0)], [(.row true 178 (CTy.pair (CTy.int IntKind.i64) (CTy.pair CTy.str (CTy.int IntKind.i64))) (kra x0))], [(kr0 x0)]⟩
  | _, _ => none

def k13z : PF Tryz.prog := PF.ofG Tryz.prog [k11s] [k4w.F] hmix 90 Tryz.f90 Tryz.func90 (LOk.fnT (l := [loopAt Tryz.f90 0]) (by kernel_rfl) (.cons ky5 (.nil _))) k106 (by
  intro vs es r h; unfold k106 at h; split at h
  · cases h; kernel_rfl
  · cases h)

def krg : List SV → List Entry → Option Out
  | [.one ⟨true, [.val (.int .i64 x0), .val (.int .i64 x1)]⟩], [] => some ⟨(.one ⟨true, [(.val (.int IntKind.i64 x0)), (.val (.int IntKind.i64 x1))]⟩), [], [], []⟩
  | _, _ => none

def krl : PF Tryz.prog := PF.ofG Tryz.prog [] [] hmix 157 Tryz.f157 Tryz.func157 (fun c _ => LOk.nil c) krg (by
  intro vs es r h; unfold krg at h; split at h
  · cases h; kernel_rfl
  · cases h)

abbrev k3h := Int × List (Int × Int) × List (Int × Int)

def k8u (y0 : Int) (y1 : List (Int × Int)) : Int × Int :=
  Option.getD y1[Int.toNat y0]? ((0 : Int), (0 : Int))

def k9u (y0 : Int) (y1 : List (Int × Int)) : Bool :=
  ltI y0 (↑(List.length y1) : Int)

def k9x (y0 : Int) : Bool :=
  leI (0 : Int) y0

def kbs (y0 : Int) (y1 : List (Int × Int)) : Bool :=
  ltN (Int.toNat y0) (List.length y1)

def kbq (y0 : Int) (y2 : List (Int × Int)) : Bool :=
  ltI y0 (↑(List.length y2) : Int)

def kbo (y0 : Int) (y2 : List (Int × Int)) : Bool :=
  ltN (Int.toNat y0) (List.length y2)

def kbp (y0 : Int) : Int :=
  IntKind.wrap IntKind.i64 (y0 + (1 : Int))

def kbr (y0 : Int) (y1 : List (Int × Int)) (y2 : List (Int × Int)) : List (Int × Int) :=
  List.set y2 (Int.toNat y0) (Prod.fst (k8u y0 y1), Prod.snd (k8u y0 y1))

def ktf : k3h → List (Nat × SV)
  | (y0, _, _) => [(4, (.one ⟨false, [(.val (.int IntKind.i64 y0))]⟩)), (0, (.one ⟨false, [(.ref 0)]⟩)), (3, (.one ⟨false, [(.ref 1)]⟩))]

def ktq : k3h → List (Nat × Entry)
  | (_, y1, y2) => [(0, (.row false 183 (CTy.pair (CTy.int IntKind.i64) (CTy.int IntKind.i64)) y1)), (1, (.row true 150 (CTy.pair (CTy.int IntKind.i64) (CTy.int IntKind.i64)) y2))]

def kts : Nat → k3h → List (Nat × SV)
  | _, (_, _, _) => []

def ktp : Nat → k3h → List (Nat × Entry)
  | _, (_, y1, y2) => [(0, (.row false 183 (CTy.pair (CTy.int IntKind.i64) (CTy.int IntKind.i64)) y1)), (1, (.row true 150 (CTy.pair (CTy.int IntKind.i64) (CTy.int IntKind.i64)) y2))]

def kbc : k3h → LT k3h
  | (y0, y1, y2) => .ite (k9u y0 y1) (.need [(k9x y0), (k9u y0 y1), (kbs y0 y1), (k9x y0), (kbq y0 y2), (kbo y0 y2)] (.nrm ((kbp y0), y1, (kbr y0 y1 y2)) [(0, 0), (1, 1)])) (.ext 0 [(0, 0), (1, 1)])

def kih (s : St) : Option k3h :=
  (match s.look 4 with
  | some ⟨none, (.one ⟨false, [(.val (.int IntKind.i64 y0))]⟩)⟩ =>
  (match s.look 0 with
  | some ⟨none, (.one ⟨false, [(.ref 0)]⟩)⟩ =>
  (match s.look 3 with
  | some ⟨none, (.one ⟨false, [(.ref 320)]⟩)⟩ =>
  (match s.ent 0 with
  | some (.row false 183 (CTy.pair (CTy.int IntKind.i64) (CTy.int IntKind.i64)) y1) =>
  (match s.ent 320 with
  | some (.row true 150 (CTy.pair (CTy.int IntKind.i64) (CTy.int IntKind.i64)) y2) =>
  some (y0, y1, y2)
  | _ => none)
  | _ => none)
  | _ => none)
  | _ => none)
  | _ => none)

def k25 : Lp k3h where
  h := ⟨[8, 9, 10, 11, 14, 15, 16, 17, 18, 19, 20, 21, 12, 13, 4], [0, 1], [], []⟩
  JL := ktf
  JE := ktq
  XL := kts
  XE := ktp
  q := fun j => match j with | _ => .exit 0
  tags := [0]
  lt := kbc
  fuel := fun (y0, y1, y2) => y0.natAbs + y1.length + y2.length
  fix := fun (_, y1, _) (y0, _, y2) => (y0, y1, y2)
  σ := [(0, 0), (1, 320)]
  rd := kih

theorem ks7 : LoopOk Tryz.prog (fun k => Nat.blt k Tryz.f91.ntmps) k25.F (loopAt Tryz.f91 0) := by
  refine Lp.ok (tbl := [krl]) (lf := []) hmix k25 (by kernel_rfl) (LOk.nil _) (fun _ => rfl) (fun _ _ => rfl) ?_ ?_ ?_ ?_ (fun _ => rfl) ?_
  · intro x; obtain ⟨y0, y1, y2⟩ := x; kernel_rfl
  · intro x; obtain ⟨y0, y1, y2⟩ := x; kernel_rfl
  · intro s x h
    have h : kih s = some x := h
    unfold kih at h
    repeat' split at h
    all_goals cases h
    exact ⟨absS_cons (by assumption) rfl (absS_cons (by assumption) rfl (absS_cons (by assumption) rfl (rfl))), absE_cons rfl (by assumption) rfl (absE_cons rfl (by assumption) rfl (rfl))⟩
  · intro x; obtain ⟨y0, y1, y2⟩ := x; kernel_rfl
  · intro x z; obtain ⟨y0, y1, y2⟩ := x; exact (And.intro rfl trivial)

def khl (x0 : List (Int × Int)) : Int × List (Int × Int) × List (Int × Int) :=
  ((0 : Int), x0, List.replicate (Int.toNat (↑(List.length x0) : Int)) ((0 : Int), (0 : Int)))

def khn (x0 : List (Int × Int)) : List (Int × Int) :=
  Prod.snd (Prod.snd (Prod.snd (Lp.res k25 (khl x0))))

def khs (x0 : List (Int × Int)) : Bool :=
  allT
  [leI (0 : Int) (↑(List.length x0) : Int), leI (↑(List.length x0) : Int) (↑(List.length x0) : Int),
    leI ((↑(16 : Nat) : Int) * (↑(List.length x0) : Int)) (281474976710656 : Int), leI (↑(List.length x0) : Int) (9223372036854775807 : Int),
    Lp.fin k25 (khl x0)]

def kqv : List SV → List Entry → Option Out
  | [.one ⟨false, [.ref 0]⟩], [.row false 183 (.pair (.int .i64) (.int .i64)) x0] => some ⟨(.one ⟨false, [(.ref 1)]⟩), [(.row false 183 (CTy.pair (CTy.int IntKind.i64) (CTy.int IntKind.i64)) x0)], [(.row true 150 (CTy.pair (CTy.int IntKind.i64) (CTy.int IntKind.i64)) (khn x0))], [(khs x0)]⟩
  | _, _ => none

def kx5 : PF Tryz.prog := PF.ofG Tryz.prog [krl] [k25.F] hmix 91 Tryz.f91 Tryz.func91 (LOk.fnT (l := [loopAt Tryz.f91 0]) (by kernel_rfl) (.cons ks7 (.nil _))) kqv (by
  intro vs es r h; unfold kqv at h; split at h
  · cases h; kernel_rfl
  · cases h)

def k12x (x0 : Int) (x1 : ByteArray) (x2 : Int) : Bool :=
  !blockB x0 x1 x2

def kxb : List SV → List Entry → Option Out
  | [.one ⟨true, [.val (.int .i64 x0), .val (.string x1), .val (.int .i64 x2)]⟩], [] => some ⟨(.one ⟨false, [(.val (.bool (k12x x0 x1 x2)))]⟩), [], [], []⟩
  | _, _ => none

def k137 : PF Tryz.prog := PF.ofG Tryz.prog [kz5] [] hmix 160 Tryz.f160 Tryz.func160 (fun c _ => LOk.nil c) kxb (by
  intro vs es r h; unfold kxb at h; split at h
  · cases h; kernel_rfl
  · cases h)

def kvq (x0 : Int) : Int :=
  bif bif x0 == (1 : Int) then x0 == (1 : Int) else bif x0 == (2 : Int) then x0 == (2 : Int) else x0 == (3 : Int) then (0 : Int)
  else
  bif
      bif x0 == (4 : Int) then x0 == (4 : Int)
      else bif x0 == (7 : Int) then x0 == (7 : Int) else bif x0 == (8 : Int) then x0 == (8 : Int) else x0 == (9 : Int) then
    (1 : Int)
  else (2 : Int)

def kvd : List SV → List Entry → Option Out
  | [.one ⟨false, [.val (.int .i64 x0)]⟩], [] => some ⟨(.one ⟨false, [(.val (.int IntKind.i64 (kvq x0)))]⟩), [], [], []⟩
  | _, _ => none

def k12p : PF Tryz.prog := PF.ofG Tryz.prog [] [] hmix 222 Tryz.f222 Tryz.func222 (fun c _ => LOk.nil c) kvd (by
  intro vs es r h; unfold kvd at h; split at h
  · cases h; kernel_rfl
  · cases h)

def k3x (x3 : Int) : Bool :=
  bif x3 == (1 : Int) then x3 == (1 : Int) else bif x3 == (2 : Int) then x3 == (2 : Int) else x3 == (3 : Int)

def k3z (x3 : Int) : Bool :=
  bif x3 == (5 : Int) then x3 == (5 : Int) else x3 == (6 : Int)

def kdy (x3 : Int) : Bool :=
  bif x3 == (8 : Int) then x3 == (8 : Int) else x3 == (9 : Int)

def k16 (x3 : Int) (x4 : Int) (x5 : List (Int × ByteArray × Int)) : Int :=
  bif k3x x3 then (0 : Int)
  else
  bif x3 == (4 : Int) then (1 : Int)
  else
    bif k3z x3 then (2 : Int)
    else
      bif x3 == (7 : Int) then kvq (Prod.fst (Option.getD x5[Int.toNat x4]? ((0 : Int), ByteArray.empty, (0 : Int))))
      else bif kdy x3 then (1 : Int) else (0 : Int)

def k1m (x3 : Int) : Int :=
  bif k3x x3 then (1 : Int)
  else
  bif x3 == (4 : Int) then (1 : Int)
  else
    bif k3z x3 then (1 : Int)
    else bif x3 == (7 : Int) then (1 : Int) else bif kdy x3 then (0 : Int) else (0 : Int)

def k4h (x3 : Int) (x4 : Int) (x5 : List (Int × ByteArray × Int)) : Bool :=
  allT
  [k3x x3 ||
      (x3 == (4 : Int) || (k3z x3 || (!x3 == (7 : Int) || leI (0 : Int) x4))),
    k3x x3 ||
      (x3 == (4 : Int) || (k3z x3 || (!x3 == (7 : Int) || ltI x4 (↑(List.length x5) : Int)))),
    k3x x3 ||
      (x3 == (4 : Int) || (k3z x3 || (!x3 == (7 : Int) || ltN (Int.toNat x4) (List.length x5))))]

def ke7 : List SV → List Entry → Option Out
  | [.one ⟨true, [.val (.int .i64 _x0), .val (.int .i64 _x1), .val (.int .i64 _x2), .ref 0, .ref 1]⟩, .one ⟨true, [.val (.int .i64 x3), .val (.int .i64 x4)]⟩], [.row false 178 (.pair (.int .i64) (.pair (.str) (.int .i64))) x5, .row false 150 (.pair (.int .i64) (.int .i64)) x6] => some ⟨(.tup [⟨false, [(.val (.int IntKind.i64 (k16 x3 x4 x5)))]⟩, ⟨false, [(.val (.int IntKind.i64 (k1m x3)))]⟩]), [(.row false 178 (CTy.pair (CTy.int IntKind.i64) (CTy.pair CTy.str (CTy.int IntKind.i64))) x5), (.row false 150 (CTy.pair (CTy.int IntKind.i64) (CTy.int IntKind.i64)) x6)], [], [(k4h x3 x4 x5)]⟩
  | _, _ => none

def k22 : PF Tryz.prog := PF.ofG Tryz.prog [k12p] [] hmix 196 Tryz.f196 Tryz.func196 (fun c _ => LOk.nil c) ke7 (by
  intro vs es r h; unfold ke7 at h; split at h
  · cases h; kernel_rfl
  · cases h)

def kkv (x0 : List (Int × ByteArray × Int)) : Int :=
  (↑(List.length x0) : Int)

def kp5 : List SV → List Entry → Option Out
  | [.one ⟨false, [.ref 0]⟩], [.row false 178 (.pair (.int .i64) (.pair (.str) (.int .i64))) x0] => some ⟨(.one ⟨false, [(.val (.int IntKind.i64 (kkv x0)))]⟩), [(.row false 178 (CTy.pair (CTy.int IntKind.i64) (CTy.pair CTy.str (CTy.int IntKind.i64))) x0)], [], []⟩
  | _, _ => none

def kkq : PF Tryz.prog := PF.ofG Tryz.prog [] [] hmix 254 Tryz.f254 Tryz.func254 (fun c _ => LOk.nil c) kp5 (by
  intro vs es r h; unfold kp5 at h; split at h
  · cases h; kernel_rfl
  · cases h)

def k3c (x0 : Int) (x1 : Int) (x2 : Int) (x3 : Int) (x4 : List (Int × ByteArray × Int)) : Int :=
  bif x3 == (1 : Int) then (2 : Int)
  else
  bif bif x3 == (2 : Int) then x3 == (2 : Int) else x3 == (10 : Int) then x0
  else
    bif bif x3 == (3 : Int) then x3 == (3 : Int) else bif x3 == (8 : Int) then x3 == (8 : Int) else x3 == (11 : Int) then x1
    else
      bif bif x3 == (4 : Int) then x3 == (4 : Int) else bif x3 == (5 : Int) then x3 == (5 : Int) else x3 == (6 : Int) then (1 : Int)
      else bif x3 == (7 : Int) then kkv x4 else bif x3 == (9 : Int) then x2 else (0 : Int)

def kfk : List SV → List Entry → Option Out
  | [.one ⟨true, [.val (.int .i64 x0), .val (.int .i64 x1), .val (.int .i64 x2), .ref 0, .ref 1]⟩, .one ⟨false, [.val (.int .i64 x3)]⟩], [.row false 178 (.pair (.int .i64) (.pair (.str) (.int .i64))) x4, .row false 150 (.pair (.int .i64) (.int .i64)) x5] => some ⟨(.one ⟨false, [(.val (.int IntKind.i64 (k3c x0 x1 x2 x3 x4)))]⟩), [(.row false 178 (CTy.pair (CTy.int IntKind.i64) (CTy.pair CTy.str (CTy.int IntKind.i64))) x4), (.row false 150 (CTy.pair (CTy.int IntKind.i64) (CTy.int IntKind.i64)) x5)], [], []⟩
  | _, _ => none

def k3b : PF Tryz.prog := PF.ofG Tryz.prog [kkq, PF.lend kkq, PF.fz kkq] [] hmix 216 Tryz.f216 Tryz.func216 (fun c _ => LOk.nil c) kfk (by
  intro vs es r h; unfold kfk at h; split at h
  · cases h; kernel_rfl
  · cases h)

abbrev k1f := Int × Int × Int × List (Int × Int) × Int × Int × Int × List Int × List (Int × (ByteArray × Int))

def kr (y0 : Int) (y3 : List (Int × Int)) : Int × Int :=
  Option.getD y3[Int.toNat y0]? ((0 : Int), (0 : Int))

def k2u (y0 : Int) (y3 : List (Int × Int)) (y8 : List (Int × (ByteArray × Int))) : Int :=
  k16 (Prod.fst (kr y0 y3))
  (Prod.snd (kr y0 y3)) y8

def k1r (y0 : Int) (y2 : Int) (y3 : List (Int × Int)) (y8 : List (Int × (ByteArray × Int))) : Int :=
  IntKind.wrap IntKind.i64
  (y2 +
    IntKind.wrap IntKind.i64
      (k1m (Prod.fst (kr y0 y3)) -
        k2u y0 y3 y8))

def k2y (y0 : Int) (y1 : Int) : Bool :=
  ltI y0 y1

def k5d (y0 : Int) : Bool :=
  leI (0 : Int) y0

def k5g (y0 : Int) (y3 : List (Int × Int)) : Bool :=
  ltI y0 (↑(List.length y3) : Int)

def k59 (y0 : Int) (y3 : List (Int × Int)) : Bool :=
  ltN (Int.toNat y0) (List.length y3)

def k2z (y0 : Int) (y3 : List (Int × Int)) (y4 : Int) (y5 : Int) (y6 : Int) (y8 : List (Int × (ByteArray × Int))) : Bool :=
  bif ltI (Prod.snd (kr y0 y3)) (0 : Int) then true
  else
  leI (k3c y4 y5 y6 (Prod.fst (kr y0 y3)) y8)
    (Prod.snd (kr y0 y3))

def k5f (y0 : Int) (y3 : List (Int × Int)) (y8 : List (Int × (ByteArray × Int))) : Bool :=
  k4h (Prod.fst (kr y0 y3))
  (Prod.snd (kr y0 y3)) y8

def k5h (y0 : Int) (y2 : Int) (y3 : List (Int × Int)) (y8 : List (Int × (ByteArray × Int))) : Bool :=
  ltI y2 (k2u y0 y3 y8)

def k5e (y0 : Int) (y2 : Int) (y3 : List (Int × Int)) (y8 : List (Int × (ByteArray × Int))) : Bool :=
  ltI (40 : Int) (k1r y0 y2 y3 y8)

def k5b (y0 : Int) (y2 : Int) (y3 : List (Int × Int)) (y7 : List Int) (y8 : List (Int × (ByteArray × Int))) : Bool :=
  leN (List.length y7 + List.length [k1r y0 y2 y3 y8]) (9223372036854775807 : Nat)

def k5c (y0 : Int) (y2 : Int) (y3 : List (Int × Int)) (y7 : List Int) (y8 : List (Int × (ByteArray × Int))) : Bool :=
  leN ((List.length y7 + List.length [k1r y0 y2 y3 y8]) * (8 : Nat)) (140737488355328 : Nat)

def k54 (y0 : Int) : Int :=
  IntKind.wrap IntKind.i64 (y0 + (1 : Int))

def k53 (y0 : Int) (y2 : Int) (y3 : List (Int × Int)) (y8 : List (Int × (ByteArray × Int))) : Int :=
  k1r y0 y2 y3 y8

def k4z (y0 : Int) (y2 : Int) (y3 : List (Int × Int)) (y7 : List Int) (y8 : List (Int × (ByteArray × Int))) : List Int :=
  y7 ++ [k1r y0 y2 y3 y8]

def kk6 : k1f → List (Nat × SV)
  | (y0, y1, y2, _, _, _, _, _, _) => [(13, (.one ⟨false, [(.val (.int IntKind.i64 y0))]⟩)), (12, (.one ⟨false, [(.val (.int IntKind.i64 y1))]⟩)), (11, (.one ⟨false, [(.ref 0)]⟩)), (1, (.one ⟨false, [(.ptr 1 0)]⟩)), (5, (.one ⟨false, [(.val (.int IntKind.i64 y2))]⟩)), (4, (.one ⟨false, [(.ref 2)]⟩))]

def kk8 : k1f → List (Nat × Entry)
  | (_, _, _, y3, y4, y5, y6, y7, y8) => [(0, (.row false 150 (CTy.pair (CTy.int IntKind.i64) (CTy.int IntKind.i64)) y3)), (1, (.box 34 [(.val (.int IntKind.i64 y4)), (.val (.int IntKind.i64 y5)), (.val (.int IntKind.i64 y6)), (.ref 3), (.ref 0)])), (3, (.row false 178 (CTy.pair (CTy.int IntKind.i64) (CTy.pair CTy.str (CTy.int IntKind.i64))) y8)), (2, (.row true 2 (CTy.int IntKind.i64) y7))]

def kjp : Nat → k1f → List (Nat × SV)
  | 0, (_, _, _, _, _, _, _, _, _) => [(2, (.one ⟨false, [(.ref 4)]⟩)), (3, (.one ⟨false, [(.val (.bool false))]⟩))]
  | 1, (_, _, _, _, _, _, _, _, _) => [(2, (.one ⟨false, [(.ref 4)]⟩)), (3, (.one ⟨false, [(.val (.bool false))]⟩))]
  | 2, (_, _, _, _, _, _, _, _, _) => [(2, (.one ⟨false, [(.ref 4)]⟩)), (3, (.one ⟨false, [(.val (.bool false))]⟩))]
  | _, (_, _, y2, _, _, _, _, _, _) => [(5, (.one ⟨false, [(.val (.int IntKind.i64 y2))]⟩)), (4, (.one ⟨false, [(.ref 2)]⟩))]

def kjl : Nat → k1f → List (Nat × Entry)
  | 0, (_, _, _, y3, y4, y5, y6, y7, y8) => [(0, (.row false 150 (CTy.pair (CTy.int IntKind.i64) (CTy.int IntKind.i64)) y3)), (1, (.box 34 [(.val (.int IntKind.i64 y4)), (.val (.int IntKind.i64 y5)), (.val (.int IntKind.i64 y6)), (.ref 3), (.ref 0)])), (2, (.row true 2 (CTy.int IntKind.i64) y7)), (3, (.row false 178 (CTy.pair (CTy.int IntKind.i64) (CTy.pair CTy.str (CTy.int IntKind.i64))) y8)), (4, (.row true 2 (CTy.int IntKind.i64) []))]
  | 1, (_, _, _, y3, y4, y5, y6, y7, y8) => [(0, (.row false 150 (CTy.pair (CTy.int IntKind.i64) (CTy.int IntKind.i64)) y3)), (1, (.box 34 [(.val (.int IntKind.i64 y4)), (.val (.int IntKind.i64 y5)), (.val (.int IntKind.i64 y6)), (.ref 3), (.ref 0)])), (2, (.row true 2 (CTy.int IntKind.i64) y7)), (3, (.row false 178 (CTy.pair (CTy.int IntKind.i64) (CTy.pair CTy.str (CTy.int IntKind.i64))) y8)), (4, (.row true 2 (CTy.int IntKind.i64) []))]
  | 2, (_, _, _, y3, y4, y5, y6, y7, y8) => [(0, (.row false 150 (CTy.pair (CTy.int IntKind.i64) (CTy.int IntKind.i64)) y3)), (1, (.box 34 [(.val (.int IntKind.i64 y4)), (.val (.int IntKind.i64 y5)), (.val (.int IntKind.i64 y6)), (.ref 3), (.ref 0)])), (2, (.row true 2 (CTy.int IntKind.i64) y7)), (3, (.row false 178 (CTy.pair (CTy.int IntKind.i64) (CTy.pair CTy.str (CTy.int IntKind.i64))) y8)), (4, (.row true 2 (CTy.int IntKind.i64) []))]
  | _, (_, _, _, y3, y4, y5, y6, y7, y8) => [(0, (.row false 150 (CTy.pair (CTy.int IntKind.i64) (CTy.int IntKind.i64)) y3)), (1, (.box 34 [(.val (.int IntKind.i64 y4)), (.val (.int IntKind.i64 y5)), (.val (.int IntKind.i64 y6)), (.ref 3), (.ref 0)])), (2, (.row true 2 (CTy.int IntKind.i64) y7)), (3, (.row false 178 (CTy.pair (CTy.int IntKind.i64) (CTy.pair CTy.str (CTy.int IntKind.i64))) y8))]

def k2w : k1f → LT k1f
  | (y0, y1, y2, y3, y4, y5, y6, y7, y8) => .ite (k2y y0 y1) (.need [(k5d y0), (k5g y0 y3), (k59 y0 y3)] (.ite (k2z y0 y3 y4 y5 y6 y8) (.ext 0 [(0, 0), (1, 1), (2, 2), (3, 3), (4, 1152)]) (.need [(k5f y0 y3 y8)] (.ite (k5h y0 y2 y3 y8) (.ext 1 [(0, 0), (1, 1), (2, 2), (3, 3), (4, 1856)]) (.ite (k5e y0 y2 y3 y8) (.ext 2 [(0, 0), (1, 1), (2, 2), (3, 3), (4, 2368)]) (.need [(k5b y0 y2 y3 y7 y8), (k5c y0 y2 y3 y7 y8)] (.nrm ((k54 y0), y1, (k53 y0 y2 y3 y8), y3, y4, y5, y6, (k4z y0 y2 y3 y7 y8), y8) [(0, 0), (1, 1), (2, 2560), (3, 3)]))))))) (.ext 3 [(0, 0), (1, 1), (2, 2), (3, 3)])

def k80 (s : St) : Option k1f :=
  (match s.look 13 with
  | some ⟨none, (.one ⟨false, [(.val (.int IntKind.i64 y0))]⟩)⟩ =>
  (match s.look 12 with
  | some ⟨none, (.one ⟨false, [(.val (.int IntKind.i64 y1))]⟩)⟩ =>
  (match s.look 11 with
  | some ⟨none, (.one ⟨false, [(.ref 1)]⟩)⟩ =>
  (match s.look 1 with
  | some ⟨none, (.one ⟨false, [(.ptr 192 0)]⟩)⟩ =>
  (match s.look 5 with
  | some ⟨none, (.one ⟨false, [(.val (.int IntKind.i64 y2))]⟩)⟩ =>
  (match s.look 4 with
  | some ⟨none, (.one ⟨false, [(.ref 384)]⟩)⟩ =>
  (match s.ent 1 with
  | some (.row false 150 (CTy.pair (CTy.int IntKind.i64) (CTy.int IntKind.i64)) y3) =>
  (match s.ent 192 with
  | some (.box 34 [(.val (.int IntKind.i64 y4)), (.val (.int IntKind.i64 y5)), (.val (.int IntKind.i64 y6)), (.ref 0), (.ref 1)]) =>
  (match s.ent 0 with
  | some (.row false 178 (CTy.pair (CTy.int IntKind.i64) (CTy.pair CTy.str (CTy.int IntKind.i64))) y8) =>
  (match s.ent 384 with
  | some (.row true 2 (CTy.int IntKind.i64) y7) =>
  some (y0, y1, y2, y3, y4, y5, y6, y7, y8)
  | _ => none)
  | _ => none)
  | _ => none)
  | _ => none)
  | _ => none)
  | _ => none)
  | _ => none)
  | _ => none)
  | _ => none)
  | _ => none)

def kj : Lp k1f where
  h := ⟨[14, 15, 16, 7, 17, 18, 19, 20, 21, 22, 23, 24, 25, 26, 27, 28, 2, 3, 30, 31, 32, 29, 33, 34, 8, 9, 35, 36, 37, 38, 39, 40, 41, 42, 5, 43, 44, 45, 46, 47, 48, 4, 49, 13], [0, 1, 3], [2], [4]⟩
  JL := kk6
  JE := kk8
  XL := kjp
  XE := kjl
  q := fun j => match j with | 0 => .ret | 1 => .ret | 2 => .ret | _ => .exit 0
  tags := [0, 1, 2, 3]
  lt := k2w
  fuel := fun (y0, y1, y2, y3, y4, y5, y6, y7, y8) => y0.natAbs + y1.natAbs + y2.natAbs + y3.length + y4.natAbs + y5.natAbs + y6.natAbs + y7.length + y8.length
  fix := fun (_, y1, _, y3, y4, y5, y6, _, y8) (y0, _, y2, _, _, _, _, y7, _) => (y0, y1, y2, y3, y4, y5, y6, y7, y8)
  σ := [(0, 1), (1, 192), (3, 0), (2, 384)]
  rd := k80

theorem kiw : LoopOk Tryz.prog (fun k => Nat.blt k Tryz.f162.ntmps) kj.F (loopAt Tryz.f162 0) := by
  refine Lp.ok (tbl := [k22, PF.lend k22, PF.fz k22, k3b, PF.lend k3b, PF.fz k3b]) (lf := []) hmix kj (by kernel_rfl) (LOk.nil _) (fun _ => rfl) (fun j _ => by unfold kj; match j with | 0 => rfl | 1 => rfl | 2 => rfl | _ + 3 => rfl) ?_ ?_ ?_ ?_ (fun _ => rfl) ?_
  · intro x; obtain ⟨y0, y1, y2, y3, y4, y5, y6, y7, y8⟩ := x; kernel_rfl
  · intro x; obtain ⟨y0, y1, y2, y3, y4, y5, y6, y7, y8⟩ := x; kernel_rfl
  · intro s x h
    have h : k80 s = some x := h
    unfold k80 at h
    repeat' split at h
    all_goals cases h
    exact ⟨absS_cons (by assumption) rfl (absS_cons (by assumption) rfl (absS_cons (by assumption) rfl (absS_cons (by assumption) rfl (absS_cons (by assumption) rfl (absS_cons (by assumption) rfl (rfl)))))), absE_cons rfl (by assumption) rfl (absE_cons rfl (by assumption) rfl (absE_cons rfl (by assumption) rfl (absE_cons rfl (by assumption) rfl (rfl))))⟩
  · intro x; obtain ⟨y0, y1, y2, y3, y4, y5, y6, y7, y8⟩ := x; kernel_rfl
  · intro x z; obtain ⟨y0, y1, y2, y3, y4, y5, y6, y7, y8⟩ := x; exact (And.intro (And.intro trivial (And.intro trivial (And.intro trivial rfl))) trivial)

def k2l (x0 : Int) (x1 : Int) (x2 : Int) (x3 : List (Int × ByteArray × Int)) (x4 : List (Int × Int)) : Int × Int × Int × List (Int × Int) × Int × Int × Int × List Int × List (Int × ByteArray × Int) :=
  ((0 : Int), (↑(List.length x4) : Int), (0 : Int), x4, x0, x1, x2, [], x3)

def k98 (x0 : Int) (x1 : Int) (x2 : Int) (x3 : List (Int × ByteArray × Int)) (x4 : List (Int × Int)) : Bool :=
  Nat.beq (Prod.fst (Lp.res kj (k2l x0 x1 x2 x3 x4))) (0 : Nat)

def k9a (x0 : Int) (x1 : Int) (x2 : Int) (x3 : List (Int × ByteArray × Int)) (x4 : List (Int × Int)) : Bool :=
  Nat.beq (Prod.fst (Lp.res kj (k2l x0 x1 x2 x3 x4))) (1 : Nat)

def k91 (x0 : Int) (x1 : Int) (x2 : Int) (x3 : List (Int × ByteArray × Int)) (x4 : List (Int × Int)) : Bool :=
  Nat.beq (Prod.fst (Lp.res kj (k2l x0 x1 x2 x3 x4))) (2 : Nat)

def k92 (x0 : Int) (x1 : Int) (x2 : Int) (x3 : List (Int × ByteArray × Int)) (x4 : List (Int × Int)) : Int × List (Int × Int) × Int × Int × Int × List Int × List (Int × ByteArray × Int) :=
  Prod.snd (Prod.snd (Prod.snd (Lp.res kj (k2l x0 x1 x2 x3 x4))))

def k6g (x0 : Int) (x1 : Int) (x2 : Int) (x3 : List (Int × ByteArray × Int)) (x4 : List (Int × Int)) : Bool :=
  bif k98 x0 x1 x2 x3 x4 then false
  else
  bif k9a x0 x1 x2 x3 x4 then false
  else
    bif k91 x0 x1 x2 x3 x4 then false
    else Prod.fst (k92 x0 x1 x2 x3 x4) == (0 : Int)

def k9q (x0 : Int) (x1 : Int) (x2 : Int) (x3 : List (Int × ByteArray × Int)) (x4 : List (Int × Int)) : List Int :=
  bif k98 x0 x1 x2 x3 x4 then []
  else
  bif k9a x0 x1 x2 x3 x4 then []
  else
    bif k91 x0 x1 x2 x3 x4 then []
    else Prod.fst (Prod.snd (Prod.snd (Prod.snd (Prod.snd (Prod.snd (k92 x0 x1 x2 x3 x4))))))

def k6a (x0 : Int) (x1 : Int) (x2 : Int) (x3 : List (Int × ByteArray × Int)) (x4 : List (Int × Int)) : Bool :=
  allT [Lp.fin kj (k2l x0 x1 x2 x3 x4)]

def kdx : List SV → List Entry → Option Out
  | [.one ⟨true, [.val (.int .i64 x0), .val (.int .i64 x1), .val (.int .i64 x2), .ref 0, .ref 1]⟩], [.row false 178 (.pair (.int .i64) (.pair (.str) (.int .i64))) x3, .row false 150 (.pair (.int .i64) (.int .i64)) x4] => some ⟨(.tup [⟨false, [(.ref 2)]⟩, ⟨false, [(.val (.bool (k6g x0 x1 x2 x3 x4)))]⟩]), [(.row false 178 (CTy.pair (CTy.int IntKind.i64) (CTy.pair CTy.str (CTy.int IntKind.i64))) x3), (.row false 150 (CTy.pair (CTy.int IntKind.i64) (CTy.int IntKind.i64)) x4)], [(.row true 2 (CTy.int IntKind.i64) (k9q x0 x1 x2 x3 x4))], [(k6a x0 x1 x2 x3 x4)]⟩
  | _, _ => none

def k9s : PF Tryz.prog := PF.ofG Tryz.prog [k22, PF.lend k22, PF.fz k22, k3b, PF.lend k3b, PF.fz k3b] [kj.F] hmix 162 Tryz.f162 Tryz.func162 (LOk.fnT (l := [loopAt Tryz.f162 0]) (by kernel_rfl) (.cons kiw (.nil _))) kdx (by
  intro vs es r h; unfold kdx at h; split at h
  · cases h; kernel_rfl
  · cases h)

def kmz (x0 : Int) (x1 : ByteArray) (x2 : Int) : Bool :=
  !blockB x0 x1 x2

def kqx : List SV → List Entry → Option Out
  | [(.one ⟨true, [(.val (.int IntKind.i64 x0)), (.val (.string x1)), (.val (.int IntKind.i64 x2))]⟩)], [] => some ⟨(.one ⟨false, [(.val (.bool (kmz x0 x1 x2)))]⟩), [], [], []⟩
  | _, _ => none

def kqu : PF Tryz.prog := PF.ofG Tryz.prog [kz5] [] hmix 160 Tryz.f160 Tryz.func160 (fun c _ => LOk.nil c) kqx (by
  intro vs es r h; unfold kqx at h; split at h
  · cases h; kernel_rfl
  · cases h)

abbrev k1n := Int × Int × List (Int × (ByteArray × Int))

def k2b (y0 : Int) (y2 : List (Int × (ByteArray × Int))) : Int × ByteArray × Int :=
  Option.getD y2[Int.toNat y0]? ((0 : Int), ByteArray.empty, (0 : Int))

def k4r (y0 : Int) (y1 : Int) : Bool :=
  ltI y0 y1

def k4u (y0 : Int) : Bool :=
  leI (0 : Int) y0

def k4q (y0 : Int) (y2 : List (Int × (ByteArray × Int))) : Bool :=
  ltI y0 (↑(List.length y2) : Int)

def k4t (y0 : Int) (y2 : List (Int × (ByteArray × Int))) : Bool :=
  ltN (Int.toNat y0) (List.length y2)

def k4s (y0 : Int) (y2 : List (Int × (ByteArray × Int))) : Bool :=
  kmz (Prod.fst (k2b y0 y2)) (Prod.fst (Prod.snd (k2b y0 y2)))
  (Prod.snd (Prod.snd (k2b y0 y2)))

def k4m (y0 : Int) : Int :=
  IntKind.wrap IntKind.i64 (y0 + (1 : Int))

def kn0 : k1n → List (Nat × SV)
  | (y0, y1, _) => [(8, (.one ⟨false, [(.val (.int IntKind.i64 y0))]⟩)), (7, (.one ⟨false, [(.val (.int IntKind.i64 y1))]⟩)), (1, (.one ⟨false, [(.val (.func (.func 160) ⟨[]⟩ ⟨[]⟩))]⟩)), (0, (.one ⟨false, [(.ref 0)]⟩))]

def kn5 : k1n → List (Nat × Entry)
  | (_, _, y2) => [(0, (.row false 178 (CTy.pair (CTy.int IntKind.i64) (CTy.pair CTy.str (CTy.int IntKind.i64))) y2))]

def kn6 : Nat → k1n → List (Nat × SV)
  | 0, (y0, _, _) => [(4, (.one ⟨false, [(.val (.int IntKind.i64 y0))]⟩))]
  | _, (_, _, _) => []

def kna : Nat → k1n → List (Nat × Entry)
  | 0, (_, _, y2) => [(0, (.row false 178 (CTy.pair (CTy.int IntKind.i64) (CTy.pair CTy.str (CTy.int IntKind.i64))) y2))]
  | _, (_, _, y2) => [(0, (.row false 178 (CTy.pair (CTy.int IntKind.i64) (CTy.pair CTy.str (CTy.int IntKind.i64))) y2))]

def k4i : k1n → LT k1n
  | (y0, y1, y2) => .ite (k4r y0 y1) (.need [(k4u y0), (k4q y0 y2), (k4t y0 y2)] (.ite (k4s y0 y2) (.ext 0 [(0, 0)]) (.nrm ((k4m y0), y1, y2) [(0, 0)]))) (.ext 1 [(0, 0)])

def ka1 (s : St) : Option k1n :=
  (match s.look 8 with
  | some ⟨none, (.one ⟨false, [(.val (.int IntKind.i64 y0))]⟩)⟩ =>
  (match s.look 7 with
  | some ⟨none, (.one ⟨false, [(.val (.int IntKind.i64 y1))]⟩)⟩ =>
  (match s.look 1 with
  | some ⟨none, (.one ⟨false, [(.val (.func (.func 160) ⟨[]⟩ ⟨[]⟩))]⟩)⟩ =>
  (match s.look 0 with
  | some ⟨none, (.one ⟨false, [(.ref 0)]⟩)⟩ =>
  (match s.ent 0 with
  | some (.row false 178 (CTy.pair (CTy.int IntKind.i64) (CTy.pair CTy.str (CTy.int IntKind.i64))) y2) =>
  some (y0, y1, y2)
  | _ => none)
  | _ => none)
  | _ => none)
  | _ => none)
  | _ => none)

def kv : Lp k1n where
  h := ⟨[9, 10, 5, 11, 12, 13, 14, 15, 16, 17, 4, 18, 8], [0], [], []⟩
  JL := kn0
  JE := kn5
  XL := kn6
  XE := kna
  q := fun j => match j with | 0 => .ret | _ => .exit 0
  tags := [0, 1]
  lt := k4i
  fuel := fun (y0, y1, y2) => y0.natAbs + y1.natAbs + y2.length
  fix := fun (_, y1, y2) (y0, _, _) => (y0, y1, y2)
  σ := [(0, 0)]
  rd := ka1

theorem klg : LoopOk Tryz.prog (fun k => Nat.blt k Tryz.f214.ntmps) kv.F (loopAt Tryz.f214 0) := by
  refine Lp.ok (tbl := [kqu]) (lf := []) hmix kv (by kernel_rfl) (LOk.nil _) (fun _ => rfl) (fun j _ => by unfold kv; match j with | 0 => rfl | _ + 1 => rfl) ?_ ?_ ?_ ?_ (fun _ => rfl) ?_
  · intro x; obtain ⟨y0, y1, y2⟩ := x; kernel_rfl
  · intro x; obtain ⟨y0, y1, y2⟩ := x; kernel_rfl
  · intro s x h
    have h : ka1 s = some x := h
    unfold ka1 at h
    repeat' split at h
    all_goals cases h
    exact ⟨absS_cons (by assumption) rfl (absS_cons (by assumption) rfl (absS_cons (by assumption) rfl (absS_cons (by assumption) rfl (rfl)))), absE_cons rfl (by assumption) rfl (rfl)⟩
  · intro x; obtain ⟨y0, y1, y2⟩ := x; kernel_rfl
  · intro x z; obtain ⟨y0, y1, y2⟩ := x; exact (And.intro (And.intro trivial rfl) trivial)

def k85 (x0 : List (Int × ByteArray × Int)) : Int × Int × List (Int × ByteArray × Int) :=
  ((0 : Int), (↑(List.length x0) : Int), x0)

def kc1 (x0 : List (Int × ByteArray × Int)) : Int :=
  bif Nat.beq (Prod.fst (Lp.res kv (k85 x0))) (0 : Nat) then
  Prod.fst (Prod.snd (Lp.res kv (k85 x0)))
  else (-1 : Int)

def kbm (x0 : List (Int × ByteArray × Int)) : Bool :=
  allT [Lp.fin kv (k85 x0)]

def kgl : List SV → List Entry → Option Out
  | [(.one ⟨false, [(.ref 0)]⟩), (.one ⟨false, [(.val (.func (.func 160) ⟨[]⟩ ⟨[]⟩))]⟩)], [(.row false 178 (CTy.pair (CTy.int IntKind.i64) (CTy.pair CTy.str (CTy.int IntKind.i64))) x0)] => some ⟨(.one ⟨false, [(.val (.int IntKind.i64 (kc1 x0)))]⟩), [(.row false 178 (CTy.pair (CTy.int IntKind.i64) (CTy.pair CTy.str (CTy.int IntKind.i64))) x0)], [], [(kbm x0)]⟩
  | _, _ => none

def kbx : PF Tryz.prog := PF.ofG Tryz.prog [kqu] [kv.F] hmix 214 Tryz.f214 Tryz.func214 (LOk.fnT (l := [loopAt Tryz.f214 0]) (by kernel_rfl) (.cons klg (.nil _))) kgl (by
  intro vs es r h; unfold kgl at h; split at h
  · cases h; kernel_rfl
  · cases h)

def k70 (x0 : List (Int × ByteArray × Int)) : Bool :=
  leI (0 : Int) (kc1 x0)

def kap (x0 : List (Int × ByteArray × Int)) : Bool :=
  allT [kbm x0]

def keq : List SV → List Entry → Option Out
  | [(.one ⟨false, [(.ref 0)]⟩), (.one ⟨false, [(.val (.func (.func 160) ⟨[]⟩ ⟨[]⟩))]⟩)], [(.row false 178 (CTy.pair (CTy.int IntKind.i64) (CTy.pair CTy.str (CTy.int IntKind.i64))) x0)] => some ⟨(.one ⟨false, [(.val (.bool (k70 x0)))]⟩), [(.row false 178 (CTy.pair (CTy.int IntKind.i64) (CTy.pair CTy.str (CTy.int IntKind.i64))) x0)], [], [(kap x0)]⟩
  | _, _ => none

def kai : PF Tryz.prog := PF.ofG Tryz.prog [kbx, PF.lend kbx, PF.fz kbx] [] hmix 159 Tryz.f159 Tryz.func159 (fun c _ => LOk.nil c) keq (by
  intro vs es r h; unfold keq at h; split at h
  · cases h; kernel_rfl
  · cases h)

def kop (x0 : Int) (x1 : Int) (x2 : Int) (x3 : List (Int × ByteArray × Int)) (x4 : List (Int × Int)) : Bool :=
  bif
    bif
        bif bif !k95 x0 (0 : Int) (20 : Int) then true else !k95 x1 (0 : Int) (20 : Int) then true
        else !k95 x2 (0 : Int) (20 : Int) then
      true
    else ltI (2000 : Int) (↑(List.length x3) : Int) then
  true
  else ltI (2000 : Int) (↑(List.length x4) : Int)

def kw0 (x0 : Int) (x1 : Int) (x2 : Int) (x3 : List (Int × ByteArray × Int)) (x4 : List (Int × Int)) : Bool :=
  bif kop x0 x1 x2 x3 x4 then false
  else bif k70 x3 then false else k6g x0 x1 x2 x3 x4

def kv9 (x0 : Int) (x1 : Int) (x2 : Int) (x3 : List (Int × ByteArray × Int)) (x4 : List (Int × Int)) : Bool :=
  allT
  [kop x0 x1 x2 x3 x4 || kap x3,
    kop x0 x1 x2 x3 x4 || (k70 x3 || k6a x0 x1 x2 x3 x4)]

def k11t : List SV → List Entry → Option Out
  | [.one ⟨true, [.val (.int .i64 x0), .val (.int .i64 x1), .val (.int .i64 x2), .ref 0, .ref 1]⟩], [.row false 178 (.pair (.int .i64) (.pair (.str) (.int .i64))) x3, .row false 150 (.pair (.int .i64) (.int .i64)) x4] => some ⟨(.one ⟨false, [(.val (.bool (kw0 x0 x1 x2 x3 x4)))]⟩), [(.row false 178 (CTy.pair (CTy.int IntKind.i64) (CTy.pair CTy.str (CTy.int IntKind.i64))) x3), (.row false 150 (CTy.pair (CTy.int IntKind.i64) (CTy.int IntKind.i64)) x4)], [], [(kv9 x0 x1 x2 x3 x4)]⟩
  | _, _ => none

def k146 : PF Tryz.prog := PF.ofG Tryz.prog [ksj, k137, k9s, PF.lend k9s, PF.fz k9s, kai, PF.lend kai, PF.fz kai] [] hmix 92 Tryz.f92 Tryz.func92 (fun c _ => LOk.nil c) k11t (by
  intro vs es r h; unfold k11t at h; split at h
  · cases h; kernel_rfl
  · cases h)

abbrev k1e := Int × Int × List (Int × (ByteArray × Int)) × List Int × List (Int × (Int × Int))

def k29 (y0 : Int) (y2 : List (Int × (ByteArray × Int))) : Int × ByteArray × Int :=
  Option.getD y2[Int.toNat y0]? ((0 : Int), ByteArray.empty, (0 : Int))

def k1z (y0 : Int) (y4 : List (Int × (Int × Int))) : Int × Int × Int :=
  Option.getD y4[Int.toNat y0]? ((0 : Int), (0 : Int), (0 : Int))

def k32 (y0 : Int) (y1 : Int) : Bool :=
  ltI y0 y1

def k2d (y0 : Int) : Bool :=
  leI (0 : Int) y0

def k36 (y0 : Int) (y2 : List (Int × (ByteArray × Int))) : Bool :=
  ltI y0 (↑(List.length y2) : Int)

def k34 (y0 : Int) (y2 : List (Int × (ByteArray × Int))) : Bool :=
  ltN (Int.toNat y0) (List.length y2)

def k30 (y0 : Int) (y4 : List (Int × (Int × Int))) : Bool :=
  ltI y0 (↑(List.length y4) : Int)

def k31 (y0 : Int) (y4 : List (Int × (Int × Int))) : Bool :=
  ltN (Int.toNat y0) (List.length y4)

def k35 (y0 : Int) (y2 : List (Int × (ByteArray × Int))) (y4 : List (Int × (Int × Int))) : Bool :=
  !kgc (Prod.fst (k29 y0 y2))
    (Prod.snd (Prod.snd (k29 y0 y2))) (Prod.fst (k1z y0 y4))
    (Prod.fst (Prod.snd (k1z y0 y4)))
    (Prod.snd (Prod.snd (k1z y0 y4)))

def k33 (y0 : Int) : Int :=
  IntKind.wrap IntKind.i64 (y0 + (1 : Int))

def kkc : k1e → List (Nat × SV)
  | (y0, y1, _, _, _) => [(24, (.one ⟨false, [(.val (.int IntKind.i64 y0))]⟩)), (23, (.one ⟨false, [(.val (.int IntKind.i64 y1))]⟩)), (22, (.one ⟨false, [(.ref 0)]⟩)), (3, (.one ⟨false, [(.ptr 1 0)]⟩))]

def kkd : k1e → List (Nat × Entry)
  | (_, _, y2, y3, y4) => [(0, (.row false 178 (CTy.pair (CTy.int IntKind.i64) (CTy.pair CTy.str (CTy.int IntKind.i64))) y2)), (1, (.box 48 [(.ref 2), (.ref 3)])), (2, (.row false 2 (CTy.int IntKind.i64) y3)), (3, (.row false 172 (CTy.pair (CTy.int IntKind.i64) (CTy.pair (CTy.int IntKind.i64) (CTy.int IntKind.i64))) y4))]

def kjy : Nat → k1e → List (Nat × SV)
  | 0, (_, _, _, _, _) => [(6, (.one ⟨false, [(.val (.bool false))]⟩))]
  | _, (_, _, _, _, _) => []

def kka : Nat → k1e → List (Nat × Entry)
  | 0, (_, _, y2, y3, y4) => [(0, (.row false 178 (CTy.pair (CTy.int IntKind.i64) (CTy.pair CTy.str (CTy.int IntKind.i64))) y2)), (1, (.box 48 [(.ref 2), (.ref 3)])), (2, (.row false 2 (CTy.int IntKind.i64) y3)), (3, (.row false 172 (CTy.pair (CTy.int IntKind.i64) (CTy.pair (CTy.int IntKind.i64) (CTy.int IntKind.i64))) y4))]
  | _, (_, _, y2, y3, y4) => [(0, (.row false 178 (CTy.pair (CTy.int IntKind.i64) (CTy.pair CTy.str (CTy.int IntKind.i64))) y2)), (1, (.box 48 [(.ref 2), (.ref 3)])), (2, (.row false 2 (CTy.int IntKind.i64) y3)), (3, (.row false 172 (CTy.pair (CTy.int IntKind.i64) (CTy.pair (CTy.int IntKind.i64) (CTy.int IntKind.i64))) y4))]

def k2v : k1e → LT k1e
  | (y0, y1, y2, y3, y4) => .ite (k32 y0 y1) (.need [(k2d y0), (k36 y0 y2), (k34 y0 y2)] (.need [(k2d y0), (k30 y0 y4), (k31 y0 y4)] (.ite (k35 y0 y2 y4) (.ext 0 [(0, 0), (1, 1), (2, 2), (3, 3)]) (.nrm ((k33 y0), y1, y2, y3, y4) [(0, 0), (1, 1), (2, 2), (3, 3)])))) (.ext 1 [(0, 0), (1, 1), (2, 2), (3, 3)])

def k7v (s : St) : Option k1e :=
  (match s.look 24 with
  | some ⟨none, (.one ⟨false, [(.val (.int IntKind.i64 y0))]⟩)⟩ =>
  (match s.look 23 with
  | some ⟨none, (.one ⟨false, [(.val (.int IntKind.i64 y1))]⟩)⟩ =>
  (match s.look 22 with
  | some ⟨none, (.one ⟨false, [(.ref 2)]⟩)⟩ =>
  (match s.look 3 with
  | some ⟨none, (.one ⟨false, [(.ptr 256 0)]⟩)⟩ =>
  (match s.ent 2 with
  | some (.row false 178 (CTy.pair (CTy.int IntKind.i64) (CTy.pair CTy.str (CTy.int IntKind.i64))) y2) =>
  (match s.ent 256 with
  | some (.box 48 [(.ref 0), (.ref 1)]) =>
  (match s.ent 0 with
  | some (.row false 2 (CTy.int IntKind.i64) y3) =>
  (match s.ent 1 with
  | some (.row false 172 (CTy.pair (CTy.int IntKind.i64) (CTy.pair (CTy.int IntKind.i64) (CTy.int IntKind.i64))) y4) =>
  some (y0, y1, y2, y3, y4)
  | _ => none)
  | _ => none)
  | _ => none)
  | _ => none)
  | _ => none)
  | _ => none)
  | _ => none)
  | _ => none)

def kq : Lp k1e where
  h := ⟨[25, 26, 27, 28, 8, 7, 29, 30, 31, 32, 33, 34, 35, 36, 6, 37, 24], [0, 1, 2, 3], [], []⟩
  JL := kkc
  JE := kkd
  XL := kjy
  XE := kka
  q := fun j => match j with | 0 => .ret | _ => .exit 0
  tags := [0, 1]
  lt := k2v
  fuel := fun (y0, y1, y2, y3, y4) => y0.natAbs + y1.natAbs + y2.length + y3.length + y4.length
  fix := fun (_, y1, y2, y3, y4) (y0, _, _, _, _) => (y0, y1, y2, y3, y4)
  σ := [(0, 2), (1, 256), (2, 0), (3, 1)]
  rd := k7v

theorem kiv : LoopOk Tryz.prog (fun k => Nat.blt k Tryz.f116.ntmps) kq.F (loopAt Tryz.f116 0) := by
  refine Lp.ok (tbl := [kej, PF.lend kej, PF.fz kej, kul]) (lf := []) hmix kq (by kernel_rfl) (LOk.nil _) (fun _ => rfl) (fun j _ => by unfold kq; match j with | 0 => rfl | _ + 1 => rfl) ?_ ?_ ?_ ?_ (fun _ => rfl) ?_
  · intro x; obtain ⟨y0, y1, y2, y3, y4⟩ := x; kernel_rfl
  · intro x; obtain ⟨y0, y1, y2, y3, y4⟩ := x; kernel_rfl
  · intro s x h
    have h : k7v s = some x := h
    unfold k7v at h
    repeat' split at h
    all_goals cases h
    exact ⟨absS_cons (by assumption) rfl (absS_cons (by assumption) rfl (absS_cons (by assumption) rfl (absS_cons (by assumption) rfl (rfl)))), absE_cons rfl (by assumption) rfl (absE_cons rfl (by assumption) rfl (absE_cons rfl (by assumption) rfl (absE_cons rfl (by assumption) rfl (rfl))))⟩
  · intro x; obtain ⟨y0, y1, y2, y3, y4⟩ := x; kernel_rfl
  · intro x z; obtain ⟨y0, y1, y2, y3, y4⟩ := x; exact (And.intro (And.intro trivial rfl) trivial)

def k2g (x0 : Int) (x1 : List Int) (x2 : List (Int × Int × Int)) (x3 : List (Int × ByteArray × Int)) : Bool :=
  bif !bitsB x0 x1 then true else (↑(List.length x2) : Int) != (↑(List.length x3) : Int)

def k9c (x1 : List Int) (x2 : List (Int × Int × Int)) (x3 : List (Int × ByteArray × Int)) : Int × Int × List (Int × ByteArray × Int) × List Int × List (Int × Int × Int) :=
  ((0 : Int), (↑(List.length x3) : Int), x3, x1, x2)

def k6e (x0 : Int) (x1 : List Int) (x2 : List (Int × Int × Int)) (x3 : List (Int × ByteArray × Int)) : Bool :=
  bif k2g x0 x1 x2 x3 then false
  else
  bif Nat.beq (Prod.fst (Lp.res kq (k9c x1 x2 x3))) (0 : Nat) then false
  else true

def k68 (x0 : Int) (x1 : List Int) (x2 : List (Int × Int × Int)) (x3 : List (Int × ByteArray × Int)) : Bool :=
  allT
  [leN (List.length x1) (9223372036854775807 : Nat),
    k2g x0 x1 x2 x3 ||
      Lp.fin kq (k9c x1 x2 x3)]

def kdu : List SV → List Entry → Option Out
  | [.one ⟨true, [.ref 0, .ref 1]⟩, .one ⟨false, [.val (.int .i64 x0)]⟩, .one ⟨false, [.ref 2]⟩], [.row false 2 (.int .i64) x1, .row false 172 (.pair (.int .i64) (.pair (.int .i64) (.int .i64))) x2, .row false 178 (.pair (.int .i64) (.pair (.str) (.int .i64))) x3] => some ⟨(.one ⟨false, [(.val (.bool (k6e x0 x1 x2 x3)))]⟩), [(.row false 2 (CTy.int IntKind.i64) x1), (.row false 172 (CTy.pair (CTy.int IntKind.i64) (CTy.pair (CTy.int IntKind.i64) (CTy.int IntKind.i64))) x2), (.row false 178 (CTy.pair (CTy.int IntKind.i64) (CTy.pair CTy.str (CTy.int IntKind.i64))) x3)], [], [(k68 x0 x1 x2 x3)]⟩
  | _, _ => none

def kmu : PF Tryz.prog := PF.ofG Tryz.prog [kej, PF.lend kej, PF.fz kej, kul] [kq.F] hmix 116 Tryz.f116 Tryz.func116 (LOk.fnT (l := [loopAt Tryz.f116 0]) (by kernel_rfl) (.cons kiv (.nil _))) kdu (by
  intro vs es r h; unfold kdu at h; split at h
  · cases h; kernel_rfl
  · cases h)

def kb1 (x0 : List (Int × Int × Int)) : Bool :=
  allT
  [ltN (0 : Nat) (List.length x0), false || leN ((0 : Nat) + List.length x0) (9223372036854775807 : Nat),
    false || leN (((0 : Nat) + List.length x0) * (24 : Nat)) (140737488355328 : Nat)]

def kjh : List SV → List Entry → Option Out
  | [.one ⟨false, [.ref 0]⟩], [.row false 172 (.pair (.int .i64) (.pair (.int .i64) (.int .i64))) x0] => some ⟨(.one ⟨false, [(.ref 1)]⟩), [(.row false 172 (CTy.pair (CTy.int IntKind.i64) (CTy.pair (CTy.int IntKind.i64) (CTy.int IntKind.i64))) x0)], [(.row true 172 (CTy.pair (CTy.int IntKind.i64) (CTy.pair (CTy.int IntKind.i64) (CTy.int IntKind.i64))) x0)], [(kb1 x0)]⟩
  | _, _ => none

def kqq : PF Tryz.prog := PF.ofG Tryz.prog [] [] hmix 195 Tryz.f195 Tryz.func195 (fun c _ => LOk.nil c) kjh (by
  intro vs es r h; unfold kjh at h; split at h
  · cases h; kernel_rfl
  · cases h)

def kqc (x0 : Int) (x1 : ByteArray) (x2 : Int) (x3 : Int) (x4 : ByteArray) (x5 : Int) : Bool :=
  bif x0 != x3 then false else bif !ByteArray.toList x1 == ByteArray.toList x4 then false else bif x2 != x5 then false else true

def k11c : List SV → List Entry → Option Out
  | [.one ⟨true, [.val (.int .i64 x0), .val (.string x1), .val (.int .i64 x2)]⟩, .one ⟨true, [.val (.int .i64 x3), .val (.string x4), .val (.int .i64 x5)]⟩], [] => some ⟨(.one ⟨false, [(.val (.bool (kqc x0 x1 x2 x3 x4 x5)))]⟩), [], [], []⟩
  | _, _ => none

def k114 : PF Tryz.prog := PF.ofG Tryz.prog [] [] hmix 166 Tryz.f166 Tryz.func166 (fun c _ => LOk.nil c) k11c (by
  intro vs es r h; unfold k11c at h; split at h
  · cases h; kernel_rfl
  · cases h)

abbrev k9d := Int × List (Int × (ByteArray × Int)) × List (Int × (ByteArray × Int))

def kcj (y0 : Int) (y1 : List (Int × (ByteArray × Int))) : Int × ByteArray × Int :=
  Option.getD y1[Int.toNat y0]? ((0 : Int), ByteArray.empty, (0 : Int))

def kcs (y0 : Int) (y2 : List (Int × (ByteArray × Int))) : Int × ByteArray × Int :=
  Option.getD y2[Int.toNat y0]? ((0 : Int), ByteArray.empty, (0 : Int))

def kg4 (y0 : Int) (y1 : List (Int × (ByteArray × Int))) : Bool :=
  ltI y0 (↑(List.length y1) : Int)

def kg9 (y0 : Int) : Bool :=
  leI (0 : Int) y0

def kjd (y0 : Int) (y1 : List (Int × (ByteArray × Int))) : Bool :=
  ltN (Int.toNat y0) (List.length y1)

def kjf (y0 : Int) (y2 : List (Int × (ByteArray × Int))) : Bool :=
  ltI y0 (↑(List.length y2) : Int)

def kjv (y0 : Int) (y2 : List (Int × (ByteArray × Int))) : Bool :=
  ltN (Int.toNat y0) (List.length y2)

def kjx (y0 : Int) (y1 : List (Int × (ByteArray × Int))) (y2 : List (Int × (ByteArray × Int))) : Bool :=
  !kqc (Prod.fst (kcj y0 y1)) (Prod.fst (Prod.snd (kcj y0 y1))) (Prod.snd (Prod.snd (kcj y0 y1)))
    (Prod.fst (kcs y0 y2)) (Prod.fst (Prod.snd (kcs y0 y2))) (Prod.snd (Prod.snd (kcs y0 y2)))

def kkb (y0 : Int) : Int :=
  IntKind.wrap IntKind.i64 (y0 + (1 : Int))

def k10k : k9d → List (Nat × SV)
  | (y0, _, _) => [(5, (.one ⟨false, [(.val (.int IntKind.i64 y0))]⟩)), (0, (.one ⟨false, [(.ref 0)]⟩)), (1, (.one ⟨false, [(.ref 1)]⟩))]

def k10m : k9d → List (Nat × Entry)
  | (_, y1, y2) => [(0, (.row false 178 (CTy.pair (CTy.int IntKind.i64) (CTy.pair CTy.str (CTy.int IntKind.i64))) y1)), (1, (.row false 178 (CTy.pair (CTy.int IntKind.i64) (CTy.pair CTy.str (CTy.int IntKind.i64))) y2))]

def k110 : Nat → k9d → List (Nat × SV)
  | 0, (_, _, _) => [(4, (.one ⟨false, [(.val (.bool false))]⟩))]
  | _, (_, _, _) => []

def k10l : Nat → k9d → List (Nat × Entry)
  | 0, (_, y1, y2) => [(0, (.row false 178 (CTy.pair (CTy.int IntKind.i64) (CTy.pair CTy.str (CTy.int IntKind.i64))) y1)), (1, (.row false 178 (CTy.pair (CTy.int IntKind.i64) (CTy.pair CTy.str (CTy.int IntKind.i64))) y2))]
  | _, (_, y1, y2) => [(0, (.row false 178 (CTy.pair (CTy.int IntKind.i64) (CTy.pair CTy.str (CTy.int IntKind.i64))) y1)), (1, (.row false 178 (CTy.pair (CTy.int IntKind.i64) (CTy.pair CTy.str (CTy.int IntKind.i64))) y2))]

def kig : k9d → LT k9d
  | (y0, y1, y2) => .ite (kg4 y0 y1) (.need [(kg9 y0), (kg4 y0 y1), (kjd y0 y1), (kg9 y0), (kjf y0 y2), (kjv y0 y2)] (.ite (kjx y0 y1 y2) (.ext 0 [(0, 0), (1, 1)]) (.nrm ((kkb y0), y1, y2) [(0, 0), (1, 1)]))) (.ext 1 [(0, 0), (1, 1)])

def kpp (s : St) : Option k9d :=
  (match s.look 5 with
  | some ⟨none, (.one ⟨false, [(.val (.int IntKind.i64 y0))]⟩)⟩ =>
  (match s.look 0 with
  | some ⟨none, (.one ⟨false, [(.ref 0)]⟩)⟩ =>
  (match s.look 1 with
  | some ⟨none, (.one ⟨false, [(.ref 1)]⟩)⟩ =>
  (match s.ent 0 with
  | some (.row false 178 (CTy.pair (CTy.int IntKind.i64) (CTy.pair CTy.str (CTy.int IntKind.i64))) y1) =>
  (match s.ent 1 with
  | some (.row false 178 (CTy.pair (CTy.int IntKind.i64) (CTy.pair CTy.str (CTy.int IntKind.i64))) y2) =>
  some (y0, y1, y2)
  | _ => none)
  | _ => none)
  | _ => none)
  | _ => none)
  | _ => none)

def k3r : Lp k9d where
  h := ⟨[11, 12, 13, 14, 17, 18, 19, 20, 21, 22, 23, 24, 25, 26, 4, 15, 16, 5], [0, 1], [], []⟩
  JL := k10k
  JE := k10m
  XL := k110
  XE := k10l
  q := fun j => match j with | 0 => .ret | _ => .exit 0
  tags := [0, 1]
  lt := kig
  fuel := fun (y0, y1, y2) => y0.natAbs + y1.length + y2.length
  fix := fun (_, y1, y2) (y0, _, _) => (y0, y1, y2)
  σ := [(0, 0), (1, 1)]
  rd := kpp

theorem ky7 : LoopOk Tryz.prog (fun k => Nat.blt k Tryz.f96.ntmps) k3r.F (loopAt Tryz.f96 0) := by
  refine Lp.ok (tbl := [k114]) (lf := []) hmix k3r (by kernel_rfl) (LOk.nil _) (fun _ => rfl) (fun j _ => by unfold k3r; match j with | 0 => rfl | _ + 1 => rfl) ?_ ?_ ?_ ?_ (fun _ => rfl) ?_
  · intro x; obtain ⟨y0, y1, y2⟩ := x; kernel_rfl
  · intro x; obtain ⟨y0, y1, y2⟩ := x; kernel_rfl
  · intro s x h
    have h : kpp s = some x := h
    unfold kpp at h
    repeat' split at h
    all_goals cases h
    exact ⟨absS_cons (by assumption) rfl (absS_cons (by assumption) rfl (absS_cons (by assumption) rfl (rfl))), absE_cons rfl (by assumption) rfl (absE_cons rfl (by assumption) rfl (rfl))⟩
  · intro x; obtain ⟨y0, y1, y2⟩ := x; kernel_rfl
  · intro x z; obtain ⟨y0, y1, y2⟩ := x; exact (And.intro (And.intro trivial rfl) trivial)

def kq2 (x0 : List (Int × ByteArray × Int)) (x1 : List (Int × ByteArray × Int)) : Bool :=
  (↑(List.length x0) : Int) != (↑(List.length x1) : Int)

def kq6 (x0 : List (Int × ByteArray × Int)) (x1 : List (Int × ByteArray × Int)) : Int × List (Int × ByteArray × Int) × List (Int × ByteArray × Int) :=
  ((0 : Int), x0, x1)

def kr6 (x0 : List (Int × ByteArray × Int)) (x1 : List (Int × ByteArray × Int)) : Bool :=
  bif kq2 x0 x1 then false else bif Nat.beq (Prod.fst (Lp.res k3r (kq6 x0 x1))) (0 : Nat) then false else true

def kr8 (x0 : List (Int × ByteArray × Int)) (x1 : List (Int × ByteArray × Int)) : Bool :=
  allT [kq2 x0 x1 || Lp.fin k3r (kq6 x0 x1)]

def kzm : List SV → List Entry → Option Out
  | [.one ⟨false, [.ref 0]⟩, .one ⟨false, [.ref 1]⟩], [.row false 178 (.pair (.int .i64) (.pair (.str) (.int .i64))) x0, .row false 178 (.pair (.int .i64) (.pair (.str) (.int .i64))) x1] => some ⟨(.one ⟨false, [(.val (.bool (kr6 x0 x1)))]⟩), [(.row false 178 (CTy.pair (CTy.int IntKind.i64) (CTy.pair CTy.str (CTy.int IntKind.i64))) x0), (.row false 178 (CTy.pair (CTy.int IntKind.i64) (CTy.pair CTy.str (CTy.int IntKind.i64))) x1)], [], [(kr8 x0 x1)]⟩
  | _, _ => none

def k140 : PF Tryz.prog := PF.ofG Tryz.prog [k114] [k3r.F] hmix 96 Tryz.f96 Tryz.func96 (LOk.fnT (l := [loopAt Tryz.f96 0]) (by kernel_rfl) (.cons ky7 (.nil _))) kzm (by
  intro vs es r h; unfold kzm at h; split at h
  · cases h; kernel_rfl
  · cases h)

def kfv (x0 : Int) (x1 : Int) (x2 : Int) (x3 : Int) : Bool :=
  bif x0 != x2 then false else bif x1 != x3 then false else true

def krs : List SV → List Entry → Option Out
  | [.one ⟨true, [.val (.int .i64 x0), .val (.int .i64 x1)]⟩, .one ⟨true, [.val (.int .i64 x2), .val (.int .i64 x3)]⟩], [] => some ⟨(.one ⟨false, [(.val (.bool (kfv x0 x1 x2 x3)))]⟩), [], [], []⟩
  | _, _ => none

def krf : PF Tryz.prog := PF.ofG Tryz.prog [] [] hmix 167 Tryz.f167 Tryz.func167 (fun c _ => LOk.nil c) krs (by
  intro vs es r h; unfold krs at h; split at h
  · cases h; kernel_rfl
  · cases h)

abbrev k3f := Int × List (Int × Int) × List (Int × Int)

def k8s (y0 : Int) (y1 : List (Int × Int)) : Int × Int :=
  Option.getD y1[Int.toNat y0]? ((0 : Int), (0 : Int))

def k8v (y0 : Int) (y2 : List (Int × Int)) : Int × Int :=
  Option.getD y2[Int.toNat y0]? ((0 : Int), (0 : Int))

def k9j (y0 : Int) (y1 : List (Int × Int)) : Bool :=
  ltI y0 (↑(List.length y1) : Int)

def k9t (y0 : Int) : Bool :=
  leI (0 : Int) y0

def kbz (y0 : Int) (y1 : List (Int × Int)) : Bool :=
  ltN (Int.toNat y0) (List.length y1)

def kbj (y0 : Int) (y2 : List (Int × Int)) : Bool :=
  ltI y0 (↑(List.length y2) : Int)

def kbh (y0 : Int) (y2 : List (Int × Int)) : Bool :=
  ltN (Int.toNat y0) (List.length y2)

def kbn (y0 : Int) (y1 : List (Int × Int)) (y2 : List (Int × Int)) : Bool :=
  !kfv (Prod.fst (k8s y0 y1)) (Prod.snd (k8s y0 y1))
    (Prod.fst (k8v y0 y2)) (Prod.snd (k8v y0 y2))

def kc3 (y0 : Int) : Int :=
  IntKind.wrap IntKind.i64 (y0 + (1 : Int))

def kte : k3f → List (Nat × SV)
  | (y0, _, _) => [(5, (.one ⟨false, [(.val (.int IntKind.i64 y0))]⟩)), (0, (.one ⟨false, [(.ref 0)]⟩)), (1, (.one ⟨false, [(.ref 1)]⟩))]

def ktn : k3f → List (Nat × Entry)
  | (_, y1, y2) => [(0, (.row false 150 (CTy.pair (CTy.int IntKind.i64) (CTy.int IntKind.i64)) y1)), (1, (.row false 150 (CTy.pair (CTy.int IntKind.i64) (CTy.int IntKind.i64)) y2))]

def kth : Nat → k3f → List (Nat × SV)
  | 0, (_, _, _) => [(4, (.one ⟨false, [(.val (.bool false))]⟩))]
  | _, (_, _, _) => []

def kti : Nat → k3f → List (Nat × Entry)
  | 0, (_, y1, y2) => [(0, (.row false 150 (CTy.pair (CTy.int IntKind.i64) (CTy.int IntKind.i64)) y1)), (1, (.row false 150 (CTy.pair (CTy.int IntKind.i64) (CTy.int IntKind.i64)) y2))]
  | _, (_, y1, y2) => [(0, (.row false 150 (CTy.pair (CTy.int IntKind.i64) (CTy.int IntKind.i64)) y1)), (1, (.row false 150 (CTy.pair (CTy.int IntKind.i64) (CTy.int IntKind.i64)) y2))]

def kbb : k3f → LT k3f
  | (y0, y1, y2) => .ite (k9j y0 y1) (.need [(k9t y0), (k9j y0 y1), (kbz y0 y1), (k9t y0), (kbj y0 y2), (kbh y0 y2)] (.ite (kbn y0 y1 y2) (.ext 0 [(0, 0), (1, 1)]) (.nrm ((kc3 y0), y1, y2) [(0, 0), (1, 1)]))) (.ext 1 [(0, 0), (1, 1)])

def kif (s : St) : Option k3f :=
  (match s.look 5 with
  | some ⟨none, (.one ⟨false, [(.val (.int IntKind.i64 y0))]⟩)⟩ =>
  (match s.look 0 with
  | some ⟨none, (.one ⟨false, [(.ref 0)]⟩)⟩ =>
  (match s.look 1 with
  | some ⟨none, (.one ⟨false, [(.ref 1)]⟩)⟩ =>
  (match s.ent 0 with
  | some (.row false 150 (CTy.pair (CTy.int IntKind.i64) (CTy.int IntKind.i64)) y1) =>
  (match s.ent 1 with
  | some (.row false 150 (CTy.pair (CTy.int IntKind.i64) (CTy.int IntKind.i64)) y2) =>
  some (y0, y1, y2)
  | _ => none)
  | _ => none)
  | _ => none)
  | _ => none)
  | _ => none)

def k1y : Lp k3f where
  h := ⟨[11, 12, 13, 14, 17, 18, 19, 20, 21, 22, 23, 24, 25, 26, 4, 15, 16, 5], [0, 1], [], []⟩
  JL := kte
  JE := ktn
  XL := kth
  XE := kti
  q := fun j => match j with | 0 => .ret | _ => .exit 0
  tags := [0, 1]
  lt := kbb
  fuel := fun (y0, y1, y2) => y0.natAbs + y1.length + y2.length
  fix := fun (_, y1, y2) (y0, _, _) => (y0, y1, y2)
  σ := [(0, 0), (1, 1)]
  rd := kif

theorem ks9 : LoopOk Tryz.prog (fun k => Nat.blt k Tryz.f97.ntmps) k1y.F (loopAt Tryz.f97 0) := by
  refine Lp.ok (tbl := [krf]) (lf := []) hmix k1y (by kernel_rfl) (LOk.nil _) (fun _ => rfl) (fun j _ => by unfold k1y; match j with | 0 => rfl | _ + 1 => rfl) ?_ ?_ ?_ ?_ (fun _ => rfl) ?_
  · intro x; obtain ⟨y0, y1, y2⟩ := x; kernel_rfl
  · intro x; obtain ⟨y0, y1, y2⟩ := x; kernel_rfl
  · intro s x h
    have h : kif s = some x := h
    unfold kif at h
    repeat' split at h
    all_goals cases h
    exact ⟨absS_cons (by assumption) rfl (absS_cons (by assumption) rfl (absS_cons (by assumption) rfl (rfl))), absE_cons rfl (by assumption) rfl (absE_cons rfl (by assumption) rfl (rfl))⟩
  · intro x; obtain ⟨y0, y1, y2⟩ := x; kernel_rfl
  · intro x z; obtain ⟨y0, y1, y2⟩ := x; exact (And.intro (And.intro trivial rfl) trivial)

def kgo (x0 : List (Int × Int)) (x1 : List (Int × Int)) : Bool :=
  (↑(List.length x0) : Int) != (↑(List.length x1) : Int)

def kgz (x0 : List (Int × Int)) (x1 : List (Int × Int)) : Int × List (Int × Int) × List (Int × Int) :=
  ((0 : Int), x0, x1)

def khp (x0 : List (Int × Int)) (x1 : List (Int × Int)) : Bool :=
  bif kgo x0 x1 then false
  else bif Nat.beq (Prod.fst (Lp.res k1y (kgz x0 x1))) (0 : Nat) then false else true

def khv (x0 : List (Int × Int)) (x1 : List (Int × Int)) : Bool :=
  allT [kgo x0 x1 || Lp.fin k1y (kgz x0 x1)]

def kqt : List SV → List Entry → Option Out
  | [.one ⟨false, [.ref 0]⟩, .one ⟨false, [.ref 1]⟩], [.row false 150 (.pair (.int .i64) (.int .i64)) x0, .row false 150 (.pair (.int .i64) (.int .i64)) x1] => some ⟨(.one ⟨false, [(.val (.bool (khp x0 x1)))]⟩), [(.row false 150 (CTy.pair (CTy.int IntKind.i64) (CTy.int IntKind.i64)) x0), (.row false 150 (CTy.pair (CTy.int IntKind.i64) (CTy.int IntKind.i64)) x1)], [], [(khv x0 x1)]⟩
  | _, _ => none

def kwx : PF Tryz.prog := PF.ofG Tryz.prog [krf] [k1y.F] hmix 97 Tryz.f97 Tryz.func97 (LOk.fnT (l := [loopAt Tryz.f97 0]) (by kernel_rfl) (.cons ks9 (.nil _))) kqt (by
  intro vs es r h; unfold kqt at h; split at h
  · cases h; kernel_rfl
  · cases h)

abbrev kba := Int × ByteArray

def kaa (y0 : Int) : ByteArray :=
  strOfNums [IntKind.wrap IntKind.u8 (IntKind.wrap IntKind.i64 ((48 : Int) + Int.tmod y0 (10 : Int)))]

def kmj (y0 : Int) : Bool :=
  ltI (0 : Int) y0

def kp9  : Bool :=
  neI (10 : Int) (0 : Int)

def ktg (y0 : Int) (y1 : ByteArray) : Bool :=
  leN (ByteArray.size (kaa y0) + ByteArray.size y1) (9223372036854775807 : Nat)

def ktl (y0 : Int) : Int :=
  IntKind.wrap IntKind.i64 (Int.tdiv y0 (10 : Int))

def ktj (y0 : Int) (y1 : ByteArray) : ByteArray :=
  kaa y0 ++ y1

def kyu : kba → List (Nat × SV)
  | (y0, y1) => [(0, (.one ⟨false, [(.val (.int IntKind.i64 y0))]⟩)), (3, (.one ⟨false, [(.val (.string y1))]⟩))]

def k101 : kba → List (Nat × Entry)
  | (_, _) => []

def kz9 : Nat → kba → List (Nat × SV)
  | _, (y0, y1) => [(3, (.one ⟨false, [(.val (.string y1))]⟩)), (0, (.one ⟨false, [(.val (.int IntKind.i64 y0))]⟩))]

def k100 : Nat → kba → List (Nat × Entry)
  | _, (_, _) => []

def kl0 : kba → LT kba
  | (y0, y1) => .ite (kmj y0) (.need [(kp9), (ktg y0 y1)] (.need [(kp9)] (.nrm ((ktl y0), (ktj y0 y1)) []))) (.ext 0 [])

def kp3 (s : St) : Option kba :=
  (match s.look 0 with
  | some ⟨none, (.one ⟨false, [(.val (.int IntKind.i64 y0))]⟩)⟩ =>
  (match s.look 3 with
  | some ⟨none, (.one ⟨false, [(.val (.string y1))]⟩)⟩ =>
  some (y0, y1)
  | _ => none)
  | _ => none)

def k5r : Lp kba where
  h := ⟨[6, 7, 8, 9, 10, 11, 12, 13, 14, 15, 3, 16, 17, 0], [], [], []⟩
  JL := kyu
  JE := k101
  XL := kz9
  XE := k100
  q := fun j => match j with | _ => .exit 0
  tags := [0]
  lt := kl0
  fuel := fun (y0, y1) => y0.natAbs + y1.size
  fix := fun (_, _) (y0, y1) => (y0, y1)
  σ := []
  rd := kp3

theorem kwf : LoopOk Tryz.prog (fun k => Nat.blt k Tryz.f168.ntmps) k5r.F (loopAt Tryz.f168 0) := by
  refine Lp.ok (tbl := []) (lf := []) hmix k5r (by kernel_rfl) (LOk.nil _) (fun _ => rfl) (fun _ _ => rfl) ?_ ?_ ?_ ?_ (fun _ => rfl) ?_
  · intro x; obtain ⟨y0, y1⟩ := x; kernel_rfl
  · intro x; obtain ⟨y0, y1⟩ := x; kernel_rfl
  · intro s x h
    have h : kp3 s = some x := h
    unfold kp3 at h
    repeat' split at h
    all_goals cases h
    exact ⟨absS_cons (by assumption) rfl (absS_cons (by assumption) rfl (rfl)), rfl⟩
  · intro x; obtain ⟨y0, y1⟩ := x; kernel_rfl
  · intro x z; obtain ⟨y0, y1⟩ := x; exact (And.intro rfl trivial)

def krn (x0 : Int) : ByteArray :=
  Prod.snd (Prod.snd (Lp.res k5r (x0, { data := #[] })))

def kko (x0 : Int) : ByteArray :=
  bif leI x0 (0 : Int) then { data := #[(109 : UInt8), (48 : UInt8)] } else { data := #[(109 : UInt8)] } ++ krn x0

def kne (x0 : Int) : Bool :=
  allT
  [leI x0 (0 : Int) || Lp.fin k5r (x0, { data := #[] }),
    leI x0 (0 : Int) || leN (ByteArray.size { data := #[(109 : UInt8)] } + ByteArray.size (krn x0)) (9223372036854775807 : Nat)]

def kx7 : List SV → List Entry → Option Out
  | [.one ⟨false, [.val (.int .i64 x0)]⟩], [] => some ⟨(.one ⟨false, [(.val (.string (kko x0)))]⟩), [], [], [(kne x0)]⟩
  | _, _ => none

def kxm : PF Tryz.prog := PF.ofG Tryz.prog [] [k5r.F] hmix 168 Tryz.f168 Tryz.func168 (LOk.fnT (l := [loopAt Tryz.f168 0]) (by kernel_rfl) (.cons kwf (.nil _))) kx7 (by
  intro vs es r h; unfold kx7 at h; split at h
  · cases h; kernel_rfl
  · cases h)

abbrev k71 := Int × Int × List (Int × (ByteArray × Int))

def kb2 (y1 : Int) : Int :=
  IntKind.wrap IntKind.i64 (y1 + (1 : Int))

def kcr (y0 : Int) (y2 : List (Int × (ByteArray × Int))) : ByteArray × Int :=
  Prod.snd (Option.getD y2[Int.toNat y0]? ((0 : Int), ByteArray.empty, (0 : Int)))

def k8y (y0 : Int) (y1 : Int) (y2 : List (Int × (ByteArray × Int))) : List (Int × ByteArray × Int) :=
  List.set y2 (Int.toNat y0) (y1, Prod.fst (kcr y0 y2), Prod.snd (kcr y0 y2))

def kd1 (y0 : Int) (y1 : Int) (y2 : List (Int × (ByteArray × Int))) : Int × ByteArray × Int :=
  Option.getD (k8y y0 y1 y2)[Int.toNat y0]? ((0 : Int), ByteArray.empty, (0 : Int))

def k93 (y0 : Int) (y1 : Int) (y2 : List (Int × (ByteArray × Int))) : List (Int × ByteArray × Int) :=
  List.set (k8y y0 y1 y2) (Int.toNat y0)
  (Prod.fst (kd1 y0 y1 y2), kko (kb2 y1), Prod.snd (Prod.snd (kd1 y0 y1 y2)))

def kci (y1 : Int) : Int :=
  IntKind.wrap IntKind.i64 (kb2 y1 + (1 : Int))

def kcy (y0 : Int) (y1 : Int) (y2 : List (Int × (ByteArray × Int))) : Int × ByteArray × Int :=
  Option.getD (k93 y0 y1 y2)[Int.toNat y0]? ((0 : Int), ByteArray.empty, (0 : Int))

def kdn (y0 : Int) (y2 : List (Int × (ByteArray × Int))) : Bool :=
  ltI y0 (↑(List.length y2) : Int)

def kbw (y0 : Int) : Bool :=
  leI (0 : Int) y0

def khg (y0 : Int) (y2 : List (Int × (ByteArray × Int))) : Bool :=
  ltN (Int.toNat y0) (List.length y2)

def kgf (y1 : Int) : Bool :=
  kne (kb2 y1)

def kgx (y0 : Int) (y1 : Int) (y2 : List (Int × (ByteArray × Int))) : Bool :=
  ltI y0 (↑(List.length (k8y y0 y1 y2)) : Int)

def kh8 (y0 : Int) (y1 : Int) (y2 : List (Int × (ByteArray × Int))) : Bool :=
  ltN (Int.toNat y0) (List.length (k8y y0 y1 y2))

def kha (y0 : Int) (y1 : Int) (y2 : List (Int × (ByteArray × Int))) : Bool :=
  ltI y0 (↑(List.length (k93 y0 y1 y2)) : Int)

def kgy (y0 : Int) (y1 : Int) (y2 : List (Int × (ByteArray × Int))) : Bool :=
  ltN (Int.toNat y0) (List.length (k93 y0 y1 y2))

def khd (y0 : Int) : Int :=
  IntKind.wrap IntKind.i64 (y0 + (1 : Int))

def kh1 (y1 : Int) : Int :=
  IntKind.wrap IntKind.i64 (kci y1 + (1 : Int))

def kfu (y0 : Int) (y1 : Int) (y2 : List (Int × (ByteArray × Int))) : List (Int × (ByteArray × Int)) :=
  List.set (k93 y0 y1 y2) (Int.toNat y0)
  (Prod.fst (kcy y0 y1 y2), Prod.fst (Prod.snd (kcy y0 y1 y2)), kci y1)

def kyb : k71 → List (Nat × SV)
  | (y0, y1, _) => [(5, (.one ⟨false, [(.val (.int IntKind.i64 y0))]⟩)), (0, (.one ⟨false, [(.ref 0)]⟩)), (1, (.one ⟨false, [(.val (.int IntKind.i64 y1))]⟩))]

def kxz : k71 → List (Nat × Entry)
  | (_, _, y2) => [(0, (.row true 178 (CTy.pair (CTy.int IntKind.i64) (CTy.pair CTy.str (CTy.int IntKind.i64))) y2))]

def kyf : Nat → k71 → List (Nat × SV)
  | _, (_, y1, _) => [(1, (.one ⟨false, [(.val (.int IntKind.i64 y1))]⟩))]

def ky4 : Nat → k71 → List (Nat × Entry)
  | _, (_, _, y2) => [(0, (.row true 178 (CTy.pair (CTy.int IntKind.i64) (CTy.pair CTy.str (CTy.int IntKind.i64))) y2))]

def kfj : k71 → LT k71
  | (y0, y1, y2) => .ite (kdn y0 y2) (.need [(kbw y0), (kdn y0 y2), (khg y0 y2)] (.need [(kgf y1), (kbw y0), (kgx y0 y1 y2), (kh8 y0 y1 y2)] (.need [(kbw y0), (kha y0 y1 y2), (kgy y0 y1 y2)] (.nrm ((khd y0), (kh1 y1), (kfu y0 y1 y2)) [(0, 0)])))) (.ext 0 [(0, 0)])

def knv (s : St) : Option k71 :=
  (match s.look 5 with
  | some ⟨none, (.one ⟨false, [(.val (.int IntKind.i64 y0))]⟩)⟩ =>
  (match s.look 0 with
  | some ⟨none, (.one ⟨false, [(.ref 0)]⟩)⟩ =>
  (match s.look 1 with
  | some ⟨none, (.one ⟨false, [(.val (.int IntKind.i64 y1))]⟩)⟩ =>
  (match s.ent 0 with
  | some (.row true 178 (CTy.pair (CTy.int IntKind.i64) (CTy.pair CTy.str (CTy.int IntKind.i64))) y2) =>
  some (y0, y1, y2)
  | _ => none)
  | _ => none)
  | _ => none)
  | _ => none)

def k3a : Lp k71 where
  h := ⟨[6, 7, 8, 9, 12, 13, 14, 15, 16, 17, 18, 1, 19, 20, 21, 22, 23, 24, 25, 26, 27, 28, 29, 30, 31, 32, 33, 10, 11, 5], [0], [], []⟩
  JL := kyb
  JE := kxz
  XL := kyf
  XE := ky4
  q := fun j => match j with | _ => .exit 0
  tags := [0]
  lt := kfj
  fuel := fun (y0, y1, y2) => y0.natAbs + y1.natAbs + y2.length
  fix := fun (_, _, _) (y0, y1, y2) => (y0, y1, y2)
  σ := [(0, 0)]
  rd := knv

theorem kvb : LoopOk Tryz.prog (fun k => Nat.blt k Tryz.f98.ntmps) k3a.F (loopAt Tryz.f98 0) := by
  refine Lp.ok (tbl := [kxm]) (lf := []) hmix k3a (by kernel_rfl) (LOk.nil _) (fun _ => rfl) (fun _ _ => rfl) ?_ ?_ ?_ ?_ (fun _ => rfl) ?_
  · intro x; obtain ⟨y0, y1, y2⟩ := x; kernel_rfl
  · intro x; obtain ⟨y0, y1, y2⟩ := x; kernel_rfl
  · intro s x h
    have h : knv s = some x := h
    unfold knv at h
    repeat' split at h
    all_goals cases h
    exact ⟨absS_cons (by assumption) rfl (absS_cons (by assumption) rfl (absS_cons (by assumption) rfl (rfl))), absE_cons rfl (by assumption) rfl (rfl)⟩
  · intro x; obtain ⟨y0, y1, y2⟩ := x; kernel_rfl
  · intro x z; obtain ⟨y0, y1, y2⟩ := x; exact (And.intro rfl trivial)

def kni (x0 : Int) (x1 : List (Int × ByteArray × Int)) : Int × Int × List (Int × ByteArray × Int) :=
  ((0 : Int), x0, x1)

def kqi (x0 : Int) (x1 : List (Int × ByteArray × Int)) : Int × List (Int × ByteArray × Int) :=
  Prod.snd (Prod.snd (Lp.res k3a (kni x0 x1)))

def ks3 (x0 : Int) (x1 : List (Int × ByteArray × Int)) : Int :=
  Prod.fst (kqi x0 x1)

def krz (x0 : Int) (x1 : List (Int × ByteArray × Int)) : List (Int × (ByteArray × Int)) :=
  Prod.snd (kqi x0 x1)

def krk (x0 : Int) (x1 : List (Int × ByteArray × Int)) : Bool :=
  allT [Lp.fin k3a (kni x0 x1)]

def kw5 : List SV → List Entry → Option Out
  | [.one ⟨false, [.ref 0]⟩, .one ⟨false, [.val (.int .i64 x0)]⟩], [.row true 178 (.pair (.int .i64) (.pair (.str) (.int .i64))) x1] => some ⟨(.one ⟨false, [(.val (.int IntKind.i64 (ks3 x0 x1)))]⟩), [(.row true 178 (CTy.pair (CTy.int IntKind.i64) (CTy.pair CTy.str (CTy.int IntKind.i64))) (krz x0 x1))], [], [(krk x0 x1)]⟩
  | _, _ => none

def k12k : PF Tryz.prog := PF.ofG Tryz.prog [kxm] [k3a.F] hmix 98 Tryz.f98 Tryz.func98 (LOk.fnT (l := [loopAt Tryz.f98 0]) (by kernel_rfl) (.cons kvb (.nil _))) kw5 (by
  intro vs es r h; unfold kw5 at h; split at h
  · cases h; kernel_rfl
  · cases h)

abbrev k2n := Int × Int × List (Int × Int)

def k44 (y0 : Int) (y1 : Int) (y2 : List (Int × Int)) : List (Int × Int) :=
  List.set y2 (Int.toNat y0) (y1, Prod.snd (Option.getD y2[Int.toNat y0]? ((0 : Int), (0 : Int))))

def k7l (y1 : Int) : Int :=
  IntKind.wrap IntKind.i64 (y1 + (1 : Int))

def k89 (y0 : Int) (y2 : List (Int × Int)) : Bool :=
  ltI y0 (↑(List.length y2) : Int)

def k88 (y0 : Int) : Bool :=
  leI (0 : Int) y0

def kah (y0 : Int) (y2 : List (Int × Int)) : Bool :=
  ltN (Int.toNat y0) (List.length y2)

def kag (y0 : Int) (y1 : Int) (y2 : List (Int × Int)) : Bool :=
  ltI y0 (↑(List.length (k44 y0 y1 y2)) : Int)

def kat (y0 : Int) (y1 : Int) (y2 : List (Int × Int)) : Bool :=
  ltN (Int.toNat y0) (List.length (k44 y0 y1 y2))

def kan (y0 : Int) : Int :=
  IntKind.wrap IntKind.i64 (y0 + (1 : Int))

def kam (y1 : Int) : Int :=
  IntKind.wrap IntKind.i64 (k7l y1 + (1 : Int))

def kaw (y0 : Int) (y1 : Int) (y2 : List (Int × Int)) : List (Int × Int) :=
  List.set (k44 y0 y1 y2) (Int.toNat y0)
  (Prod.fst (Option.getD (k44 y0 y1 y2)[Int.toNat y0]? ((0 : Int), (0 : Int))), k7l y1)

def ksc : k2n → List (Nat × SV)
  | (y0, y1, _) => [(5, (.one ⟨false, [(.val (.int IntKind.i64 y0))]⟩)), (0, (.one ⟨false, [(.ref 0)]⟩)), (1, (.one ⟨false, [(.val (.int IntKind.i64 y1))]⟩))]

def ks8 : k2n → List (Nat × Entry)
  | (_, _, y2) => [(0, (.row true 150 (CTy.pair (CTy.int IntKind.i64) (CTy.int IntKind.i64)) y2))]

def ksb : Nat → k2n → List (Nat × SV)
  | _, (_, y1, _) => [(1, (.one ⟨false, [(.val (.int IntKind.i64 y1))]⟩))]

def ksa : Nat → k2n → List (Nat × Entry)
  | _, (_, _, y2) => [(0, (.row true 150 (CTy.pair (CTy.int IntKind.i64) (CTy.int IntKind.i64)) y2))]

def k9z : k2n → LT k2n
  | (y0, y1, y2) => .ite (k89 y0 y2) (.need [(k88 y0), (k89 y0 y2), (kah y0 y2)] (.need [(k88 y0), (kag y0 y1 y2), (kat y0 y1 y2)] (.nrm ((kan y0), (kam y1), (kaw y0 y1 y2)) [(0, 0)]))) (.ext 0 [(0, 0)])

def kg0 (s : St) : Option k2n :=
  (match s.look 5 with
  | some ⟨none, (.one ⟨false, [(.val (.int IntKind.i64 y0))]⟩)⟩ =>
  (match s.look 0 with
  | some ⟨none, (.one ⟨false, [(.ref 0)]⟩)⟩ =>
  (match s.look 1 with
  | some ⟨none, (.one ⟨false, [(.val (.int IntKind.i64 y1))]⟩)⟩ =>
  (match s.ent 0 with
  | some (.row true 150 (CTy.pair (CTy.int IntKind.i64) (CTy.int IntKind.i64)) y2) =>
  some (y0, y1, y2)
  | _ => none)
  | _ => none)
  | _ => none)
  | _ => none)

def k1x : Lp k2n where
  h := ⟨[6, 7, 8, 9, 12, 13, 14, 15, 16, 17, 18, 1, 19, 20, 21, 22, 23, 24, 25, 10, 11, 5], [0], [], []⟩
  JL := ksc
  JE := ks8
  XL := ksb
  XE := ksa
  q := fun j => match j with | _ => .exit 0
  tags := [0]
  lt := k9z
  fuel := fun (y0, y1, y2) => y0.natAbs + y1.natAbs + y2.length
  fix := fun (_, _, _) (y0, y1, y2) => (y0, y1, y2)
  σ := [(0, 0)]
  rd := kg0

theorem kr5 : LoopOk Tryz.prog (fun k => Nat.blt k Tryz.f99.ntmps) k1x.F (loopAt Tryz.f99 0) := by
  refine Lp.ok (tbl := []) (lf := []) hmix k1x (by kernel_rfl) (LOk.nil _) (fun _ => rfl) (fun _ _ => rfl) ?_ ?_ ?_ ?_ (fun _ => rfl) ?_
  · intro x; obtain ⟨y0, y1, y2⟩ := x; kernel_rfl
  · intro x; obtain ⟨y0, y1, y2⟩ := x; kernel_rfl
  · intro s x h
    have h : kg0 s = some x := h
    unfold kg0 at h
    repeat' split at h
    all_goals cases h
    exact ⟨absS_cons (by assumption) rfl (absS_cons (by assumption) rfl (absS_cons (by assumption) rfl (rfl))), absE_cons rfl (by assumption) rfl (rfl)⟩
  · intro x; obtain ⟨y0, y1, y2⟩ := x; kernel_rfl
  · intro x z; obtain ⟨y0, y1, y2⟩ := x; exact (And.intro rfl trivial)

def kei (x0 : Int) (x1 : List (Int × Int)) : Int × Int × List (Int × Int) :=
  ((0 : Int), x0, x1)

def kj9 (x0 : Int) (x1 : List (Int × Int)) : Int × List (Int × Int) :=
  Prod.snd (Prod.snd (Lp.res k1x (kei x0 x1)))

def kkt (x0 : Int) (x1 : List (Int × Int)) : Int :=
  Prod.fst (kj9 x0 x1)

def kky (x0 : Int) (x1 : List (Int × Int)) : List (Int × Int) :=
  Prod.snd (kj9 x0 x1)

def kku (x0 : Int) (x1 : List (Int × Int)) : Bool :=
  allT [Lp.fin k1x (kei x0 x1)]

def kp6 : List SV → List Entry → Option Out
  | [.one ⟨false, [.ref 0]⟩, .one ⟨false, [.val (.int .i64 x0)]⟩], [.row true 150 (.pair (.int .i64) (.int .i64)) x1] => some ⟨(.one ⟨false, [(.val (.int IntKind.i64 (kkt x0 x1)))]⟩), [(.row true 150 (CTy.pair (CTy.int IntKind.i64) (CTy.int IntKind.i64)) (kky x0 x1))], [], [(kku x0 x1)]⟩
  | _, _ => none

def kuz : PF Tryz.prog := PF.ofG Tryz.prog [] [k1x.F] hmix 99 Tryz.f99 Tryz.func99 (LOk.fnT (l := [loopAt Tryz.f99 0]) (by kernel_rfl) (.cons kr5 (.nil _))) kp6 (by
  intro vs es r h; unfold kp6 at h; split at h
  · cases h; kernel_rfl
  · cases h)

end Go.SX

namespace Go.SX
open Go.Proofs
set_option maxRecDepth 100000

/-- A block's state. -/
abbrev BS := Int × Int × Int

def nextB (k n : Int) (l : List Int) (s : BS) : BS := (k5n k n s.1 s.2.1 s.2.2 l, k5u k s.2.1 s.2.2 l, k5w k n s.1 s.2.2 l)
def valB (k n : Int) (l : List Int) (s : BS) : Int := k40 k n s.1 s.2.1 s.2.2 l

theorem k16p {k n a b c : Int} {s : ByteArray} {l : List Int} (hB : blockB k s n = true) (hP : possB k n a b c = true) (hA : bitsB (takesK k) l = true) :
    (kkj k n a b c l, kki k b c l, kkl k n a b c l) = nextB k n l (a, b, c) ∧ possB k n (nextB k n l (a, b, c)).1 (nextB k n l (a, b, c)).2.1 (nextB k n l (a, b, c)).2.2 = true := by
  obtain ⟨_, e1, e2, e3, _, _, e6⟩ := k15k hB hP hA
  exact ⟨by rw [e1, e2, e3]; rfl, e6⟩

end Go.SX

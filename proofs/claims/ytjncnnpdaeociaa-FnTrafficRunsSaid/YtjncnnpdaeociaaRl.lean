/- What functions of the program come to, row by row (made by a program of the workplace). -/
import Derived.Test.YtjncnnpdaeociaaTXh
import Derived.Test.YtjncnnpdaeociaaProg
import Derived.Test.YtjncnnpdaeociaaNk
namespace Go.SX
open Go.Proofs
set_option maxRecDepth 100000

def spec_l11Permits_a0 (x1 : Int) (x2 : List Int) : Int :=
  Option.getD x2[Int.toNat x1]? (0 : Int)

def spec_l11Permits_a1 (x1 : Int) (x2 : List Int) : Bool :=
  Int.tmod (spec_l11Permits_a0 x1 x2) (3 : Int) != (1 : Int)

def spec_l11Permits_a2 (x0 : Int) (x1 : Int) (x2 : List Int) : Int :=
  Int.tmod (IntKind.wrap IntKind.i64 (IntKind.wrap IntKind.i64 (Int.tdiv (spec_l11Permits_a0 x1 x2) (3 : Int)) + (1 : Int))) x0

def spec_l11Permits_a3 (x0 : Int) (x1 : Int) (x2 : List Int) : Bool :=
  !(!spec_l11Permits_a1 x1 x2 && true) || leI (0 : Int) (spec_l11Permits_a2 x0 x1 x2)

def spec_l11Permits_0 (x0 : Int) (x1 : Int) (x2 : List Int) (x3 : List Int) (x4 : List Int) : Bool :=
  bif spec_l11Permits_a1 x1 x2 then true
  else
  IntKind.wrap IntKind.i64
      (Option.getD x3[Int.toNat (spec_l11Permits_a2 x0 x1 x2)]? (0 : Int) + Option.getD x4[Int.toNat (spec_l11Permits_a2 x0 x1 x2)]? (0 : Int)) ==
    (0 : Int)

def spec_l11Permits_1 (x0 : Int) (x1 : Int) (x2 : List Int) (x3 : List Int) (x4 : List Int) : Bool :=
  allT
  [leI (0 : Int) x1, ltI x1 (↑(List.length x2) : Int), ltN (Int.toNat x1) (List.length x2), neI x0 (0 : Int), leI (0 : Int) x1,
    ltI x1 (↑(List.length x2) : Int), ltN (Int.toNat x1) (List.length x2), spec_l11Permits_a3 x0 x1 x2,
    !(!spec_l11Permits_a1 x1 x2 && true) || ltI (spec_l11Permits_a2 x0 x1 x2) (↑(List.length x3) : Int),
    !(!spec_l11Permits_a1 x1 x2 && true) || ltN (Int.toNat (spec_l11Permits_a2 x0 x1 x2)) (List.length x3), spec_l11Permits_a3 x0 x1 x2,
    !(!spec_l11Permits_a1 x1 x2 && true) || ltI (spec_l11Permits_a2 x0 x1 x2) (↑(List.length x4) : Int),
    !(!spec_l11Permits_a1 x1 x2 && true) || ltN (Int.toNat (spec_l11Permits_a2 x0 x1 x2)) (List.length x4)]

def F_spec_l11Permits : List SV → List Entry → Option Out
  | [.one ⟨true, [.val (.int .i64 x0), .ref 0]⟩, .one ⟨true, [.ref 1, .ref 2]⟩, .one ⟨false, [.val (.int .i64 x1)]⟩], [.row false 2 (.int .i64) x2, .row false 2 (.int .i64) x3, .row false 2 (.int .i64) x4] => some ⟨(.one ⟨false, [(.val (.bool (spec_l11Permits_0 x0 x1 x2 x3 x4)))]⟩), [(.row false 2 (CTy.int IntKind.i64) x2), (.row false 2 (CTy.int IntKind.i64) x3), (.row false 2 (CTy.int IntKind.i64) x4)], [], [(spec_l11Permits_1 x0 x1 x2 x3 x4)]⟩
  | _, _ => none

def p_spec_l11Permits : PF Try.prog := PF.ofG Try.prog [] [] hmix 138 Try.f138 Try.func138 (fun c _ => LOk.nil c) F_spec_l11Permits (by
  intro vs es r h; unfold F_spec_l11Permits at h; split at h
  · cases h; kernel_rfl
  · cases h)

abbrev X_spec_l11Channel_l0 := Int × Int × List Int × List Int

def spec_l11Channel_l0_a0 (y0 : Int) (y1 : Int) (y3 : List Int) : List Int :=
  [ifLt (↑(cntB y1 y3 y0) : Int) (1 : Int) (↑(cntB y1 y3 y0) : Int) (1 : Int)]

def spec_l11Channel_l0_0 (y0 : Int) (y1 : Int) : Bool :=
  ltI y0 y1

def spec_l11Channel_l0_1 (y1 : Int) (y3 : List Int) : Bool :=
  isT y1 y3

def spec_l11Channel_l0_2 (y0 : Int) (y1 : Int) (y2 : List Int) (y3 : List Int) : Bool :=
  leN (List.length y2 + List.length (spec_l11Channel_l0_a0 y0 y1 y3)) (9223372036854775807 : Nat)

def spec_l11Channel_l0_3 (y0 : Int) (y1 : Int) (y2 : List Int) (y3 : List Int) : Bool :=
  leN ((List.length y2 + List.length (spec_l11Channel_l0_a0 y0 y1 y3)) * (8 : Nat)) (140737488355328 : Nat)

def spec_l11Channel_l0_4 (y0 : Int) : Int :=
  IntKind.wrap IntKind.i64 (y0 + (1 : Int))

def spec_l11Channel_l0_5 (y0 : Int) (y1 : Int) (y2 : List Int) (y3 : List Int) : List Int :=
  y2 ++ spec_l11Channel_l0_a0 y0 y1 y3

def JL_spec_l11Channel_l0 : X_spec_l11Channel_l0 → List (Nat × SV)
  | (y0, _, _, _) => [(8, (.one ⟨false, [(.val (.int IntKind.i64 y0))]⟩)), (3, (.one ⟨false, [(.ptr 0 0)]⟩)), (7, (.one ⟨false, [(.ref 1)]⟩))]

def JE_spec_l11Channel_l0 : X_spec_l11Channel_l0 → List (Nat × Entry)
  | (_, y1, y2, y3) => [(0, (.box 26 [(.val (.int IntKind.i64 y1)), (.ref 2)])), (2, (.row false 2 (CTy.int IntKind.i64) y3)), (1, (.row true 2 (CTy.int IntKind.i64) y2))]

def XL_spec_l11Channel_l0 : Nat → X_spec_l11Channel_l0 → List (Nat × SV)
  | _, (_, _, _, _) => [(7, (.one ⟨false, [(.ref 1)]⟩))]

def XE_spec_l11Channel_l0 : Nat → X_spec_l11Channel_l0 → List (Nat × Entry)
  | _, (_, y1, y2, y3) => [(0, (.box 26 [(.val (.int IntKind.i64 y1)), (.ref 2)])), (1, (.row true 2 (CTy.int IntKind.i64) y2)), (2, (.row false 2 (CTy.int IntKind.i64) y3))]

def lt_spec_l11Channel_l0 : X_spec_l11Channel_l0 → LT X_spec_l11Channel_l0
  | (y0, y1, y2, y3) => .ite (spec_l11Channel_l0_0 y0 y1) (.need [(spec_l11Channel_l0_1 y1 y3), (spec_l11Channel_l0_2 y0 y1 y2 y3), (spec_l11Channel_l0_3 y0 y1 y2 y3)] (.nrm ((spec_l11Channel_l0_4 y0), y1, (spec_l11Channel_l0_5 y0 y1 y2 y3), y3) [(0, 0), (1, 704), (2, 2)])) (.ext 0 [(0, 0), (1, 1), (2, 2)])

def rd_spec_l11Channel_l0 (s : St) : Option X_spec_l11Channel_l0 :=
  (match s.look 8 with
  | some ⟨none, (.one ⟨false, [(.val (.int IntKind.i64 y0))]⟩)⟩ =>
  (match s.look 3 with
  | some ⟨none, (.one ⟨false, [(.ptr 192 0)]⟩)⟩ =>
  (match s.look 7 with
  | some ⟨none, (.one ⟨false, [(.ref 320)]⟩)⟩ =>
  (match s.ent 192 with
  | some (.box 26 [(.val (.int IntKind.i64 y1)), (.ref 0)]) =>
  (match s.ent 0 with
  | some (.row false 2 (CTy.int IntKind.i64) y3) =>
  (match s.ent 320 with
  | some (.row true 2 (CTy.int IntKind.i64) y2) =>
  some (y0, y1, y2, y3)
  | _ => none)
  | _ => none)
  | _ => none)
  | _ => none)
  | _ => none)
  | _ => none)

def lp_spec_l11Channel_l0 : Lp X_spec_l11Channel_l0 where
  h := ⟨[11, 12, 13, 14, 17, 18, 19, 20, 21, 22, 23, 7, 15, 16, 8], [0, 2], [1], []⟩
  JL := JL_spec_l11Channel_l0
  JE := JE_spec_l11Channel_l0
  XL := XL_spec_l11Channel_l0
  XE := XE_spec_l11Channel_l0
  q := fun j => match j with | _ => .exit 0
  tags := [0]
  lt := lt_spec_l11Channel_l0
  fuel := fun (y0, y1, y2, y3) => y0.natAbs + y1.natAbs + y2.length + y3.length
  fix := fun (_, y1, _, y3) (y0, _, y2, _) => (y0, y1, y2, y3)
  σ := [(0, 192), (2, 0), (1, 320)]
  rd := rd_spec_l11Channel_l0

theorem lpok_spec_l11Channel_l0 : LoopOk Try.prog (fun k => Nat.blt k Try.f161.ntmps) lp_spec_l11Channel_l0.F (loopAt Try.f161 0) := by
  refine Lp.ok (tbl := [n_spec_l10Count, PF.lend n_spec_l10Count, PF.fz n_spec_l10Count]) (lf := []) hmix lp_spec_l11Channel_l0 (by kernel_rfl) (LOk.nil _) (fun _ => rfl) (fun _ _ => rfl) ?_ ?_ ?_ ?_ (fun _ => rfl) ?_
  · intro x; obtain ⟨y0, y1, y2, y3⟩ := x; kernel_rfl
  · intro x; obtain ⟨y0, y1, y2, y3⟩ := x; kernel_rfl
  · intro s x h
    have h : rd_spec_l11Channel_l0 s = some x := h
    unfold rd_spec_l11Channel_l0 at h
    repeat' split at h
    all_goals cases h
    exact ⟨absS_cons (by assumption) rfl (absS_cons (by assumption) rfl (absS_cons (by assumption) rfl (rfl))), absE_cons rfl (by assumption) rfl (absE_cons rfl (by assumption) rfl (absE_cons rfl (by assumption) rfl (rfl)))⟩
  · intro x; obtain ⟨y0, y1, y2, y3⟩ := x; kernel_rfl
  · intro x z; obtain ⟨y0, y1, y2, y3⟩ := x; exact (And.intro rfl trivial)

abbrev X_spec_l11Channel_l1 := Int × Int × List (Int × (Int × Int)) × List Int

def spec_l11Channel_l1_a0 (y0 : Int) (y2 : List (Int × (Int × Int))) : Int × Int × Int :=
  Option.getD y2[Int.toNat y0]? ((0 : Int), (0 : Int), (0 : Int))

def spec_l11Channel_l1_a1 (y0 : Int) (y1 : Int) (y2 : List (Int × (Int × Int))) : Bool :=
  Prod.fst (Prod.snd (spec_l11Channel_l1_a0 y0 y2)) == y1

def spec_l11Channel_l1_0 (y0 : Int) (y2 : List (Int × (Int × Int))) : Bool :=
  ltI y0 (↑(List.length y2) : Int)

def spec_l11Channel_l1_1 (y0 : Int) : Bool :=
  leI (0 : Int) y0

def spec_l11Channel_l1_2 (y0 : Int) (y2 : List (Int × (Int × Int))) : Bool :=
  ltN (Int.toNat y0) (List.length y2)

def spec_l11Channel_l1_3 (y0 : Int) (y1 : Int) (y2 : List (Int × (Int × Int))) : Bool :=
  !spec_l11Channel_l1_a1 y0 y1 y2 || leI (0 : Int) y0

def spec_l11Channel_l1_4 (y0 : Int) (y1 : Int) (y2 : List (Int × (Int × Int))) : Bool :=
  !spec_l11Channel_l1_a1 y0 y1 y2 || ltI y0 (↑(List.length y2) : Int)

def spec_l11Channel_l1_5 (y0 : Int) (y1 : Int) (y2 : List (Int × (Int × Int))) : Bool :=
  !spec_l11Channel_l1_a1 y0 y1 y2 || ltN (Int.toNat y0) (List.length y2)

def spec_l11Channel_l1_6 (y0 : Int) (y1 : Int) (y2 : List (Int × (Int × Int))) : Bool :=
  !spec_l11Channel_l1_a1 y0 y1 y2 || leI (0 : Int) (Prod.fst (spec_l11Channel_l1_a0 y0 y2))

def spec_l11Channel_l1_7 (y0 : Int) (y1 : Int) (y2 : List (Int × (Int × Int))) (y3 : List Int) : Bool :=
  !spec_l11Channel_l1_a1 y0 y1 y2 || ltI (Prod.fst (spec_l11Channel_l1_a0 y0 y2)) (↑(List.length y3) : Int)

def spec_l11Channel_l1_8 (y0 : Int) (y1 : Int) (y2 : List (Int × (Int × Int))) (y3 : List Int) : Bool :=
  !spec_l11Channel_l1_a1 y0 y1 y2 || ltN (Int.toNat (Prod.fst (spec_l11Channel_l1_a0 y0 y2))) (List.length y3)

def spec_l11Channel_l1_9 (y0 : Int) : Int :=
  IntKind.wrap IntKind.i64 (y0 + (1 : Int))

def spec_l11Channel_l1_10 (y0 : Int) (y1 : Int) (y2 : List (Int × (Int × Int))) (y3 : List Int) : List Int :=
  bif spec_l11Channel_l1_a1 y0 y1 y2 then
  List.set y3 (Int.toNat (Prod.fst (spec_l11Channel_l1_a0 y0 y2))) (Prod.snd (Prod.snd (spec_l11Channel_l1_a0 y0 y2)))
  else y3

def JL_spec_l11Channel_l1 : X_spec_l11Channel_l1 → List (Nat × SV)
  | (y0, y1, _, _) => [(9, (.one ⟨false, [(.val (.int IntKind.i64 y0))]⟩)), (1, (.one ⟨false, [(.ref 0)]⟩)), (2, (.one ⟨false, [(.val (.int IntKind.i64 y1))]⟩)), (7, (.one ⟨false, [(.ref 1)]⟩))]

def JE_spec_l11Channel_l1 : X_spec_l11Channel_l1 → List (Nat × Entry)
  | (_, _, y2, y3) => [(0, (.row false 118 (CTy.pair (CTy.int IntKind.i64) (CTy.pair (CTy.int IntKind.i64) (CTy.int IntKind.i64))) y2)), (1, (.row true 2 (CTy.int IntKind.i64) y3))]

def XL_spec_l11Channel_l1 : Nat → X_spec_l11Channel_l1 → List (Nat × SV)
  | _, (_, _, _, _) => []

def XE_spec_l11Channel_l1 : Nat → X_spec_l11Channel_l1 → List (Nat × Entry)
  | _, (_, _, y2, y3) => [(0, (.row false 118 (CTy.pair (CTy.int IntKind.i64) (CTy.pair (CTy.int IntKind.i64) (CTy.int IntKind.i64))) y2)), (1, (.row true 2 (CTy.int IntKind.i64) y3))]

def lt_spec_l11Channel_l1 : X_spec_l11Channel_l1 → LT X_spec_l11Channel_l1
  | (y0, y1, y2, y3) => .ite (spec_l11Channel_l1_0 y0 y2) (.need [(spec_l11Channel_l1_1 y0), (spec_l11Channel_l1_0 y0 y2), (spec_l11Channel_l1_2 y0 y2)] (.need [(spec_l11Channel_l1_3 y0 y1 y2), (spec_l11Channel_l1_4 y0 y1 y2), (spec_l11Channel_l1_5 y0 y1 y2), (spec_l11Channel_l1_3 y0 y1 y2), (spec_l11Channel_l1_4 y0 y1 y2), (spec_l11Channel_l1_5 y0 y1 y2), (spec_l11Channel_l1_6 y0 y1 y2), (spec_l11Channel_l1_7 y0 y1 y2 y3), (spec_l11Channel_l1_8 y0 y1 y2 y3)] (.nrm ((spec_l11Channel_l1_9 y0), y1, y2, (spec_l11Channel_l1_10 y0 y1 y2 y3)) [(0, 0), (1, 1)]))) (.ext 0 [(0, 0), (1, 1)])

def rd_spec_l11Channel_l1 (s : St) : Option X_spec_l11Channel_l1 :=
  (match s.look 9 with
  | some ⟨none, (.one ⟨false, [(.val (.int IntKind.i64 y0))]⟩)⟩ =>
  (match s.look 1 with
  | some ⟨none, (.one ⟨false, [(.ref 1)]⟩)⟩ =>
  (match s.look 2 with
  | some ⟨none, (.one ⟨false, [(.val (.int IntKind.i64 y1))]⟩)⟩ =>
  (match s.look 7 with
  | some ⟨none, (.one ⟨false, [(.ref 512)]⟩)⟩ =>
  (match s.ent 1 with
  | some (.row false 118 (CTy.pair (CTy.int IntKind.i64) (CTy.pair (CTy.int IntKind.i64) (CTy.int IntKind.i64))) y2) =>
  (match s.ent 512 with
  | some (.row true 2 (CTy.int IntKind.i64) y3) =>
  some (y0, y1, y2, y3)
  | _ => none)
  | _ => none)
  | _ => none)
  | _ => none)
  | _ => none)
  | _ => none)

def lp_spec_l11Channel_l1 : Lp X_spec_l11Channel_l1 where
  h := ⟨[24, 25, 26, 27, 30, 31, 32, 33, 34, 35, 36, 37, 38, 39, 40, 41, 42, 43, 44, 45, 46, 47, 48, 28, 29, 9], [0, 1], [], []⟩
  JL := JL_spec_l11Channel_l1
  JE := JE_spec_l11Channel_l1
  XL := XL_spec_l11Channel_l1
  XE := XE_spec_l11Channel_l1
  q := fun j => match j with | _ => .exit 2
  tags := [0]
  lt := lt_spec_l11Channel_l1
  fuel := fun (y0, y1, y2, y3) => y0.natAbs + y1.natAbs + y2.length + y3.length
  fix := fun (_, y1, y2, _) (y0, _, _, y3) => (y0, y1, y2, y3)
  σ := [(0, 1), (1, 512)]
  rd := rd_spec_l11Channel_l1

theorem lpok_spec_l11Channel_l1 : LoopOk Try.prog (fun k => Nat.blt k Try.f161.ntmps) lp_spec_l11Channel_l1.F (loopAt Try.f161 1) := by
  refine Lp.ok (tbl := [n_spec_l10Count, PF.lend n_spec_l10Count, PF.fz n_spec_l10Count]) (lf := []) hmix lp_spec_l11Channel_l1 (by kernel_rfl) (LOk.nil _) (fun _ => rfl) (fun _ _ => rfl) ?_ ?_ ?_ ?_ (fun _ => rfl) ?_
  · intro x; obtain ⟨y0, y1, y2, y3⟩ := x; kernel_rfl
  · intro x; obtain ⟨y0, y1, y2, y3⟩ := x; kernel_rfl
  · intro s x h
    have h : rd_spec_l11Channel_l1 s = some x := h
    unfold rd_spec_l11Channel_l1 at h
    repeat' split at h
    all_goals cases h
    exact ⟨absS_cons (by assumption) rfl (absS_cons (by assumption) rfl (absS_cons (by assumption) rfl (absS_cons (by assumption) rfl (rfl)))), absE_cons rfl (by assumption) rfl (absE_cons rfl (by assumption) rfl (rfl))⟩
  · intro x; obtain ⟨y0, y1, y2, y3⟩ := x; kernel_rfl
  · intro x z; obtain ⟨y0, y1, y2, y3⟩ := x; exact (And.intro rfl trivial)

def spec_l11Channel_a0 (x0 : Int) (x2 : List Int) : Int × Int × List Int × List Int :=
  ((0 : Int), x0, [], x2)

def spec_l11Channel_a1 (x0 : Int) (x1 : Int) (x2 : List Int) (x3 : List (Int × Int × Int)) : Int × Int × List (Int × Int × Int) × List Int :=
  ((0 : Int), x1, x3, Prod.fst (Prod.snd (Prod.snd (Prod.snd (Lp.res lp_spec_l11Channel_l0 (spec_l11Channel_a0 x0 x2))))))

def spec_l11Channel_0 (x0 : Int) (x1 : Int) (x2 : List Int) (x3 : List (Int × Int × Int)) : List Int :=
  Prod.snd (Prod.snd (Prod.snd (Prod.snd (Lp.res lp_spec_l11Channel_l1 (spec_l11Channel_a1 x0 x1 x2 x3)))))

def spec_l11Channel_1 (x0 : Int) (x1 : Int) (x2 : List Int) (x3 : List (Int × Int × Int)) : Bool :=
  allT [Lp.fin lp_spec_l11Channel_l0 (spec_l11Channel_a0 x0 x2), Lp.fin lp_spec_l11Channel_l1 (spec_l11Channel_a1 x0 x1 x2 x3)]

def F_spec_l11Channel : List SV → List Entry → Option Out
  | [.one ⟨true, [.val (.int .i64 x0), .ref 0]⟩, .one ⟨false, [.ref 1]⟩, .one ⟨false, [.val (.int .i64 x1)]⟩], [.row false 2 (.int .i64) x2, .row false 118 (.pair (.int .i64) (.pair (.int .i64) (.int .i64))) x3] => some ⟨(.one ⟨false, [(.ref 2)]⟩), [(.row false 2 (CTy.int IntKind.i64) x2), (.row false 118 (CTy.pair (CTy.int IntKind.i64) (CTy.pair (CTy.int IntKind.i64) (CTy.int IntKind.i64))) x3)], [(.row true 2 (CTy.int IntKind.i64) (spec_l11Channel_0 x0 x1 x2 x3))], [(spec_l11Channel_1 x0 x1 x2 x3)]⟩
  | _, _ => none

def p_spec_l11Channel : PF Try.prog := PF.ofG Try.prog [n_spec_l10Count, PF.lend n_spec_l10Count, PF.fz n_spec_l10Count] [lp_spec_l11Channel_l0.F, lp_spec_l11Channel_l1.F] hmix 161 Try.f161 Try.func161 (LOk.fnT (l := [loopAt Try.f161 0, loopAt Try.f161 1]) (by kernel_rfl) (.cons lpok_spec_l11Channel_l0 (.cons lpok_spec_l11Channel_l1 (.nil _)))) F_spec_l11Channel (by
  intro vs es r h; unfold F_spec_l11Channel at h; split at h
  · cases h; kernel_rfl
  · cases h)

def spec_l11Report_0 (x0 : Int) (x1 : List Int) (x2 : List (Int × Int × Int)) : List Int :=
  spec_l11Channel_0 x0 (0 : Int) x1 x2

def spec_l11Report_1 (x0 : Int) (x1 : List Int) (x2 : List (Int × Int × Int)) : List Int :=
  spec_l11Channel_0 x0 (1 : Int) x1 x2

def spec_l11Report_2 (x0 : Int) (x1 : List Int) (x2 : List (Int × Int × Int)) : Bool :=
  allT [spec_l11Channel_1 x0 (0 : Int) x1 x2, spec_l11Channel_1 x0 (1 : Int) x1 x2]

def F_spec_l11Report : List SV → List Entry → Option Out
  | [.one ⟨true, [.val (.int .i64 x0), .ref 0]⟩, .one ⟨false, [.ref 1]⟩], [.row false 2 (.int .i64) x1, .row false 118 (.pair (.int .i64) (.pair (.int .i64) (.int .i64))) x2] => some ⟨(.one ⟨true, [(.ref 2), (.ref 3)]⟩), [(.row false 2 (CTy.int IntKind.i64) x1), (.row false 118 (CTy.pair (CTy.int IntKind.i64) (CTy.pair (CTy.int IntKind.i64) (CTy.int IntKind.i64))) x2)], [(.row true 2 (CTy.int IntKind.i64) (spec_l11Report_0 x0 x1 x2)), (.row true 2 (CTy.int IntKind.i64) (spec_l11Report_1 x0 x1 x2))], [(spec_l11Report_2 x0 x1 x2)]⟩
  | _, _ => none

def p_spec_l11Report : PF Try.prog := PF.ofG Try.prog [p_spec_l11Channel, PF.lend p_spec_l11Channel, PF.fz p_spec_l11Channel] [] hmix 139 Try.f139 Try.func139 (fun c _ => LOk.nil c) F_spec_l11Report (by
  intro vs es r h; unfold F_spec_l11Report at h; split at h
  · cases h; kernel_rfl
  · cases h)

abbrev X_impl_reportOf_l0 := Int × Int × List Int × List Int

def impl_reportOf_l0_a0 (y0 : Int) (y2 : List Int) : Int :=
  Option.getD y2[Int.toNat y0]? (0 : Int)

def impl_reportOf_l0_0 (y0 : Int) (y1 : Int) : Bool :=
  ltI y0 y1

def impl_reportOf_l0_1 (y0 : Int) : Bool :=
  leI (0 : Int) y0

def impl_reportOf_l0_2 (y0 : Int) (y2 : List Int) : Bool :=
  ltI y0 (↑(List.length y2) : Int)

def impl_reportOf_l0_3 (y0 : Int) (y2 : List Int) : Bool :=
  ltN (Int.toNat y0) (List.length y2)

def impl_reportOf_l0_4 (y0 : Int) (y3 : List Int) : Bool :=
  ltI y0 (↑(List.length y3) : Int)

def impl_reportOf_l0_5 (y0 : Int) (y3 : List Int) : Bool :=
  ltN (Int.toNat y0) (List.length y3)

def impl_reportOf_l0_6 (y0 : Int) : Int :=
  IntKind.wrap IntKind.i64 (y0 + (1 : Int))

def impl_reportOf_l0_7 (y0 : Int) (y2 : List Int) (y3 : List Int) : List Int :=
  List.set y3 (Int.toNat y0) (ifLt (1 : Int) (impl_reportOf_l0_a0 y0 y2) (1 : Int) (impl_reportOf_l0_a0 y0 y2))

def JL_impl_reportOf_l0 : X_impl_reportOf_l0 → List (Nat × SV)
  | (y0, y1, _, _) => [(17, (.one ⟨false, [(.val (.int IntKind.i64 y0))]⟩)), (16, (.one ⟨false, [(.val (.int IntKind.i64 y1))]⟩)), (15, (.one ⟨false, [(.ref 0)]⟩)), (5, (.one ⟨false, [(.ref 1)]⟩))]

def JE_impl_reportOf_l0 : X_impl_reportOf_l0 → List (Nat × Entry)
  | (_, _, y2, y3) => [(0, (.row true 2 (CTy.int IntKind.i64) y2)), (1, (.row true 2 (CTy.int IntKind.i64) y3))]

def XL_impl_reportOf_l0 : Nat → X_impl_reportOf_l0 → List (Nat × SV)
  | _, (_, _, _, _) => []

def XE_impl_reportOf_l0 : Nat → X_impl_reportOf_l0 → List (Nat × Entry)
  | _, (_, _, y2, y3) => [(0, (.row true 2 (CTy.int IntKind.i64) y2)), (1, (.row true 2 (CTy.int IntKind.i64) y3))]

def lt_impl_reportOf_l0 : X_impl_reportOf_l0 → LT X_impl_reportOf_l0
  | (y0, y1, y2, y3) => .ite (impl_reportOf_l0_0 y0 y1) (.need [(impl_reportOf_l0_1 y0), (impl_reportOf_l0_2 y0 y2), (impl_reportOf_l0_3 y0 y2)] (.need [(impl_reportOf_l0_1 y0), (impl_reportOf_l0_4 y0 y3), (impl_reportOf_l0_5 y0 y3)] (.nrm ((impl_reportOf_l0_6 y0), y1, y2, (impl_reportOf_l0_7 y0 y2 y3)) [(0, 0), (1, 1)]))) (.ext 0 [(0, 0), (1, 1)])

def rd_impl_reportOf_l0 (s : St) : Option X_impl_reportOf_l0 :=
  (match s.look 17 with
  | some ⟨none, (.one ⟨false, [(.val (.int IntKind.i64 y0))]⟩)⟩ =>
  (match s.look 16 with
  | some ⟨none, (.one ⟨false, [(.val (.int IntKind.i64 y1))]⟩)⟩ =>
  (match s.look 15 with
  | some ⟨none, (.one ⟨false, [(.ref 640)]⟩)⟩ =>
  (match s.look 5 with
  | some ⟨none, (.one ⟨false, [(.ref 448)]⟩)⟩ =>
  (match s.ent 640 with
  | some (.row true 2 (CTy.int IntKind.i64) y2) =>
  (match s.ent 448 with
  | some (.row true 2 (CTy.int IntKind.i64) y3) =>
  some (y0, y1, y2, y3)
  | _ => none)
  | _ => none)
  | _ => none)
  | _ => none)
  | _ => none)
  | _ => none)

def lp_impl_reportOf_l0 : Lp X_impl_reportOf_l0 where
  h := ⟨[18, 19, 20, 21, 6, 7, 22, 23, 24, 25, 26, 27, 17], [0, 1], [], []⟩
  JL := JL_impl_reportOf_l0
  JE := JE_impl_reportOf_l0
  XL := XL_impl_reportOf_l0
  XE := XE_impl_reportOf_l0
  q := fun j => match j with | _ => .exit 0
  tags := [0]
  lt := lt_impl_reportOf_l0
  fuel := fun (y0, y1, y2, y3) => y0.natAbs + y1.natAbs + y2.length + y3.length
  fix := fun (_, y1, y2, _) (y0, _, _, y3) => (y0, y1, y2, y3)
  σ := [(0, 640), (1, 448)]
  rd := rd_impl_reportOf_l0

theorem lpok_impl_reportOf_l0 : LoopOk Try.prog (fun k => Nat.blt k Try.f141.ntmps) lp_impl_reportOf_l0.F (loopAt Try.f141 0) := by
  refine Lp.ok (tbl := [n_loop_example_g00916_impl_Traffic_uses, PF.lend n_loop_example_g00916_impl_Traffic_uses, PF.fz n_loop_example_g00916_impl_Traffic_uses, n_slices_Clone_int64_int64, PF.lend n_slices_Clone_int64_int64, PF.fz n_slices_Clone_int64_int64]) (lf := []) hmix lp_impl_reportOf_l0 (by kernel_rfl) (LOk.nil _) (fun _ => rfl) (fun _ _ => rfl) ?_ ?_ ?_ ?_ (fun _ => rfl) ?_
  · intro x; obtain ⟨y0, y1, y2, y3⟩ := x; kernel_rfl
  · intro x; obtain ⟨y0, y1, y2, y3⟩ := x; kernel_rfl
  · intro s x h
    have h : rd_impl_reportOf_l0 s = some x := h
    unfold rd_impl_reportOf_l0 at h
    repeat' split at h
    all_goals cases h
    exact ⟨absS_cons (by assumption) rfl (absS_cons (by assumption) rfl (absS_cons (by assumption) rfl (absS_cons (by assumption) rfl (rfl)))), absE_cons rfl (by assumption) rfl (absE_cons rfl (by assumption) rfl (rfl))⟩
  · intro x; obtain ⟨y0, y1, y2, y3⟩ := x; kernel_rfl
  · intro x z; obtain ⟨y0, y1, y2, y3⟩ := x; exact (And.intro rfl trivial)

abbrev X_impl_reportOf_l1 := Int × Int × List (Int × (Int × Int)) × List Int × List Int

def impl_reportOf_l1_a0 (y0 : Int) (y2 : List (Int × (Int × Int))) : Int × Int × Int :=
  Option.getD y2[Int.toNat y0]? ((0 : Int), (0 : Int), (0 : Int))

def impl_reportOf_l1_a1 (y0 : Int) (y2 : List (Int × (Int × Int))) : Bool :=
  Prod.fst (Prod.snd (impl_reportOf_l1_a0 y0 y2)) == (0 : Int)

def impl_reportOf_l1_a2 (y0 : Int) (y2 : List (Int × (Int × Int))) : Bool :=
  leI (0 : Int) (Prod.fst (impl_reportOf_l1_a0 y0 y2))

def impl_reportOf_l1_0 (y0 : Int) (y1 : Int) : Bool :=
  ltI y0 y1

def impl_reportOf_l1_1 (y0 : Int) : Bool :=
  leI (0 : Int) y0

def impl_reportOf_l1_2 (y0 : Int) (y2 : List (Int × (Int × Int))) : Bool :=
  ltI y0 (↑(List.length y2) : Int)

def impl_reportOf_l1_3 (y0 : Int) (y2 : List (Int × (Int × Int))) : Bool :=
  ltN (Int.toNat y0) (List.length y2)

def impl_reportOf_l1_4 (y0 : Int) (y2 : List (Int × (Int × Int))) : Bool :=
  !impl_reportOf_l1_a1 y0 y2 || impl_reportOf_l1_a2 y0 y2

def impl_reportOf_l1_5 (y0 : Int) (y2 : List (Int × (Int × Int))) (y3 : List Int) : Bool :=
  !impl_reportOf_l1_a1 y0 y2 || ltI (Prod.fst (impl_reportOf_l1_a0 y0 y2)) (↑(List.length y3) : Int)

def impl_reportOf_l1_6 (y0 : Int) (y2 : List (Int × (Int × Int))) (y3 : List Int) : Bool :=
  !impl_reportOf_l1_a1 y0 y2 || ltN (Int.toNat (Prod.fst (impl_reportOf_l1_a0 y0 y2))) (List.length y3)

def impl_reportOf_l1_7 (y0 : Int) (y2 : List (Int × (Int × Int))) : Bool :=
  impl_reportOf_l1_a1 y0 y2 || impl_reportOf_l1_a2 y0 y2

def impl_reportOf_l1_8 (y0 : Int) (y2 : List (Int × (Int × Int))) (y4 : List Int) : Bool :=
  impl_reportOf_l1_a1 y0 y2 || ltI (Prod.fst (impl_reportOf_l1_a0 y0 y2)) (↑(List.length y4) : Int)

def impl_reportOf_l1_9 (y0 : Int) (y2 : List (Int × (Int × Int))) (y4 : List Int) : Bool :=
  impl_reportOf_l1_a1 y0 y2 || ltN (Int.toNat (Prod.fst (impl_reportOf_l1_a0 y0 y2))) (List.length y4)

def impl_reportOf_l1_10 (y0 : Int) : Int :=
  IntKind.wrap IntKind.i64 (y0 + (1 : Int))

def impl_reportOf_l1_11 (y0 : Int) (y2 : List (Int × (Int × Int))) (y3 : List Int) : List Int :=
  bif impl_reportOf_l1_a1 y0 y2 then List.set y3 (Int.toNat (Prod.fst (impl_reportOf_l1_a0 y0 y2))) (Prod.snd (Prod.snd (impl_reportOf_l1_a0 y0 y2)))
  else y3

def impl_reportOf_l1_12 (y0 : Int) (y2 : List (Int × (Int × Int))) (y4 : List Int) : List Int :=
  bif impl_reportOf_l1_a1 y0 y2 then y4
  else List.set y4 (Int.toNat (Prod.fst (impl_reportOf_l1_a0 y0 y2))) (Prod.snd (Prod.snd (impl_reportOf_l1_a0 y0 y2)))

def JL_impl_reportOf_l1 : X_impl_reportOf_l1 → List (Nat × SV)
  | (y0, y1, _, _, _) => [(34, (.one ⟨false, [(.val (.int IntKind.i64 y0))]⟩)), (33, (.one ⟨false, [(.val (.int IntKind.i64 y1))]⟩)), (32, (.one ⟨false, [(.ref 0)]⟩)), (8, (.one ⟨false, [(.ptr 1 0)]⟩))]

def JE_impl_reportOf_l1 : X_impl_reportOf_l1 → List (Nat × Entry)
  | (_, _, y2, y3, y4) => [(0, (.row false 118 (CTy.pair (CTy.int IntKind.i64) (CTy.pair (CTy.int IntKind.i64) (CTy.int IntKind.i64))) y2)), (1, (.box 151 [(.ref 2), (.ref 3)])), (2, (.row true 2 (CTy.int IntKind.i64) y3)), (3, (.row true 2 (CTy.int IntKind.i64) y4))]

def XL_impl_reportOf_l1 : Nat → X_impl_reportOf_l1 → List (Nat × SV)
  | _, (_, _, _, _, _) => []

def XE_impl_reportOf_l1 : Nat → X_impl_reportOf_l1 → List (Nat × Entry)
  | _, (_, _, y2, y3, y4) => [(0, (.row false 118 (CTy.pair (CTy.int IntKind.i64) (CTy.pair (CTy.int IntKind.i64) (CTy.int IntKind.i64))) y2)), (1, (.box 151 [(.ref 2), (.ref 3)])), (2, (.row true 2 (CTy.int IntKind.i64) y3)), (3, (.row true 2 (CTy.int IntKind.i64) y4))]

def lt_impl_reportOf_l1 : X_impl_reportOf_l1 → LT X_impl_reportOf_l1
  | (y0, y1, y2, y3, y4) => .ite (impl_reportOf_l1_0 y0 y1) (.need [(impl_reportOf_l1_1 y0), (impl_reportOf_l1_2 y0 y2), (impl_reportOf_l1_3 y0 y2)] (.need [(impl_reportOf_l1_4 y0 y2), (impl_reportOf_l1_5 y0 y2 y3), (impl_reportOf_l1_6 y0 y2 y3), (impl_reportOf_l1_7 y0 y2), (impl_reportOf_l1_8 y0 y2 y4), (impl_reportOf_l1_9 y0 y2 y4)] (.nrm ((impl_reportOf_l1_10 y0), y1, y2, (impl_reportOf_l1_11 y0 y2 y3), (impl_reportOf_l1_12 y0 y2 y4)) [(0, 0), (1, 1), (2, 2), (3, 3)]))) (.ext 0 [(0, 0), (1, 1), (2, 2), (3, 3)])

def rd_impl_reportOf_l1 (s : St) : Option X_impl_reportOf_l1 :=
  (match s.look 34 with
  | some ⟨none, (.one ⟨false, [(.val (.int IntKind.i64 y0))]⟩)⟩ =>
  (match s.look 33 with
  | some ⟨none, (.one ⟨false, [(.val (.int IntKind.i64 y1))]⟩)⟩ =>
  (match s.look 32 with
  | some ⟨none, (.one ⟨false, [(.ref 1)]⟩)⟩ =>
  (match s.look 8 with
  | some ⟨none, (.one ⟨false, [(.ptr 1152 0)]⟩)⟩ =>
  (match s.ent 1 with
  | some (.row false 118 (CTy.pair (CTy.int IntKind.i64) (CTy.pair (CTy.int IntKind.i64) (CTy.int IntKind.i64))) y2) =>
  (match s.ent 1152 with
  | some (.box 151 [(.ref 448), (.ref 1024)]) =>
  (match s.ent 448 with
  | some (.row true 2 (CTy.int IntKind.i64) y3) =>
  (match s.ent 1024 with
  | some (.row true 2 (CTy.int IntKind.i64) y4) =>
  some (y0, y1, y2, y3, y4)
  | _ => none)
  | _ => none)
  | _ => none)
  | _ => none)
  | _ => none)
  | _ => none)
  | _ => none)
  | _ => none)

def lp_impl_reportOf_l1 : Lp X_impl_reportOf_l1 where
  h := ⟨[35, 36, 37, 10, 38, 39, 40, 41, 42, 43, 44, 45, 46, 47, 48, 49, 50, 51, 52, 53, 54, 55, 34], [0, 1, 2, 3], [], []⟩
  JL := JL_impl_reportOf_l1
  JE := JE_impl_reportOf_l1
  XL := XL_impl_reportOf_l1
  XE := XE_impl_reportOf_l1
  q := fun j => match j with | _ => .exit 2
  tags := [0]
  lt := lt_impl_reportOf_l1
  fuel := fun (y0, y1, y2, y3, y4) => y0.natAbs + y1.natAbs + y2.length + y3.length + y4.length
  fix := fun (_, y1, y2, _, _) (y0, _, _, y3, y4) => (y0, y1, y2, y3, y4)
  σ := [(0, 1), (1, 1152), (2, 448), (3, 1024)]
  rd := rd_impl_reportOf_l1

theorem lpok_impl_reportOf_l1 : LoopOk Try.prog (fun k => Nat.blt k Try.f141.ntmps) lp_impl_reportOf_l1.F (loopAt Try.f141 1) := by
  refine Lp.ok (tbl := [n_loop_example_g00916_impl_Traffic_uses, PF.lend n_loop_example_g00916_impl_Traffic_uses, PF.fz n_loop_example_g00916_impl_Traffic_uses, n_slices_Clone_int64_int64, PF.lend n_slices_Clone_int64_int64, PF.fz n_slices_Clone_int64_int64]) (lf := []) hmix lp_impl_reportOf_l1 (by kernel_rfl) (LOk.nil _) (fun _ => rfl) (fun _ _ => rfl) ?_ ?_ ?_ ?_ (fun _ => rfl) ?_
  · intro x; obtain ⟨y0, y1, y2, y3, y4⟩ := x; kernel_rfl
  · intro x; obtain ⟨y0, y1, y2, y3, y4⟩ := x; kernel_rfl
  · intro s x h
    have h : rd_impl_reportOf_l1 s = some x := h
    unfold rd_impl_reportOf_l1 at h
    repeat' split at h
    all_goals cases h
    exact ⟨absS_cons (by assumption) rfl (absS_cons (by assumption) rfl (absS_cons (by assumption) rfl (absS_cons (by assumption) rfl (rfl)))), absE_cons rfl (by assumption) rfl (absE_cons rfl (by assumption) rfl (absE_cons rfl (by assumption) rfl (absE_cons rfl (by assumption) rfl (rfl))))⟩
  · intro x; obtain ⟨y0, y1, y2, y3, y4⟩ := x; kernel_rfl
  · intro x z; obtain ⟨y0, y1, y2, y3, y4⟩ := x; exact (And.intro rfl trivial)

def impl_reportOf_a0 (x0 : Int) (x1 : List Int) : Int × Int × List Int × List Int :=
  ((0 : Int), (↑(List.length (usesTo x0 x1)) : Int), usesTo x0 x1, List.replicate (Int.toNat x0) (0 : Int))

def impl_reportOf_a1 (x0 : Int) (x1 : List Int) : List Int :=
  Prod.snd (Prod.snd (Prod.snd (Prod.snd (Lp.res lp_impl_reportOf_l0 (impl_reportOf_a0 x0 x1)))))

def impl_reportOf_a2 (x0 : Int) (x1 : List Int) (x2 : List (Int × Int × Int)) : Int × Int × List (Int × Int × Int) × List Int × List Int :=
  ((0 : Int), (↑(List.length x2) : Int), x2, impl_reportOf_a1 x0 x1, impl_reportOf_a1 x0 x1)

def impl_reportOf_a3 (x0 : Int) (x1 : List Int) (x2 : List (Int × Int × Int)) : List Int × List Int :=
  Prod.snd (Prod.snd (Prod.snd (Prod.snd (Lp.res lp_impl_reportOf_l1 (impl_reportOf_a2 x0 x1 x2)))))

def impl_reportOf_0 (x0 : Int) (x1 : List Int) (x2 : List (Int × Int × Int)) : List Int :=
  Prod.fst (impl_reportOf_a3 x0 x1 x2)

def impl_reportOf_1 (x0 : Int) (x1 : List Int) (x2 : List (Int × Int × Int)) : List Int :=
  Prod.snd (impl_reportOf_a3 x0 x1 x2)

def impl_reportOf_2 (x0 : Int) (x1 : List Int) (x2 : List (Int × Int × Int)) : Bool :=
  allT
  [leI (0 : Int) x0, leI x0 x0, leI ((↑(8 : Nat) : Int) * x0) (281474976710656 : Int), leI x0 (9223372036854775807 : Int), isT x0 x1,
    Lp.fin lp_impl_reportOf_l0 (impl_reportOf_a0 x0 x1),
    leN (1 : Nat) (List.length (impl_reportOf_a1 x0 x1)) && leN (List.length (impl_reportOf_a1 x0 x1)) (1048576 : Nat),
    Lp.fin lp_impl_reportOf_l1 (impl_reportOf_a2 x0 x1 x2)]

def F_impl_reportOf : List SV → List Entry → Option Out
  | [.one ⟨true, [.val (.int .i64 x0), .ref 0]⟩, .one ⟨false, [.ref 1]⟩], [.row false 2 (.int .i64) x1, .row false 118 (.pair (.int .i64) (.pair (.int .i64) (.int .i64))) x2] => some ⟨(.one ⟨true, [(.ref 2), (.ref 3)]⟩), [(.row false 2 (CTy.int IntKind.i64) x1), (.row false 118 (CTy.pair (CTy.int IntKind.i64) (CTy.pair (CTy.int IntKind.i64) (CTy.int IntKind.i64))) x2)], [(.row true 2 (CTy.int IntKind.i64) (impl_reportOf_0 x0 x1 x2)), (.row true 2 (CTy.int IntKind.i64) (impl_reportOf_1 x0 x1 x2))], [(impl_reportOf_2 x0 x1 x2)]⟩
  | _, _ => none

def p_impl_reportOf : PF Try.prog := PF.ofG Try.prog [n_loop_example_g00916_impl_Traffic_uses, PF.lend n_loop_example_g00916_impl_Traffic_uses, PF.fz n_loop_example_g00916_impl_Traffic_uses, n_slices_Clone_int64_int64, PF.lend n_slices_Clone_int64_int64, PF.fz n_slices_Clone_int64_int64] [lp_impl_reportOf_l0.F, lp_impl_reportOf_l1.F] hmix 141 Try.f141 Try.func141 (LOk.fnT (l := [loopAt Try.f141 0, loopAt Try.f141 1]) (by kernel_rfl) (.cons lpok_impl_reportOf_l0 (.cons lpok_impl_reportOf_l1 (.nil _)))) F_impl_reportOf (by
  intro vs es r h; unfold F_impl_reportOf at h; split at h
  · cases h; kernel_rfl
  · cases h)

def loop_example_g00916_impl_Report_isClear_a0 (x0 : Int) (x1 : List Int) : Bool :=
  Option.getD x1[Int.toNat x0]? (0 : Int) == (0 : Int)

def loop_example_g00916_impl_Report_isClear_0 (x0 : Int) (x1 : List Int) (x2 : List Int) : Bool :=
  bif loop_example_g00916_impl_Report_isClear_a0 x0 x1 then Option.getD x2[Int.toNat x0]? (0 : Int) == (0 : Int) else false

def loop_example_g00916_impl_Report_isClear_1 (x0 : Int) (x1 : List Int) (x2 : List Int) : Bool :=
  allT
  [leI (0 : Int) x0, ltI x0 (↑(List.length x1) : Int), ltN (Int.toNat x0) (List.length x1),
    !(loop_example_g00916_impl_Report_isClear_a0 x0 x1 && true) || leI (0 : Int) x0,
    !(loop_example_g00916_impl_Report_isClear_a0 x0 x1 && true) || ltI x0 (↑(List.length x2) : Int),
    !(loop_example_g00916_impl_Report_isClear_a0 x0 x1 && true) || ltN (Int.toNat x0) (List.length x2)]

def F_loop_example_g00916_impl_Report_isClear : List SV → List Entry → Option Out
  | [.one ⟨true, [.ref 0, .ref 1]⟩, .one ⟨false, [.val (.int .i64 x0)]⟩], [.row false 2 (.int .i64) x1, .row false 2 (.int .i64) x2] => some ⟨(.one ⟨false, [(.val (.bool (loop_example_g00916_impl_Report_isClear_0 x0 x1 x2)))]⟩), [(.row false 2 (CTy.int IntKind.i64) x1), (.row false 2 (CTy.int IntKind.i64) x2)], [], [(loop_example_g00916_impl_Report_isClear_1 x0 x1 x2)]⟩
  | _, _ => none

def p_loop_example_g00916_impl_Report_isClear : PF Try.prog := PF.ofG Try.prog [] [] hmix 165 Try.f165 Try.func165 (fun c _ => LOk.nil c) F_loop_example_g00916_impl_Report_isClear (by
  intro vs es r h; unfold F_loop_example_g00916_impl_Report_isClear at h; split at h
  · cases h; kernel_rfl
  · cases h)

def loop_example_g00916_impl_Report_permits_a0 (x1 : Int) (x4 : List Int) : Int :=
  Option.getD x4[Int.toNat x1]? (0 : Int)

def loop_example_g00916_impl_Report_permits_a1 (x1 : Int) (x4 : List Int) : Bool :=
  Int.tmod (loop_example_g00916_impl_Report_permits_a0 x1 x4) (3 : Int) != (1 : Int)

def loop_example_g00916_impl_Report_permits_a2 (x0 : Int) (x1 : Int) (x4 : List Int) : Int :=
  Int.tmod (IntKind.wrap IntKind.i64 (IntKind.wrap IntKind.i64 (Int.tdiv (loop_example_g00916_impl_Report_permits_a0 x1 x4) (3 : Int)) + (1 : Int))) x0

def loop_example_g00916_impl_Report_permits_0 (x0 : Int) (x1 : Int) (x2 : List Int) (x3 : List Int) (x4 : List Int) : Bool :=
  bif loop_example_g00916_impl_Report_permits_a1 x1 x4 then true
  else loop_example_g00916_impl_Report_isClear_0 (loop_example_g00916_impl_Report_permits_a2 x0 x1 x4) x2 x3

def loop_example_g00916_impl_Report_permits_1 (x0 : Int) (x1 : Int) (x2 : List Int) (x3 : List Int) (x4 : List Int) : Bool :=
  allT
  [leI (0 : Int) x1, ltI x1 (↑(List.length x4) : Int), ltN (Int.toNat x1) (List.length x4),
    !(!loop_example_g00916_impl_Report_permits_a1 x1 x4 && true) || neI (3 : Int) (0 : Int),
    !(!loop_example_g00916_impl_Report_permits_a1 x1 x4 && true) || neI x0 (0 : Int),
    !(!loop_example_g00916_impl_Report_permits_a1 x1 x4 && true) ||
      loop_example_g00916_impl_Report_isClear_1 (loop_example_g00916_impl_Report_permits_a2 x0 x1 x4) x2 x3]

def F_loop_example_g00916_impl_Report_permits : List SV → List Entry → Option Out
  | [.one ⟨true, [.ref 0, .ref 1]⟩, .one ⟨true, [.val (.int .i64 x0), .ref 2]⟩, .one ⟨false, [.val (.int .i64 x1)]⟩], [.row false 2 (.int .i64) x2, .row false 2 (.int .i64) x3, .row false 2 (.int .i64) x4] => some ⟨(.one ⟨false, [(.val (.bool (loop_example_g00916_impl_Report_permits_0 x0 x1 x2 x3 x4)))]⟩), [(.row false 2 (CTy.int IntKind.i64) x2), (.row false 2 (CTy.int IntKind.i64) x3), (.row false 2 (CTy.int IntKind.i64) x4)], [], [(loop_example_g00916_impl_Report_permits_1 x0 x1 x2 x3 x4)]⟩
  | _, _ => none

def p_loop_example_g00916_impl_Report_permits : PF Try.prog := PF.ofG Try.prog [p_loop_example_g00916_impl_Report_isClear, PF.lend p_loop_example_g00916_impl_Report_isClear, PF.fz p_loop_example_g00916_impl_Report_isClear] [] hmix 142 Try.f142 Try.func142 (fun c _ => LOk.nil c) F_loop_example_g00916_impl_Report_permits (by
  intro vs es r h; unfold F_loop_example_g00916_impl_Report_permits at h; split at h
  · cases h; kernel_rfl
  · cases h)

end Go.SX

/- What functions of the program come to, row by row (made by a program of the workplace). -/
import Derived.Test.YtepaifhehlpbaaaDoorTXh
import Derived.Test.YtepaifhehlpbaaaDoorProg
import Derived.Test.YtepaifhehlpbaaaDoorNa
namespace Go.SX
open Go.Proofs
set_option maxRecDepth 100000

def spec_l12Letter_0 (x0 : Int) : Bool :=
  bif leI (97 : Int) x0 then leI x0 (122 : Int) else false

def F_spec_l12Letter : List SV → List Entry → Option Out
  | [.one ⟨false, [.val (.int .u8 x0)]⟩], [] => some ⟨(.one ⟨false, [(.val (.bool (spec_l12Letter_0 x0)))]⟩), [], [], []⟩
  | _, _ => none

def p_spec_l12Letter : PF Tryd.prog := PF.ofG Tryd.prog [] [] hmix 148 Tryd.f148 Tryd.func148 (fun c _ => LOk.nil c) F_spec_l12Letter (by
  intro vs es r h; unfold F_spec_l12Letter at h; split at h
  · cases h; kernel_rfl
  · cases h)

def spec_l12Digit_0 (x0 : Int) : Bool :=
  bif leI (48 : Int) x0 then leI x0 (57 : Int) else false

def F_spec_l12Digit : List SV → List Entry → Option Out
  | [.one ⟨false, [.val (.int .u8 x0)]⟩], [] => some ⟨(.one ⟨false, [(.val (.bool (spec_l12Digit_0 x0)))]⟩), [], [], []⟩
  | _, _ => none

def p_spec_l12Digit : PF Tryd.prog := PF.ofG Tryd.prog [] [] hmix 160 Tryd.f160 Tryd.func160 (fun c _ => LOk.nil c) F_spec_l12Digit (by
  intro vs es r h; unfold F_spec_l12Digit at h; split at h
  · cases h; kernel_rfl
  · cases h)

def spec_l12Inner_0 (x0 : Int) : Bool :=
  bif bif spec_l12Letter_0 x0 then true else spec_l12Digit_0 x0 then true else x0 == (95 : Int)

def F_spec_l12Inner : List SV → List Entry → Option Out
  | [.one ⟨false, [.val (.int .u8 x0)]⟩], [] => some ⟨(.one ⟨false, [(.val (.bool (spec_l12Inner_0 x0)))]⟩), [], [], []⟩
  | _, _ => none

def p_spec_l12Inner : PF Tryd.prog := PF.ofG Tryd.prog [p_spec_l12Letter, p_spec_l12Digit] [] hmix 147 Tryd.f147 Tryd.func147 (fun c _ => LOk.nil c) F_spec_l12Inner (by
  intro vs es r h; unfold F_spec_l12Inner at h; split at h
  · cases h; kernel_rfl
  · cases h)

abbrev X_spec_l12Word_l0 := Int × ByteArray

def spec_l12Word_l0_0 (y0 : Int) (y1 : ByteArray) : Bool :=
  ltI y0 (↑(ByteArray.size y1) : Int)

def spec_l12Word_l0_1 (y0 : Int) : Bool :=
  leI (0 : Int) y0

def spec_l12Word_l0_2 (y0 : Int) (y1 : ByteArray) : Bool :=
  !spec_l12Inner_0 (↑(UInt8.toNat (Option.getD y1[Int.toNat y0]? (0 : UInt8))) : Int)

def spec_l12Word_l0_3 (y0 : Int) : Int :=
  IntKind.wrap IntKind.i64 (y0 + (1 : Int))

def JL_spec_l12Word_l0 : X_spec_l12Word_l0 → List (Nat × SV)
  | (y0, y1) => [(3, (.one ⟨false, [(.val (.int IntKind.i64 y0))]⟩)), (0, (.one ⟨false, [(.val (.string y1))]⟩))]

def JE_spec_l12Word_l0 : X_spec_l12Word_l0 → List (Nat × Entry)
  | (_, _) => []

def XL_spec_l12Word_l0 : Nat → X_spec_l12Word_l0 → List (Nat × SV)
  | 0, (_, _) => [(2, (.one ⟨false, [(.val (.bool false))]⟩))]
  | _, (_, _) => []

def XE_spec_l12Word_l0 : Nat → X_spec_l12Word_l0 → List (Nat × Entry)
  | 0, (_, _) => []
  | _, (_, _) => []

def lt_spec_l12Word_l0 : X_spec_l12Word_l0 → LT X_spec_l12Word_l0
  | (y0, y1) => .ite (spec_l12Word_l0_0 y0 y1) (.need [(spec_l12Word_l0_1 y0), (spec_l12Word_l0_0 y0 y1)] (.ite (spec_l12Word_l0_2 y0 y1) (.ext 0 []) (.nrm ((spec_l12Word_l0_3 y0), y1) []))) (.ext 1 [])

def rd_spec_l12Word_l0 (s : St) : Option X_spec_l12Word_l0 :=
  (match s.look 3 with
  | some ⟨none, (.one ⟨false, [(.val (.int IntKind.i64 y0))]⟩)⟩ =>
  (match s.look 0 with
  | some ⟨none, (.one ⟨false, [(.val (.string y1))]⟩)⟩ =>
  some (y0, y1)
  | _ => none)
  | _ => none)

def lp_spec_l12Word_l0 : Lp X_spec_l12Word_l0 where
  h := ⟨[4, 5, 6, 7, 10, 11, 12, 13, 14, 2, 8, 9, 3], [], [], []⟩
  JL := JL_spec_l12Word_l0
  JE := JE_spec_l12Word_l0
  XL := XL_spec_l12Word_l0
  XE := XE_spec_l12Word_l0
  q := fun j => match j with | 0 => .ret | _ => .exit 0
  tags := [0, 1]
  lt := lt_spec_l12Word_l0
  fuel := fun (y0, y1) => y0.natAbs + y1.size
  fix := fun (_, y1) (y0, _) => (y0, y1)
  σ := []
  rd := rd_spec_l12Word_l0

theorem lpok_spec_l12Word_l0 : LoopOk Tryd.prog (fun k => Nat.blt k Tryd.f130.ntmps) lp_spec_l12Word_l0.F (loopAt Tryd.f130 0) := by
  refine Lp.ok (tbl := [p_spec_l01In, p_spec_l12Inner, p_spec_l12Letter]) (lf := []) hmix lp_spec_l12Word_l0 (by kernel_rfl) (LOk.nil _) (fun _ => rfl) (fun j _ => by unfold lp_spec_l12Word_l0; match j with | 0 => rfl | _ + 1 => rfl) ?_ ?_ ?_ ?_ (fun _ => rfl) ?_
  · intro x; obtain ⟨y0, y1⟩ := x; kernel_rfl
  · intro x; obtain ⟨y0, y1⟩ := x; kernel_rfl
  · intro s x h
    have h : rd_spec_l12Word_l0 s = some x := h
    unfold rd_spec_l12Word_l0 at h
    repeat' split at h
    all_goals cases h
    exact ⟨absS_cons (by assumption) rfl (absS_cons (by assumption) rfl (rfl)), rfl⟩
  · intro x; obtain ⟨y0, y1⟩ := x; kernel_rfl
  · intro x z; obtain ⟨y0, y1⟩ := x; exact (And.intro (And.intro trivial rfl) trivial)

def spec_l12Word_a0 (x0 : ByteArray) : Bool :=
  Nat.beq (Prod.fst (Lp.res lp_spec_l12Word_l0 ((0 : Int), x0))) (0 : Nat)

def spec_l12Word_a1 (x0 : ByteArray) : Bool :=
  spec_l01In_0 (↑(ByteArray.size x0) : Int) (1 : Int) (12 : Int)

def spec_l12Word_0 (x0 : ByteArray) : Bool :=
  bif spec_l12Word_a0 x0 then false
  else bif spec_l12Word_a1 x0 then spec_l12Letter_0 (↑(UInt8.toNat (Option.getD x0[Int.toNat (0 : Int)]? (0 : UInt8))) : Int) else false

def spec_l12Word_1 (x0 : ByteArray) : Bool :=
  allT
  [Lp.fin lp_spec_l12Word_l0 ((0 : Int), x0), spec_l12Word_a0 x0 || (!(spec_l12Word_a1 x0 && true) || leI (0 : Int) (0 : Int)),
    spec_l12Word_a0 x0 || (!(spec_l12Word_a1 x0 && true) || ltI (0 : Int) (↑(ByteArray.size x0) : Int))]

def F_spec_l12Word : List SV → List Entry → Option Out
  | [.one ⟨false, [.val (.string x0)]⟩], [] => some ⟨(.one ⟨false, [(.val (.bool (spec_l12Word_0 x0)))]⟩), [], [], [(spec_l12Word_1 x0)]⟩
  | _, _ => none

def p_spec_l12Word : PF Tryd.prog := PF.ofG Tryd.prog [p_spec_l01In, p_spec_l12Inner, p_spec_l12Letter] [lp_spec_l12Word_l0.F] hmix 130 Tryd.f130 Tryd.func130 (LOk.fnT (l := [loopAt Tryd.f130 0]) (by kernel_rfl) (.cons lpok_spec_l12Word_l0 (.nil _))) F_spec_l12Word (by
  intro vs es r h; unfold F_spec_l12Word at h; split at h
  · cases h; kernel_rfl
  · cases h)

def spec_l12Keywords_0  : List ByteArray :=
  [{ data := #[(112 : UInt8), (114 : UInt8), (111 : UInt8), (103 : UInt8), (114 : UInt8), (97 : UInt8), (109 : UInt8)] },
  { data := #[(105 : UInt8), (110 : UInt8)] }, { data := #[(118 : UInt8), (97 : UInt8), (114 : UInt8)] },
  { data := #[(111 : UInt8), (117 : UInt8), (116 : UInt8)] }, { data := #[(103 : UInt8), (117 : UInt8), (97 : UInt8), (114 : UInt8), (100 : UInt8)] },
  { data := #[(101 : UInt8), (110 : UInt8), (100 : UInt8)] }, { data := #[(97 : UInt8), (110 : UInt8), (100 : UInt8)] },
  { data := #[(111 : UInt8), (114 : UInt8)] }, { data := #[(110 : UInt8), (111 : UInt8), (116 : UInt8)] },
  { data := #[(116 : UInt8), (114 : UInt8), (117 : UInt8), (101 : UInt8)] },
  { data := #[(102 : UInt8), (97 : UInt8), (108 : UInt8), (115 : UInt8), (101 : UInt8)] }, { data := #[(111 : UInt8), (110 : UInt8)] },
  { data := #[(111 : UInt8), (102 : UInt8), (102 : UInt8)] }, { data := #[(114 : UInt8), (105 : UInt8), (115 : UInt8), (101 : UInt8)] },
  { data := #[(108 : UInt8), (97 : UInt8), (116 : UInt8), (99 : UInt8), (104 : UInt8)] },
  { data := #[(99 : UInt8), (111 : UInt8), (117 : UInt8), (110 : UInt8), (116 : UInt8)] },
  { data := #[(112 : UInt8), (97 : UInt8), (105 : UInt8), (114 : UInt8)] }]

def F_spec_l12Keywords : List SV → List Entry → Option Out
  | [], [] => some ⟨(.one ⟨false, [(.ref 0)]⟩), [], [(.row true 9 (CTy.str) (spec_l12Keywords_0))], []⟩
  | _, _ => none

def p_spec_l12Keywords : PF Tryd.prog := PF.ofG Tryd.prog [] [] hmix 77 Tryd.f77 Tryd.func77 (fun c _ => LOk.nil c) F_spec_l12Keywords (by
  intro vs es r h; unfold F_spec_l12Keywords at h; split at h
  · cases h; kernel_rfl
  · cases h)

abbrev X_spec_l12Keyword_l0 := Int × ByteArray × List ByteArray

def spec_l12Keyword_l0_0 (y0 : Int) (y2 : List ByteArray) : Bool :=
  ltI y0 (↑(List.length y2) : Int)

def spec_l12Keyword_l0_1 (y0 : Int) : Bool :=
  leI (0 : Int) y0

def spec_l12Keyword_l0_2 (y0 : Int) (y2 : List ByteArray) : Bool :=
  ltN (Int.toNat y0) (List.length y2)

def spec_l12Keyword_l0_3 (y0 : Int) (y1 : ByteArray) (y2 : List ByteArray) : Bool :=
  ByteArray.toList (Option.getD y2[Int.toNat y0]? ByteArray.empty) == ByteArray.toList y1

def spec_l12Keyword_l0_4 (y0 : Int) : Int :=
  IntKind.wrap IntKind.i64 (y0 + (1 : Int))

def JL_spec_l12Keyword_l0 : X_spec_l12Keyword_l0 → List (Nat × SV)
  | (y0, y1, _) => [(4, (.one ⟨false, [(.val (.int IntKind.i64 y0))]⟩)), (3, (.one ⟨false, [(.ref 0)]⟩)), (0, (.one ⟨false, [(.val (.string y1))]⟩))]

def JE_spec_l12Keyword_l0 : X_spec_l12Keyword_l0 → List (Nat × Entry)
  | (_, _, y2) => [(0, (.row true 9 (CTy.str) y2))]

def XL_spec_l12Keyword_l0 : Nat → X_spec_l12Keyword_l0 → List (Nat × SV)
  | 0, (y0, _, _) => [(2, (.one ⟨false, [(.val (.int IntKind.i64 y0))]⟩))]
  | _, (_, _, _) => []

def XE_spec_l12Keyword_l0 : Nat → X_spec_l12Keyword_l0 → List (Nat × Entry)
  | 0, (_, _, y2) => [(0, (.row true 9 (CTy.str) y2))]
  | _, (_, _, y2) => [(0, (.row true 9 (CTy.str) y2))]

def lt_spec_l12Keyword_l0 : X_spec_l12Keyword_l0 → LT X_spec_l12Keyword_l0
  | (y0, y1, y2) => .ite (spec_l12Keyword_l0_0 y0 y2) (.need [(spec_l12Keyword_l0_1 y0), (spec_l12Keyword_l0_0 y0 y2), (spec_l12Keyword_l0_2 y0 y2)] (.ite (spec_l12Keyword_l0_3 y0 y1 y2) (.ext 0 [(0, 0)]) (.nrm ((spec_l12Keyword_l0_4 y0), y1, y2) [(0, 0)]))) (.ext 1 [(0, 0)])

def rd_spec_l12Keyword_l0 (s : St) : Option X_spec_l12Keyword_l0 :=
  (match s.look 4 with
  | some ⟨none, (.one ⟨false, [(.val (.int IntKind.i64 y0))]⟩)⟩ =>
  (match s.look 3 with
  | some ⟨none, (.one ⟨false, [(.ref 128)]⟩)⟩ =>
  (match s.look 0 with
  | some ⟨none, (.one ⟨false, [(.val (.string y1))]⟩)⟩ =>
  (match s.ent 128 with
  | some (.row true 9 (CTy.str) y2) =>
  some (y0, y1, y2)
  | _ => none)
  | _ => none)
  | _ => none)
  | _ => none)

def lp_spec_l12Keyword_l0 : Lp X_spec_l12Keyword_l0 where
  h := ⟨[6, 7, 8, 9, 12, 13, 14, 15, 16, 17, 18, 2, 10, 11, 4], [0], [], []⟩
  JL := JL_spec_l12Keyword_l0
  JE := JE_spec_l12Keyword_l0
  XL := XL_spec_l12Keyword_l0
  XE := XE_spec_l12Keyword_l0
  q := fun j => match j with | 0 => .ret | _ => .exit 0
  tags := [0, 1]
  lt := lt_spec_l12Keyword_l0
  fuel := fun (y0, y1, y2) => y0.natAbs + y1.size + y2.length
  fix := fun (_, y1, y2) (y0, _, _) => (y0, y1, y2)
  σ := [(0, 128)]
  rd := rd_spec_l12Keyword_l0

theorem lpok_spec_l12Keyword_l0 : LoopOk Tryd.prog (fun k => Nat.blt k Tryd.f131.ntmps) lp_spec_l12Keyword_l0.F (loopAt Tryd.f131 0) := by
  refine Lp.ok (tbl := [p_spec_l12Keywords]) (lf := []) hmix lp_spec_l12Keyword_l0 (by kernel_rfl) (LOk.nil _) (fun _ => rfl) (fun j _ => by unfold lp_spec_l12Keyword_l0; match j with | 0 => rfl | _ + 1 => rfl) ?_ ?_ ?_ ?_ (fun _ => rfl) ?_
  · intro x; obtain ⟨y0, y1, y2⟩ := x; kernel_rfl
  · intro x; obtain ⟨y0, y1, y2⟩ := x; kernel_rfl
  · intro s x h
    have h : rd_spec_l12Keyword_l0 s = some x := h
    unfold rd_spec_l12Keyword_l0 at h
    repeat' split at h
    all_goals cases h
    exact ⟨absS_cons (by assumption) rfl (absS_cons (by assumption) rfl (absS_cons (by assumption) rfl (rfl))), absE_cons rfl (by assumption) rfl (rfl)⟩
  · intro x; obtain ⟨y0, y1, y2⟩ := x; kernel_rfl
  · intro x z; obtain ⟨y0, y1, y2⟩ := x; exact (And.intro (And.intro trivial rfl) trivial)

def spec_l12Keyword_a0 (x0 : ByteArray) : Int × ByteArray × List ByteArray :=
  ((0 : Int), x0, spec_l12Keywords_0)

def spec_l12Keyword_0 (x0 : ByteArray) : Int :=
  bif Nat.beq (Prod.fst (Lp.res lp_spec_l12Keyword_l0 (spec_l12Keyword_a0 x0))) (0 : Nat) then
  Prod.fst (Prod.snd (Lp.res lp_spec_l12Keyword_l0 (spec_l12Keyword_a0 x0)))
  else (-1 : Int)

def spec_l12Keyword_1 (x0 : ByteArray) : Bool :=
  allT [Lp.fin lp_spec_l12Keyword_l0 (spec_l12Keyword_a0 x0)]

def F_spec_l12Keyword : List SV → List Entry → Option Out
  | [.one ⟨false, [.val (.string x0)]⟩], [] => some ⟨(.one ⟨false, [(.val (.int IntKind.i64 (spec_l12Keyword_0 x0)))]⟩), [], [], [(spec_l12Keyword_1 x0)]⟩
  | _, _ => none

def p_spec_l12Keyword : PF Tryd.prog := PF.ofG Tryd.prog [p_spec_l12Keywords] [lp_spec_l12Keyword_l0.F] hmix 131 Tryd.f131 Tryd.func131 (LOk.fnT (l := [loopAt Tryd.f131 0]) (by kernel_rfl) (.cons lpok_spec_l12Keyword_l0 (.nil _))) F_spec_l12Keyword (by
  intro vs es r h; unfold F_spec_l12Keyword at h; split at h
  · cases h; kernel_rfl
  · cases h)

def internal_stringslite_IndexByte_0 (x0 : ByteArray) (x1 : Int) : Int :=
  ibs x0 x1

def F_internal_stringslite_IndexByte : List SV → List Entry → Option Out
  | [.one ⟨false, [.val (.string x0)]⟩, .one ⟨false, [.val (.int .u8 x1)]⟩], [] => some ⟨(.one ⟨false, [(.val (.int IntKind.i64 (internal_stringslite_IndexByte_0 x0 x1)))]⟩), [], [], []⟩
  | _, _ => none

def p_internal_stringslite_IndexByte : PF Tryd.prog := PF.ofG Tryd.prog [] [] hmix 158 Tryd.f158 Tryd.func158 (fun c _ => LOk.nil c) F_internal_stringslite_IndexByte (by
  intro vs es r h; unfold F_internal_stringslite_IndexByte at h; split at h
  · cases h; kernel_rfl
  · cases h)

def strings_IndexByte_0 (x0 : ByteArray) (x1 : Int) : Int :=
  internal_stringslite_IndexByte_0 x0 x1

def F_strings_IndexByte : List SV → List Entry → Option Out
  | [.one ⟨false, [.val (.string x0)]⟩, .one ⟨false, [.val (.int .u8 x1)]⟩], [] => some ⟨(.one ⟨false, [(.val (.int IntKind.i64 (strings_IndexByte_0 x0 x1)))]⟩), [], [], []⟩
  | _, _ => none

def p_strings_IndexByte : PF Tryd.prog := PF.ofG Tryd.prog [p_internal_stringslite_IndexByte] [] hmix 144 Tryd.f144 Tryd.func144 (fun c _ => LOk.nil c) F_strings_IndexByte (by
  intro vs es r h; unfold F_strings_IndexByte at h; split at h
  · cases h; kernel_rfl
  · cases h)

abbrev X_impl_run_l0 := Int × Int × ByteArray × ByteArray

def impl_run_l0_a0 (y0 : Int) (y1 : Int) (y2 : ByteArray) : Bool :=
  ltI (IntKind.wrap IntKind.i64 (y0 + y1)) (↑(ByteArray.size y2) : Int)

def impl_run_l0_0 (y0 : Int) (y1 : Int) (y2 : ByteArray) : Bool :=
  !(impl_run_l0_a0 y0 y1 y2 && true) || leI (0 : Int) (IntKind.wrap IntKind.i64 (y0 + y1))

def impl_run_l0_1 (y0 : Int) (y1 : Int) (y2 : ByteArray) : Bool :=
  !(impl_run_l0_a0 y0 y1 y2 && true) || impl_run_l0_a0 y0 y1 y2

def impl_run_l0_2 (y0 : Int) (y1 : Int) (y2 : ByteArray) (y3 : ByteArray) : Bool :=
  bif impl_run_l0_a0 y0 y1 y2 then
  leI (0 : Int) (strings_IndexByte_0 y3 (↑(UInt8.toNat (Option.getD y2[Int.toNat (IntKind.wrap IntKind.i64 (y0 + y1))]? (0 : UInt8))) : Int))
  else false

def impl_run_l0_3 (y1 : Int) : Int :=
  IntKind.wrap IntKind.i64 (y1 + (1 : Int))

def JL_impl_run_l0 : X_impl_run_l0 → List (Nat × SV)
  | (y0, y1, y2, y3) => [(1, (.one ⟨false, [(.val (.int IntKind.i64 y0))]⟩)), (7, (.one ⟨false, [(.val (.int IntKind.i64 y1))]⟩)), (0, (.one ⟨false, [(.val (.string y2))]⟩)), (2, (.one ⟨false, [(.val (.string y3))]⟩))]

def JE_impl_run_l0 : X_impl_run_l0 → List (Nat × Entry)
  | (_, _, _, _) => []

def XL_impl_run_l0 : Nat → X_impl_run_l0 → List (Nat × SV)
  | _, (_, y1, _, _) => [(7, (.one ⟨false, [(.val (.int IntKind.i64 y1))]⟩))]

def XE_impl_run_l0 : Nat → X_impl_run_l0 → List (Nat × Entry)
  | _, (_, _, _, _) => []

def lt_impl_run_l0 : X_impl_run_l0 → LT X_impl_run_l0
  | (y0, y1, y2, y3) => .need [(impl_run_l0_0 y0 y1 y2), (impl_run_l0_1 y0 y1 y2)] (.ite (impl_run_l0_2 y0 y1 y2 y3) (.nrm (y0, (impl_run_l0_3 y1), y2, y3) []) (.ext 0 []))

def rd_impl_run_l0 (s : St) : Option X_impl_run_l0 :=
  (match s.look 1 with
  | some ⟨none, (.one ⟨false, [(.val (.int IntKind.i64 y0))]⟩)⟩ =>
  (match s.look 7 with
  | some ⟨none, (.one ⟨false, [(.val (.int IntKind.i64 y1))]⟩)⟩ =>
  (match s.look 0 with
  | some ⟨none, (.one ⟨false, [(.val (.string y2))]⟩)⟩ =>
  (match s.look 2 with
  | some ⟨none, (.one ⟨false, [(.val (.string y3))]⟩)⟩ =>
  some (y0, y1, y2, y3)
  | _ => none)
  | _ => none)
  | _ => none)
  | _ => none)

def lp_impl_run_l0 : Lp X_impl_run_l0 where
  h := ⟨[8, 9, 10, 11, 12, 13, 14, 15, 16, 17, 18, 19, 20, 21, 22, 23, 24, 25, 7], [], [], []⟩
  JL := JL_impl_run_l0
  JE := JE_impl_run_l0
  XL := XL_impl_run_l0
  XE := XE_impl_run_l0
  q := fun j => match j with | _ => .exit 0
  tags := [0]
  lt := lt_impl_run_l0
  fuel := fun (y0, y1, y2, y3) => y0.natAbs + y1.natAbs + y2.size + y3.size
  fix := fun (y0, _, y2, y3) (_, y1, _, _) => (y0, y1, y2, y3)
  σ := []
  rd := rd_impl_run_l0

theorem lpok_impl_run_l0 : LoopOk Tryd.prog (fun k => Nat.blt k Tryd.f145.ntmps) lp_impl_run_l0.F (loopAt Tryd.f145 0) := by
  refine Lp.ok (tbl := [p_strings_IndexByte]) (lf := []) hmix lp_impl_run_l0 (by kernel_rfl) (LOk.nil _) (fun _ => rfl) (fun _ _ => rfl) ?_ ?_ ?_ ?_ (fun _ => rfl) ?_
  · intro x; obtain ⟨y0, y1, y2, y3⟩ := x; kernel_rfl
  · intro x; obtain ⟨y0, y1, y2, y3⟩ := x; kernel_rfl
  · intro s x h
    have h : rd_impl_run_l0 s = some x := h
    unfold rd_impl_run_l0 at h
    repeat' split at h
    all_goals cases h
    exact ⟨absS_cons (by assumption) rfl (absS_cons (by assumption) rfl (absS_cons (by assumption) rfl (absS_cons (by assumption) rfl (rfl)))), rfl⟩
  · intro x; obtain ⟨y0, y1, y2, y3⟩ := x; kernel_rfl
  · intro x z; obtain ⟨y0, y1, y2, y3⟩ := x; exact (And.intro rfl trivial)

def impl_run_a0 (x0 : ByteArray) (x1 : Int) (x2 : ByteArray) : Int × Int × ByteArray × ByteArray :=
  (x1, (0 : Int), x0, x2)

def impl_run_0 (x0 : ByteArray) (x1 : Int) (x2 : ByteArray) : Int :=
  Prod.fst (Prod.snd (Prod.snd (Lp.res lp_impl_run_l0 (impl_run_a0 x0 x1 x2))))

def impl_run_1 (x0 : ByteArray) (x1 : Int) (x2 : ByteArray) : Bool :=
  allT [Lp.fin lp_impl_run_l0 (impl_run_a0 x0 x1 x2)]

def F_impl_run : List SV → List Entry → Option Out
  | [.one ⟨false, [.val (.string x0)]⟩, .one ⟨false, [.val (.int .i64 x1)]⟩, .one ⟨false, [.val (.string x2)]⟩], [] => some ⟨(.one ⟨false, [(.val (.int IntKind.i64 (impl_run_0 x0 x1 x2)))]⟩), [], [], [(impl_run_1 x0 x1 x2)]⟩
  | _, _ => none

def p_impl_run : PF Tryd.prog := PF.ofG Tryd.prog [p_strings_IndexByte] [lp_impl_run_l0.F] hmix 145 Tryd.f145 Tryd.func145 (LOk.fnT (l := [loopAt Tryd.f145 0]) (by kernel_rfl) (.cons lpok_impl_run_l0 (.nil _))) F_impl_run (by
  intro vs es r h; unfold F_impl_run at h; split at h
  · cases h; kernel_rfl
  · cases h)

def impl_isWord_a0 (x0 : ByteArray) : Bool :=
  impl_within_0 (↑(ByteArray.size x0) : Int) (1 : Int) (12 : Int)

def impl_isWord_a1 (x0 : ByteArray) : Bool :=
  bif impl_isWord_a0 x0 then
  leI (0 : Int)
    (strings_IndexByte_0
      {
        data :=
          #[(97 : UInt8), (98 : UInt8), (99 : UInt8), (100 : UInt8), (101 : UInt8), (102 : UInt8), (103 : UInt8), (104 : UInt8), (105 : UInt8),
            (106 : UInt8), (107 : UInt8), (108 : UInt8), (109 : UInt8), (110 : UInt8), (111 : UInt8), (112 : UInt8), (113 : UInt8), (114 : UInt8),
            (115 : UInt8), (116 : UInt8), (117 : UInt8), (118 : UInt8), (119 : UInt8), (120 : UInt8), (121 : UInt8), (122 : UInt8)] }
      (↑(UInt8.toNat (Option.getD x0[Int.toNat (0 : Int)]? (0 : UInt8))) : Int))
  else false

def impl_isWord_0 (x0 : ByteArray) : Bool :=
  bif impl_isWord_a1 x0 then
  impl_run_0 x0 (0 : Int)
      {
        data :=
          #[(97 : UInt8), (98 : UInt8), (99 : UInt8), (100 : UInt8), (101 : UInt8), (102 : UInt8), (103 : UInt8), (104 : UInt8), (105 : UInt8),
            (106 : UInt8), (107 : UInt8), (108 : UInt8), (109 : UInt8), (110 : UInt8), (111 : UInt8), (112 : UInt8), (113 : UInt8), (114 : UInt8),
            (115 : UInt8), (116 : UInt8), (117 : UInt8), (118 : UInt8), (119 : UInt8), (120 : UInt8), (121 : UInt8), (122 : UInt8), (48 : UInt8),
            (49 : UInt8), (50 : UInt8), (51 : UInt8), (52 : UInt8), (53 : UInt8), (54 : UInt8), (55 : UInt8), (56 : UInt8), (57 : UInt8),
            (95 : UInt8)] } ==
    (↑(ByteArray.size x0) : Int)
  else false

def impl_isWord_1 (x0 : ByteArray) : Bool :=
  allT
  [!(impl_isWord_a0 x0 && true) || leI (0 : Int) (0 : Int), !(impl_isWord_a0 x0 && true) || ltI (0 : Int) (↑(ByteArray.size x0) : Int),
    !(impl_isWord_a1 x0 && true) ||
      impl_run_1 x0 (0 : Int)
        {
          data :=
            #[(97 : UInt8), (98 : UInt8), (99 : UInt8), (100 : UInt8), (101 : UInt8), (102 : UInt8), (103 : UInt8), (104 : UInt8), (105 : UInt8),
              (106 : UInt8), (107 : UInt8), (108 : UInt8), (109 : UInt8), (110 : UInt8), (111 : UInt8), (112 : UInt8), (113 : UInt8), (114 : UInt8),
              (115 : UInt8), (116 : UInt8), (117 : UInt8), (118 : UInt8), (119 : UInt8), (120 : UInt8), (121 : UInt8), (122 : UInt8), (48 : UInt8),
              (49 : UInt8), (50 : UInt8), (51 : UInt8), (52 : UInt8), (53 : UInt8), (54 : UInt8), (55 : UInt8), (56 : UInt8), (57 : UInt8),
              (95 : UInt8)] }]

def F_impl_isWord : List SV → List Entry → Option Out
  | [.one ⟨false, [.val (.string x0)]⟩], [] => some ⟨(.one ⟨false, [(.val (.bool (impl_isWord_0 x0)))]⟩), [], [], [(impl_isWord_1 x0)]⟩
  | _, _ => none

def p_impl_isWord : PF Tryd.prog := PF.ofG Tryd.prog [p_impl_within, p_strings_IndexByte, p_impl_run] [] hmix 128 Tryd.f128 Tryd.func128 (fun c _ => LOk.nil c) F_impl_isWord (by
  intro vs es r h; unfold F_impl_isWord at h; split at h
  · cases h; kernel_rfl
  · cases h)

abbrev X_slices_Index_string_string_l0 := Int × Int × ByteArray × List ByteArray

def slices_Index_string_string_l0_0 (y0 : Int) (y1 : Int) : Bool :=
  ltI y0 y1

def slices_Index_string_string_l0_1 (y0 : Int) : Bool :=
  leI (0 : Int) y0

def slices_Index_string_string_l0_2 (y0 : Int) (y3 : List ByteArray) : Bool :=
  ltI y0 (↑(List.length y3) : Int)

def slices_Index_string_string_l0_3 (y0 : Int) (y3 : List ByteArray) : Bool :=
  ltN (Int.toNat y0) (List.length y3)

def slices_Index_string_string_l0_4 (y0 : Int) (y2 : ByteArray) (y3 : List ByteArray) : Bool :=
  ByteArray.toList y2 == ByteArray.toList (Option.getD y3[Int.toNat y0]? ByteArray.empty)

def slices_Index_string_string_l0_5 (y0 : Int) : Int :=
  IntKind.wrap IntKind.i64 (y0 + (1 : Int))

def JL_slices_Index_string_string_l0 : X_slices_Index_string_string_l0 → List (Nat × SV)
  | (y0, y1, y2, _) => [(8, (.one ⟨false, [(.val (.int IntKind.i64 y0))]⟩)), (7, (.one ⟨false, [(.val (.int IntKind.i64 y1))]⟩)), (1, (.one ⟨false, [(.val (.string y2))]⟩)), (0, (.one ⟨false, [(.ref 0)]⟩))]

def JE_slices_Index_string_string_l0 : X_slices_Index_string_string_l0 → List (Nat × Entry)
  | (_, _, _, y3) => [(0, (.row false 9 (CTy.str) y3))]

def XL_slices_Index_string_string_l0 : Nat → X_slices_Index_string_string_l0 → List (Nat × SV)
  | 0, (y0, _, _, _) => [(4, (.one ⟨false, [(.val (.int IntKind.i64 y0))]⟩))]
  | _, (_, _, _, _) => []

def XE_slices_Index_string_string_l0 : Nat → X_slices_Index_string_string_l0 → List (Nat × Entry)
  | 0, (_, _, _, y3) => [(0, (.row false 9 (CTy.str) y3))]
  | _, (_, _, _, y3) => [(0, (.row false 9 (CTy.str) y3))]

def lt_slices_Index_string_string_l0 : X_slices_Index_string_string_l0 → LT X_slices_Index_string_string_l0
  | (y0, y1, y2, y3) => .ite (slices_Index_string_string_l0_0 y0 y1) (.need [(slices_Index_string_string_l0_1 y0), (slices_Index_string_string_l0_2 y0 y3), (slices_Index_string_string_l0_3 y0 y3)] (.ite (slices_Index_string_string_l0_4 y0 y2 y3) (.ext 0 [(0, 0)]) (.nrm ((slices_Index_string_string_l0_5 y0), y1, y2, y3) [(0, 0)]))) (.ext 1 [(0, 0)])

def rd_slices_Index_string_string_l0 (s : St) : Option X_slices_Index_string_string_l0 :=
  (match s.look 8 with
  | some ⟨none, (.one ⟨false, [(.val (.int IntKind.i64 y0))]⟩)⟩ =>
  (match s.look 7 with
  | some ⟨none, (.one ⟨false, [(.val (.int IntKind.i64 y1))]⟩)⟩ =>
  (match s.look 1 with
  | some ⟨none, (.one ⟨false, [(.val (.string y2))]⟩)⟩ =>
  (match s.look 0 with
  | some ⟨none, (.one ⟨false, [(.ref 0)]⟩)⟩ =>
  (match s.ent 0 with
  | some (.row false 9 (CTy.str) y3) =>
  some (y0, y1, y2, y3)
  | _ => none)
  | _ => none)
  | _ => none)
  | _ => none)
  | _ => none)

def lp_slices_Index_string_string_l0 : Lp X_slices_Index_string_string_l0 where
  h := ⟨[9, 10, 5, 11, 12, 13, 14, 15, 16, 17, 4, 18, 8], [0], [], []⟩
  JL := JL_slices_Index_string_string_l0
  JE := JE_slices_Index_string_string_l0
  XL := XL_slices_Index_string_string_l0
  XE := XE_slices_Index_string_string_l0
  q := fun j => match j with | 0 => .ret | _ => .exit 0
  tags := [0, 1]
  lt := lt_slices_Index_string_string_l0
  fuel := fun (y0, y1, y2, y3) => y0.natAbs + y1.natAbs + y2.size + y3.length
  fix := fun (_, y1, y2, y3) (y0, _, _, _) => (y0, y1, y2, y3)
  σ := [(0, 0)]
  rd := rd_slices_Index_string_string_l0

theorem lpok_slices_Index_string_string_l0 : LoopOk Tryd.prog (fun k => Nat.blt k Tryd.f159.ntmps) lp_slices_Index_string_string_l0.F (loopAt Tryd.f159 0) := by
  refine Lp.ok (tbl := []) (lf := []) hmix lp_slices_Index_string_string_l0 (by kernel_rfl) (LOk.nil _) (fun _ => rfl) (fun j _ => by unfold lp_slices_Index_string_string_l0; match j with | 0 => rfl | _ + 1 => rfl) ?_ ?_ ?_ ?_ (fun _ => rfl) ?_
  · intro x; obtain ⟨y0, y1, y2, y3⟩ := x; kernel_rfl
  · intro x; obtain ⟨y0, y1, y2, y3⟩ := x; kernel_rfl
  · intro s x h
    have h : rd_slices_Index_string_string_l0 s = some x := h
    unfold rd_slices_Index_string_string_l0 at h
    repeat' split at h
    all_goals cases h
    exact ⟨absS_cons (by assumption) rfl (absS_cons (by assumption) rfl (absS_cons (by assumption) rfl (absS_cons (by assumption) rfl (rfl)))), absE_cons rfl (by assumption) rfl (rfl)⟩
  · intro x; obtain ⟨y0, y1, y2, y3⟩ := x; kernel_rfl
  · intro x z; obtain ⟨y0, y1, y2, y3⟩ := x; exact (And.intro (And.intro trivial rfl) trivial)

def slices_Index_string_string_a0 (x0 : ByteArray) (x1 : List ByteArray) : Int × Int × ByteArray × List ByteArray :=
  ((0 : Int), (↑(List.length x1) : Int), x0, x1)

def slices_Index_string_string_0 (x0 : ByteArray) (x1 : List ByteArray) : Int :=
  bif Nat.beq (Prod.fst (Lp.res lp_slices_Index_string_string_l0 (slices_Index_string_string_a0 x0 x1))) (0 : Nat) then
  Prod.fst (Prod.snd (Lp.res lp_slices_Index_string_string_l0 (slices_Index_string_string_a0 x0 x1)))
  else (-1 : Int)

def slices_Index_string_string_1 (x0 : ByteArray) (x1 : List ByteArray) : Bool :=
  allT [Lp.fin lp_slices_Index_string_string_l0 (slices_Index_string_string_a0 x0 x1)]

def F_slices_Index_string_string : List SV → List Entry → Option Out
  | [.one ⟨false, [.ref 0]⟩, .one ⟨false, [.val (.string x0)]⟩], [.row false 9 (.str) x1] => some ⟨(.one ⟨false, [(.val (.int IntKind.i64 (slices_Index_string_string_0 x0 x1)))]⟩), [(.row false 9 (CTy.str) x1)], [], [(slices_Index_string_string_1 x0 x1)]⟩
  | _, _ => none

def p_slices_Index_string_string : PF Tryd.prog := PF.ofG Tryd.prog [] [lp_slices_Index_string_string_l0.F] hmix 159 Tryd.f159 Tryd.func159 (LOk.fnT (l := [loopAt Tryd.f159 0]) (by kernel_rfl) (.cons lpok_slices_Index_string_string_l0 (.nil _))) F_slices_Index_string_string (by
  intro vs es r h; unfold F_slices_Index_string_string at h; split at h
  · cases h; kernel_rfl
  · cases h)

def slices_Contains_string_string_0 (x0 : ByteArray) (x1 : List ByteArray) : Bool :=
  leI (0 : Int) (slices_Index_string_string_0 x0 x1)

def slices_Contains_string_string_1 (x0 : ByteArray) (x1 : List ByteArray) : Bool :=
  allT [slices_Index_string_string_1 x0 x1]

def F_slices_Contains_string_string : List SV → List Entry → Option Out
  | [.one ⟨false, [.ref 0]⟩, .one ⟨false, [.val (.string x0)]⟩], [.row false 9 (.str) x1] => some ⟨(.one ⟨false, [(.val (.bool (slices_Contains_string_string_0 x0 x1)))]⟩), [(.row false 9 (CTy.str) x1)], [], [(slices_Contains_string_string_1 x0 x1)]⟩
  | _, _ => none

def p_slices_Contains_string_string : PF Tryd.prog := PF.ofG Tryd.prog [p_slices_Index_string_string, PF.lend p_slices_Index_string_string, PF.fz p_slices_Index_string_string] [] hmix 146 Tryd.f146 Tryd.func146 (fun c _ => LOk.nil c) F_slices_Contains_string_string (by
  intro vs es r h; unfold F_slices_Contains_string_string at h; split at h
  · cases h; kernel_rfl
  · cases h)

def impl_IsKeyword_0 (x0 : ByteArray) : Bool :=
  slices_Contains_string_string_0 x0 (List.drop (Int.toNat (0 : Int)) (List.take (Int.toNat (↑(List.length tab0) : Int)) tab0))

def impl_IsKeyword_1 (x0 : ByteArray) : Bool :=
  allT [slices_Contains_string_string_1 x0 (List.drop (Int.toNat (0 : Int)) (List.take (Int.toNat (↑(List.length tab0) : Int)) tab0))]

def F_impl_IsKeyword : List SV → List Entry → Option Out
  | [.one ⟨false, [.val (.string x0)]⟩], [] => some ⟨(.one ⟨false, [(.val (.bool (impl_IsKeyword_0 x0)))]⟩), [], [], [(impl_IsKeyword_1 x0)]⟩
  | _, _ => none

def p_impl_IsKeyword : PF Tryd.prog := PF.ofG Tryd.prog [p_slices_Contains_string_string, PF.lend p_slices_Contains_string_string, PF.fz p_slices_Contains_string_string] [] hmix 129 Tryd.f129 Tryd.func129 (fun c _ => LOk.nil c) F_impl_IsKeyword (by
  intro vs es r h; unfold F_impl_IsKeyword at h; split at h
  · cases h; kernel_rfl
  · cases h)

end Go.SX

/- What functions of the program come to, and what that says in plain words: part 3. -/
import Derived.Test.YtbbfgoobcjlooaaGreatDoorPb
import Derived.Test.YtbbfgoobcjlooaaGreatDoorTXh
import Derived.Test.YtbbfgoobcjlooaaGreatDoorProg
import Derived.Test.YtbbfgoobcjlooaaGreatDoorTXi
set_option linter.unusedSimpArgs false
set_option linter.unusedVariables false
namespace Go.SX
open Go.Proofs
set_option maxRecDepth 100000

def kis (x0 : List Int) (x1 : Int) : Bool :=
  !bitsB x1 x0

def ki8 (x0 : List Int) : Bool :=
  allT [leN (List.length x0) (9223372036854775807 : Nat)]

def ko2 : List SV → List Entry → Option Out
  | [(.one ⟨false, [(.ref 0)]⟩), (.one ⟨false, [(.ptr 1 0)]⟩)], [(.row false 2 (CTy.int IntKind.i64) x0), (.box 34 [(.val (.int IntKind.i64 x1)), (.val (.int IntKind.i64 x2)), (.val (.int IntKind.i64 x3)), (.ref 2), (.ref 3)]), (.row false 178 (CTy.pair (CTy.int IntKind.i64) (CTy.pair CTy.str (CTy.int IntKind.i64))) x4), (.row false 150 (CTy.pair (CTy.int IntKind.i64) (CTy.int IntKind.i64)) x5)] => some ⟨(.one ⟨false, [(.val (.bool (kis x0 x1)))]⟩), [(.row false 2 (CTy.int IntKind.i64) x0), (.box 34 [(.val (.int IntKind.i64 x1)), (.val (.int IntKind.i64 x2)), (.val (.int IntKind.i64 x3)), (.ref 2), (.ref 3)]), (.row false 178 (CTy.pair (CTy.int IntKind.i64) (CTy.pair CTy.str (CTy.int IntKind.i64))) x4), (.row false 150 (CTy.pair (CTy.int IntKind.i64) (CTy.int IntKind.i64)) x5)], [], [(ki8 x0)]⟩
  | _, _ => none

def k8t : PF Tryz.prog := PF.ofG Tryz.prog [kej, PF.lend kej, PF.fz kej] [] hmix 164 Tryz.f164 Tryz.func164 (fun c _ => LOk.nil c) ko2 (by
  intro vs es r h; unfold ko2 at h; split at h
  · cases h; kernel_rfl
  · cases h)

abbrev k1k := Int × Int × Int × Int × Int × List (List Int) × List (Int × (ByteArray × Int)) × List (Int × Int)

def k1v (y0 : Int) (y5 : List (List Int)) : List Int :=
  Option.getD y5[Int.toNat y0]? (dflt (CTy.sl (2 : TypeId) (CTy.int IntKind.i64)))

def k3q (y0 : Int) (y1 : Int) : Bool :=
  ltI y0 y1

def k6f (y0 : Int) : Bool :=
  leI (0 : Int) y0

def k6c (y0 : Int) (y5 : List (List Int)) : Bool :=
  ltI y0 (↑(List.length y5) : Int)

def k6d (y0 : Int) (y5 : List (List Int)) : Bool :=
  ltN (Int.toNat y0) (List.length y5)

def k6b (y0 : Int) (y5 : List (List Int)) : Bool :=
  ki8 (k1v y0 y5)

def k3u (y0 : Int) (y2 : Int) (y5 : List (List Int)) : Bool :=
  kis (k1v y0 y5) y2

def k69 (y0 : Int) : Int :=
  IntKind.wrap IntKind.i64 (y0 + (1 : Int))

def kle : k1k → List (Nat × SV)
  | (y0, y1, _, _, _, _, _, _) => [(8, (.one ⟨false, [(.val (.int IntKind.i64 y0))]⟩)), (7, (.one ⟨false, [(.val (.int IntKind.i64 y1))]⟩)), (1, (.one ⟨false, [(.clo 164 [0])]⟩)), (0, (.one ⟨false, [(.ref 1)]⟩))]

def klr : k1k → List (Nat × Entry)
  | (_, _, y2, y3, y4, y5, y6, y7) => [(0, (.box 34 [(.val (.int IntKind.i64 y2)), (.val (.int IntKind.i64 y3)), (.val (.int IntKind.i64 y4)), (.ref 2), (.ref 3)])), (1, (.row false 41 (CTy.sl (2 : TypeId) (CTy.int IntKind.i64)) y5)), (2, (.row false 178 (CTy.pair (CTy.int IntKind.i64) (CTy.pair CTy.str (CTy.int IntKind.i64))) y6)), (3, (.row false 150 (CTy.pair (CTy.int IntKind.i64) (CTy.int IntKind.i64)) y7))]

def kll : Nat → k1k → List (Nat × SV)
  | 0, (y0, _, _, _, _, _, _, _) => [(4, (.one ⟨false, [(.val (.int IntKind.i64 y0))]⟩))]
  | _, (_, _, _, _, _, _, _, _) => []

def klh : Nat → k1k → List (Nat × Entry)
  | 0, (_, _, y2, y3, y4, y5, y6, y7) => [(0, (.box 34 [(.val (.int IntKind.i64 y2)), (.val (.int IntKind.i64 y3)), (.val (.int IntKind.i64 y4)), (.ref 2), (.ref 3)])), (1, (.row false 41 (CTy.sl (2 : TypeId) (CTy.int IntKind.i64)) y5)), (2, (.row false 178 (CTy.pair (CTy.int IntKind.i64) (CTy.pair CTy.str (CTy.int IntKind.i64))) y6)), (3, (.row false 150 (CTy.pair (CTy.int IntKind.i64) (CTy.int IntKind.i64)) y7))]
  | _, (_, _, y2, y3, y4, y5, y6, y7) => [(0, (.box 34 [(.val (.int IntKind.i64 y2)), (.val (.int IntKind.i64 y3)), (.val (.int IntKind.i64 y4)), (.ref 2), (.ref 3)])), (1, (.row false 41 (CTy.sl (2 : TypeId) (CTy.int IntKind.i64)) y5)), (2, (.row false 178 (CTy.pair (CTy.int IntKind.i64) (CTy.pair CTy.str (CTy.int IntKind.i64))) y6)), (3, (.row false 150 (CTy.pair (CTy.int IntKind.i64) (CTy.int IntKind.i64)) y7))]

def k3m : k1k → LT k1k
  | (y0, y1, y2, y3, y4, y5, y6, y7) => .ite (k3q y0 y1) (.need [(k6f y0), (k6c y0 y5), (k6d y0 y5), (k6b y0 y5)] (.ite (k3u y0 y2 y5) (.ext 0 [(0, 0), (1, 1), (2, 2), (3, 3)]) (.nrm ((k69 y0), y1, y2, y3, y4, y5, y6, y7) [(0, 0), (1, 1), (2, 2), (3, 3)]))) (.ext 1 [(0, 0), (1, 1), (2, 2), (3, 3)])

def k96 (s : St) : Option k1k :=
  (match s.look 8 with
  | some ⟨none, (.one ⟨false, [(.val (.int IntKind.i64 y0))]⟩)⟩ =>
  (match s.look 7 with
  | some ⟨none, (.one ⟨false, [(.val (.int IntKind.i64 y1))]⟩)⟩ =>
  (match s.look 1 with
  | some ⟨none, (.one ⟨false, [(.clo 164 [1])]⟩)⟩ =>
  (match s.look 0 with
  | some ⟨none, (.one ⟨false, [(.ref 0)]⟩)⟩ =>
  (match s.ent 1 with
  | some (.box 34 [(.val (.int IntKind.i64 y2)), (.val (.int IntKind.i64 y3)), (.val (.int IntKind.i64 y4)), (.ref 2), (.ref 3)]) =>
  (match s.ent 0 with
  | some (.row false 41 (CTy.sl (2 : TypeId) (CTy.int IntKind.i64)) y5) =>
  (match s.ent 2 with
  | some (.row false 178 (CTy.pair (CTy.int IntKind.i64) (CTy.pair CTy.str (CTy.int IntKind.i64))) y6) =>
  (match s.ent 3 with
  | some (.row false 150 (CTy.pair (CTy.int IntKind.i64) (CTy.int IntKind.i64)) y7) =>
  some (y0, y1, y2, y3, y4, y5, y6, y7)
  | _ => none)
  | _ => none)
  | _ => none)
  | _ => none)
  | _ => none)
  | _ => none)
  | _ => none)
  | _ => none)

def ku : Lp k1k where
  h := ⟨[9, 10, 5, 11, 12, 13, 14, 15, 16, 17, 4, 18, 8], [0, 1, 2, 3], [], []⟩
  JL := kle
  JE := klr
  XL := kll
  XE := klh
  q := fun j => match j with | 0 => .ret | _ => .exit 0
  tags := [0, 1]
  lt := k3m
  fuel := fun (y0, y1, y2, y3, y4, y5, y6, y7) => y0.natAbs + y1.natAbs + y2.natAbs + y3.natAbs + y4.natAbs + y5.length + y6.length + y7.length
  fix := fun (_, y1, y2, y3, y4, y5, y6, y7) (y0, _, _, _, _, _, _, _) => (y0, y1, y2, y3, y4, y5, y6, y7)
  σ := [(0, 1), (1, 0), (2, 2), (3, 3)]
  rd := k96

theorem kkw : LoopOk Tryz.prog (fun k => Nat.blt k Tryz.f217.ntmps) ku.F (loopAt Tryz.f217 0) := by
  refine Lp.ok (tbl := [k8t, PF.lend k8t, PF.fz k8t]) (lf := []) hmix ku (by kernel_rfl) (LOk.nil _) (fun _ => rfl) (fun j _ => by unfold ku; match j with | 0 => rfl | _ + 1 => rfl) ?_ ?_ ?_ ?_ (fun _ => rfl) ?_
  · intro x; obtain ⟨y0, y1, y2, y3, y4, y5, y6, y7⟩ := x; kernel_rfl
  · intro x; obtain ⟨y0, y1, y2, y3, y4, y5, y6, y7⟩ := x; kernel_rfl
  · intro s x h
    have h : k96 s = some x := h
    unfold k96 at h
    repeat' split at h
    all_goals cases h
    exact ⟨absS_cons (by assumption) rfl (absS_cons (by assumption) rfl (absS_cons (by assumption) rfl (absS_cons (by assumption) rfl (rfl)))), absE_cons rfl (by assumption) rfl (absE_cons rfl (by assumption) rfl (absE_cons rfl (by assumption) rfl (absE_cons rfl (by assumption) rfl (rfl))))⟩
  · intro x; obtain ⟨y0, y1, y2, y3, y4, y5, y6, y7⟩ := x; kernel_rfl
  · intro x z; obtain ⟨y0, y1, y2, y3, y4, y5, y6, y7⟩ := x; exact (And.intro (And.intro trivial rfl) trivial)

def k6y (x0 : List (List Int)) (x1 : Int) (x2 : Int) (x3 : Int) (x4 : List (Int × ByteArray × Int)) (x5 : List (Int × Int)) : Int × Int × Int × Int × Int × List (List Int) × List (Int × ByteArray × Int) × List (Int × Int) :=
  ((0 : Int), (↑(List.length x0) : Int), x1, x2, x3, x0, x4, x5)

def k4o (x0 : List (List Int)) (x1 : Int) (x2 : Int) (x3 : Int) (x4 : List (Int × ByteArray × Int)) (x5 : List (Int × Int)) : Bool :=
  Nat.beq (Prod.fst (Lp.res ku (k6y x0 x1 x2 x3 x4 x5))) (0 : Nat)

def kb7 (x0 : List (List Int)) (x1 : Int) (x2 : Int) (x3 : Int) (x4 : List (Int × ByteArray × Int)) (x5 : List (Int × Int)) : Int :=
  bif k4o x0 x1 x2 x3 x4 x5 then
  Prod.fst (Prod.snd (Lp.res ku (k6y x0 x1 x2 x3 x4 x5)))
  else (-1 : Int)

def kft (x0 : List (List Int)) (x1 : Int) (x2 : Int) (x3 : Int) (x4 : List (Int × ByteArray × Int)) (x5 : List (Int × Int)) : Int :=
  bif k4o x0 x1 x2 x3 x4 x5 then x1 else x1

def kff (x0 : List (List Int)) (x1 : Int) (x2 : Int) (x3 : Int) (x4 : List (Int × ByteArray × Int)) (x5 : List (Int × Int)) : Int :=
  bif k4o x0 x1 x2 x3 x4 x5 then x2 else x2

def kf4 (x0 : List (List Int)) (x1 : Int) (x2 : Int) (x3 : Int) (x4 : List (Int × ByteArray × Int)) (x5 : List (Int × Int)) : Int :=
  bif k4o x0 x1 x2 x3 x4 x5 then x3 else x3

def kb6 (x0 : List (List Int)) (x1 : Int) (x2 : Int) (x3 : Int) (x4 : List (Int × ByteArray × Int)) (x5 : List (Int × Int)) : Bool :=
  allT [Lp.fin ku (k6y x0 x1 x2 x3 x4 x5)]

def kfe : List SV → List Entry → Option Out
  | [(.one ⟨false, [(.ref 0)]⟩), (.one ⟨false, [(.clo 164 [1])]⟩)], [(.row false 41 (CTy.sl (2 : TypeId) (CTy.int IntKind.i64)) x0), (.box 34 [(.val (.int IntKind.i64 x1)), (.val (.int IntKind.i64 x2)), (.val (.int IntKind.i64 x3)), (.ref 2), (.ref 3)]), (.row false 178 (CTy.pair (CTy.int IntKind.i64) (CTy.pair CTy.str (CTy.int IntKind.i64))) x4), (.row false 150 (CTy.pair (CTy.int IntKind.i64) (CTy.int IntKind.i64)) x5)] => some ⟨(.one ⟨false, [(.val (.int IntKind.i64 (kb7 x0 x1 x2 x3 x4 x5)))]⟩), [(.row false 41 (CTy.sl (2 : TypeId) (CTy.int IntKind.i64)) x0), (.box 34 [(.val (.int IntKind.i64 (kft x0 x1 x2 x3 x4 x5))), (.val (.int IntKind.i64 (kff x0 x1 x2 x3 x4 x5))), (.val (.int IntKind.i64 (kf4 x0 x1 x2 x3 x4 x5))), (.ref 2), (.ref 3)]), (.row false 178 (CTy.pair (CTy.int IntKind.i64) (CTy.pair CTy.str (CTy.int IntKind.i64))) x4), (.row false 150 (CTy.pair (CTy.int IntKind.i64) (CTy.int IntKind.i64)) x5)], [], [(kb6 x0 x1 x2 x3 x4 x5)]⟩
  | _, _ => none

def kb4 : PF Tryz.prog := PF.ofG Tryz.prog [k8t, PF.lend k8t, PF.fz k8t] [ku.F] hmix 217 Tryz.f217 Tryz.func217 (LOk.fnT (l := [loopAt Tryz.f217 0]) (by kernel_rfl) (.cons kkw (.nil _))) kfe (by
  intro vs es r h; unfold kfe at h; split at h
  · cases h; kernel_rfl
  · cases h)

def k9p (x0 : List (List Int)) (x1 : Int) (x2 : Int) (x3 : Int) (x4 : List (Int × ByteArray × Int)) (x5 : List (Int × Int)) : Bool :=
  leI (0 : Int) (kb7 x0 x1 x2 x3 x4 x5)

def km4 (x0 : List (List Int)) (x1 : Int) (x2 : Int) (x3 : Int) (x4 : List (Int × ByteArray × Int)) (x5 : List (Int × Int)) : Int :=
  kft x0 x1 x2 x3 x4 x5

def kmr (x0 : List (List Int)) (x1 : Int) (x2 : Int) (x3 : Int) (x4 : List (Int × ByteArray × Int)) (x5 : List (Int × Int)) : Int :=
  kff x0 x1 x2 x3 x4 x5

def km0 (x0 : List (List Int)) (x1 : Int) (x2 : Int) (x3 : Int) (x4 : List (Int × ByteArray × Int)) (x5 : List (Int × Int)) : Int :=
  kf4 x0 x1 x2 x3 x4 x5

def k9i (x0 : List (List Int)) (x1 : Int) (x2 : Int) (x3 : Int) (x4 : List (Int × ByteArray × Int)) (x5 : List (Int × Int)) : Bool :=
  allT [kb6 x0 x1 x2 x3 x4 x5]

def kdt : List SV → List Entry → Option Out
  | [(.one ⟨false, [(.ref 0)]⟩), (.one ⟨false, [(.clo 164 [1])]⟩)], [(.row false 41 (CTy.sl (2 : TypeId) (CTy.int IntKind.i64)) x0), (.box 34 [(.val (.int IntKind.i64 x1)), (.val (.int IntKind.i64 x2)), (.val (.int IntKind.i64 x3)), (.ref 2), (.ref 3)]), (.row false 178 (CTy.pair (CTy.int IntKind.i64) (CTy.pair CTy.str (CTy.int IntKind.i64))) x4), (.row false 150 (CTy.pair (CTy.int IntKind.i64) (CTy.int IntKind.i64)) x5)] => some ⟨(.one ⟨false, [(.val (.bool (k9p x0 x1 x2 x3 x4 x5)))]⟩), [(.row false 41 (CTy.sl (2 : TypeId) (CTy.int IntKind.i64)) x0), (.box 34 [(.val (.int IntKind.i64 (km4 x0 x1 x2 x3 x4 x5))), (.val (.int IntKind.i64 (kmr x0 x1 x2 x3 x4 x5))), (.val (.int IntKind.i64 (km0 x0 x1 x2 x3 x4 x5))), (.ref 2), (.ref 3)]), (.row false 178 (CTy.pair (CTy.int IntKind.i64) (CTy.pair CTy.str (CTy.int IntKind.i64))) x4), (.row false 150 (CTy.pair (CTy.int IntKind.i64) (CTy.int IntKind.i64)) x5)], [], [(k9i x0 x1 x2 x3 x4 x5)]⟩
  | _, _ => none

def k9v : PF Tryz.prog := PF.ofG Tryz.prog [kb4, PF.lend kb4, PF.fz kb4] [] hmix 163 Tryz.f163 Tryz.func163 (fun c _ => LOk.nil c) kdt (by
  intro vs es r h; unfold kdt at h; split at h
  · cases h; kernel_rfl
  · cases h)

def kqj (x0 : Int) (x1 : Int) (x2 : Int) (x3 : List (Int × ByteArray × Int)) (x4 : List (Int × Int)) (x5 : List Int) (x6 : List (Int × Int × Int)) (x7 : List (List Int)) : Int :=
  bif !codeB x0 x1 x2 x3 x4 then (1 : Int)
  else bif bif !suitB x1 x3 x5 x6 then true else k9p x7 x0 x1 x2 x3 x4 then (2 : Int) else (0 : Int)

def kqk (x0 : Int) (x1 : Int) (x2 : Int) (x3 : List (Int × ByteArray × Int)) (x4 : List (Int × Int)) (x5 : List Int) (x6 : List (Int × Int × Int)) (x7 : List (List Int)) : Bool :=
  allT
  [!codeB x0 x1 x2 x3 x4 || leN (List.length x5) (9223372036854775807 : Nat) && (leN (List.length x3) (9223372036854775807 : Nat) && blksB x3),
    !codeB x0 x1 x2 x3 x4 || (!(!!suitB x1 x3 x5 x6 && true) || k9i x7 x0 x1 x2 x3 x4)]

def kuo : List SV → List Entry → Option Out
  | [.one ⟨true, [.val (.int .i64 x0), .val (.int .i64 x1), .val (.int .i64 x2), .ref 0, .ref 1]⟩, .one ⟨true, [.ref 2, .ref 3]⟩, .one ⟨false, [.ref 4]⟩], [.row false 178 (.pair (.int .i64) (.pair (.str) (.int .i64))) x3, .row false 150 (.pair (.int .i64) (.int .i64)) x4, .row false 2 (.int .i64) x5, .row false 172 (.pair (.int .i64) (.pair (.int .i64) (.int .i64))) x6, .row false 41 (.sl 2 (.int .i64)) x7] => some ⟨(.one ⟨false, [(.val (.int IntKind.i64 (kqj x0 x1 x2 x3 x4 x5 x6 x7)))]⟩), [(.row false 178 (CTy.pair (CTy.int IntKind.i64) (CTy.pair CTy.str (CTy.int IntKind.i64))) x3), (.row false 150 (CTy.pair (CTy.int IntKind.i64) (CTy.int IntKind.i64)) x4), (.row false 2 (CTy.int IntKind.i64) x5), (.row false 172 (CTy.pair (CTy.int IntKind.i64) (CTy.pair (CTy.int IntKind.i64) (CTy.int IntKind.i64))) x6), (.row false 41 (CTy.sl (2 : TypeId) (CTy.int IntKind.i64)) x7)], [], [(kqk x0 x1 x2 x3 x4 x5 x6 x7)]⟩
  | _, _ => none

def k124 : PF Tryz.prog := PF.ofG Tryz.prog [k9y, PF.lend k9y, PF.fz k9y, khc, PF.lend khc, PF.fz khc, k9v, PF.lend k9v, PF.fz k9v] [] hmix 94 Tryz.f94 Tryz.func94 (fun c _ => LOk.nil c) kuo (by
  intro vs es r h; unfold kuo at h; split at h
  · cases h; kernel_rfl
  · cases h)

end Go.SX

namespace Go.SX
open Go.Proofs
set_option maxRecDepth 100000

theorem k13v {i v o : Int} {bs : List TM} {st : List IN} (h : codeB i v o bs st = true) : ((0 ≤ i ∧ i ≤ 20) ∧ (0 ≤ v ∧ v ≤ 20) ∧ (0 ≤ o ∧ o ≤ 20) ∧ bs.length ≤ 2000 ∧ st.length ≤ 2000) ∧ blksB bs = true ∧ hgtOk i v o bs st = true := by
  simp only [codeB, Bool.and_eq_true] at h
  exact ⟨kw7.1 h.1, h.2.1, h.2.2⟩

def mcCode (i v o : Int) (bs : List TM) (st : List IN) (xs : List Int) (ss : List BS3) (l : List (List Int)) : Int := bif !codeB i v o bs st then 1 else bif !(suitB v bs xs ss && l.all (bitsB i)) then 2 else 0
def listNd (l : List (List Int)) : Bool := leN l.length 9223372036854775807 && l.all fun x => leN x.length 9223372036854775807
def mcNd (bs : List TM) (xs : List Int) (l : List (List Int)) : Bool := leN xs.length 9223372036854775807 && (leN bs.length 9223372036854775807 && listNd l)

def k3p (y2 : Int) (b : List Int) : (Unit) → Nat ⊕ (Unit)
  | _ => (bif ((kis ((b)) y2)) then (.inl 0) else (.inr ()))

def k1w (y2 : Int) (y3 : Int) (y4 : Int) (y5 : List (List Int)) (y6 : List (Int × (ByteArray × Int))) (y7 : List (Int × Int)) (i : Nat) : (Unit) → k1k
  | _ => ((i : Int), (↑(List.length y5) : Int), y2, y3, y4, y5, y6, y7)

def k90 : k1k → Unit
  | (_, _, _, _, _, _, _, _) => ()

theorem kmo (y2 : Int) (y3 : Int) (y4 : Int) (y5 : List (List Int)) (y6 : List (Int × (ByteArray × Int))) (y7 : List (Int × Int))  (hn : y5.length ≤ 9223372036854775807) (hA : ∀ x ∈ y5, x.length ≤ 9223372036854775807) :
    ku.fin ((0 : Int), (↑(List.length y5) : Int), y2, y3, y4, y5, y6, y7) = true ∧ ku.res ((0 : Int), (↑(List.length y5) : Int), y2, y3, y4, y5, y6, y7) = ((walkL (k3p y2) 1 y5 0 ()).1, (k1w y2 y3 y4 y5 y6 y7) (walkL (k3p y2) 1 y5 0 ()).2.1 (walkL (k3p y2) 1 y5 0 ()).2.2) := by
  have key := ku.along (k1w y2 y3 y4 y5 y6 y7) k90 (k3p y2) 1 (fun _ _ => True) y5 () (by trivial) (by simp only [ku, k1w]; omega) (fun i b a hb hI => ?_) (fun a hI => ?_)
  · exact key
  · obtain ⟨⟩ := a
    have hlt := (List.getElem?_eq_some_iff.1 hb).1
    have hget : ∀ d, Option.getD y5[i]? d = b := fun d => by rw [hb]; rfl
    have hw := wrap64 hlt hn
    have hdec : ltI (i : Int) (y5.length : Int) = true := ltI_t (by omega)
    have hnn : leI (0 : Int) (i : Int) = true := leI_t (by omega)
    have hltd : ltN i y5.length = true := ltN_t hlt
    refine ⟨?_, ?_, ?_, ?_⟩
    · have hg2 : k1v (i : Int) y5 = b := by simp only [k1v, Int.toNat_natCast]; exact hget _
      have h6 : leN b.length 9223372036854775807 = true := leN_t (hA b (List.mem_of_getElem? hb))
      simp [k3q, k6f, k6c, k6d, k6b, k3u, k69, k3m, ku, LT.nds, allT, k1w, ki8, hdec, hnn, hltd, hg2, h6]
    · simp [k1v, k3q, k6f, k6c, k6d, k6b, k3u, k69, k3m, ku, LT.each, k1w, k90, hw]
    · have hg2 : k1v (i : Int) y5 = b := by simp only [k1v, Int.toNat_natCast]; exact hget _
      simp only [k3q, k3u, k3m, ku, LT.fn, k1w, k90, k3p, Int.toNat_natCast, hdec, hg2, cond_true]
    · exact fun _ _ => trivial
  · obtain ⟨⟩ := a
    simp [k1v, k3q, k6f, k6c, k6d, k6b, k3u, k69, k3m, ku, LT.out, k1w]

theorem memCode (i v o : Int) (bs : List TM) (st : List IN) (xs : List Int) (ss : List BS3) (l : List (List Int)) (h : mcNd bs xs l = true) :
    kqj i v o bs st xs ss l = mcCode i v o bs st xs ss l ∧ kqk i v o bs st xs ss l = true := by
  simp only [mcNd, listNd, Bool.and_eq_true, List.all_eq_true, leN_iff] at h
  obtain ⟨hx, hb, hl, hA⟩ := h
  have t1 : leN xs.length 9223372036854775807 = true := leN_t hx
  have t2 : leN bs.length 9223372036854775807 = true := leN_t hb
  obtain ⟨w1, w2⟩ := kmo i v o l bs st hl hA
  rw [walk_stop (P := fun x => !bitsB i x) (j := 0) (fun x => rfl)] at w2
  have e5 : (l.any fun x => !bitsB i x) = !l.all (bitsB i) := by simp [List.all_eq_not_any_not]
  rw [e5] at w2
  have q : ∀ m : Nat, leI 0 (m : Int) = true := fun m => leI_t (by omega)
  have q2 : leI 0 (-1) = false := rfl
  simp only [kqj, kqk, k9p, k9i, kb7, kb6, k4o, k6y, w1, w2, t1, t2, mcCode, allT]
  cases hc : codeB i v o bs st with
  | false => exact ⟨rfl, rfl⟩
  | true =>
    rw [(k13v hc).2.1]
    cases suitB v bs xs ss <;> cases l.all (bitsB i) <;> simp [Nat.beq, q, q2, k1w]

def kum : List SV → List Entry → Option Out
  | [.one ⟨true, [.val (.int .i64 x0), .val (.int .i64 x1), .val (.int .i64 x2), .ref 0, .ref 1]⟩, .one ⟨true, [.ref 2, .ref 3]⟩, .one ⟨false, [.ref 4]⟩], [.row false 178 (.pair (.int .i64) (.pair (.str) (.int .i64))) x3, .row false 150 (.pair (.int .i64) (.int .i64)) x4, .row false 2 (.int .i64) x5, .row false 172 (.pair (.int .i64) (.pair (.int .i64) (.int .i64))) x6, .row false 41 (.sl 2 (.int .i64)) x7] => some ⟨(.one ⟨false, [(.val (.int IntKind.i64 (mcCode x0 x1 x2 x3 x4 x5 x6 x7)))]⟩), [(.row false 178 (CTy.pair (CTy.int IntKind.i64) (CTy.pair CTy.str (CTy.int IntKind.i64))) x3), (.row false 150 (CTy.pair (CTy.int IntKind.i64) (CTy.int IntKind.i64)) x4), (.row false 2 (CTy.int IntKind.i64) x5), (.row false 172 (CTy.pair (CTy.int IntKind.i64) (CTy.pair (CTy.int IntKind.i64) (CTy.int IntKind.i64))) x6), (.row false 41 (CTy.sl (2 : TypeId) (CTy.int IntKind.i64)) x7)], [], [mcNd x3 x5 x7]⟩
  | _, _ => none

def kg2 : PF Tryz.prog := PF.alt k124 kum (by
  intro args es o h hnd; unfold kum at h; split at h
  · rename_i x0 x1 x2 x3 x4 x5 x6 x7
    cases h
    have hnd := nd_fst hnd
    have hh := memCode x0 x1 x2 x3 x4 x5 x6 x7 hnd
    obtain ⟨e0, en⟩ := hh
    exact altok rfl (nd_one en) (by simp only [e0] <;> rfl) rfl rfl
  · cases h)

end Go.SX

namespace Go.SX
open Go.Proofs
set_option maxRecDepth 100000

abbrev k77 := Int × Int × List (List Int)

def k7m (y0 : Int) (y2 : List (List Int)) : List Int :=
  Option.getD y2[Int.toNat y0]? (dflt (CTy.sl (2 : TypeId) (CTy.int IntKind.i64)))

def kdo (y0 : Int) (y2 : List (List Int)) : Bool :=
  ltI y0 (↑(List.length y2) : Int)

def kl4 (y0 : Int) : Bool :=
  leI (0 : Int) y0

def kl6 (y0 : Int) (y2 : List (List Int)) : Bool :=
  ltN (Int.toNat y0) (List.length y2)

def kl2 (y0 : Int) (y1 : Int) (y2 : List (List Int)) : Bool :=
  leN (List.length (k7m y0 y2)) (9223372036854775807 : Nat) && (leI (-1 : Int) y1 && leI y1 (1048576 : Int))

def kgk (y0 : Int) (y1 : Int) (y2 : List (List Int)) : Bool :=
  ltI (szV y1 (k7m y0 y2)) (0 : Int)

def kh5  : Int :=
  (-1 : Int)

def kl8 (y0 : Int) : Int :=
  IntKind.wrap IntKind.i64 (y0 + (1 : Int))

def kh2 (y0 : Int) (y1 : Int) (y2 : List (List Int)) : Int :=
  szV y1 (k7m y0 y2)

def kyk : k77 → List (Nat × SV)
  | (y0, y1, _) => [(5, (.one ⟨false, [(.val (.int IntKind.i64 y0))]⟩)), (0, (.one ⟨false, [(.ref 0)]⟩)), (1, (.one ⟨false, [(.val (.int IntKind.i64 y1))]⟩))]

def kyl : k77 → List (Nat × Entry)
  | (_, _, y2) => [(0, (.row false 41 (CTy.sl (2 : TypeId) (CTy.int IntKind.i64)) y2))]

def ky1 : Nat → k77 → List (Nat × SV)
  | 0, (_, _, _) => [(4, (.one ⟨false, [(.val (.int IntKind.i64 (kh5)))]⟩))]
  | _, (_, y1, _) => [(1, (.one ⟨false, [(.val (.int IntKind.i64 y1))]⟩))]

def ky2 : Nat → k77 → List (Nat × Entry)
  | 0, (_, _, y2) => [(0, (.row false 41 (CTy.sl (2 : TypeId) (CTy.int IntKind.i64)) y2))]
  | _, (_, _, y2) => [(0, (.row false 41 (CTy.sl (2 : TypeId) (CTy.int IntKind.i64)) y2))]

def kfw : k77 → LT k77
  | (y0, y1, y2) => .ite (kdo y0 y2) (.need [(kl4 y0), (kdo y0 y2), (kl6 y0 y2), (kl2 y0 y1 y2)] (.ite (kgk y0 y1 y2) (.ext 0 [(0, 0)]) (.nrm ((kl8 y0), (kh2 y0 y1 y2), y2) [(0, 0)]))) (.ext 1 [(0, 0)])

def ko0 (s : St) : Option k77 :=
  (match s.look 5 with
  | some ⟨none, (.one ⟨false, [(.val (.int IntKind.i64 y0))]⟩)⟩ =>
  (match s.look 0 with
  | some ⟨none, (.one ⟨false, [(.ref 0)]⟩)⟩ =>
  (match s.look 1 with
  | some ⟨none, (.one ⟨false, [(.val (.int IntKind.i64 y1))]⟩)⟩ =>
  (match s.ent 0 with
  | some (.row false 41 (CTy.sl (2 : TypeId) (CTy.int IntKind.i64)) y2) =>
  some (y0, y1, y2)
  | _ => none)
  | _ => none)
  | _ => none)
  | _ => none)

def k2f : Lp k77 where
  h := ⟨[12, 13, 14, 15, 18, 19, 20, 21, 22, 23, 1, 24, 25, 4, 16, 17, 5], [0], [], []⟩
  JL := kyk
  JE := kyl
  XL := ky1
  XE := ky2
  q := fun j => match j with | 0 => .ret | _ => .exit 0
  tags := [0, 1]
  lt := kfw
  fuel := fun (y0, y1, y2) => y0.natAbs + y1.natAbs + y2.length
  fix := fun (_, _, y2) (y0, y1, _) => (y0, y1, y2)
  σ := [(0, 0)]
  rd := ko0

theorem kvx : LoopOk Tryz.prog (fun k => Nat.blt k Tryz.f16.ntmps) k2f.F (loopAt Tryz.f16 0) := by
  refine Lp.ok (tbl := [kkf, PF.lend kkf, PF.fz kkf]) (lf := []) hmix k2f (by kernel_rfl) (LOk.nil _) (fun _ => rfl) (fun j _ => by unfold k2f; match j with | 0 => rfl | _ + 1 => rfl) ?_ ?_ ?_ ?_ (fun _ => rfl) ?_
  · intro x; obtain ⟨y0, y1, y2⟩ := x; kernel_rfl
  · intro x; obtain ⟨y0, y1, y2⟩ := x; kernel_rfl
  · intro s x h
    have h : ko0 s = some x := h
    unfold ko0 at h
    repeat' split at h
    all_goals cases h
    exact ⟨absS_cons (by assumption) rfl (absS_cons (by assumption) rfl (absS_cons (by assumption) rfl (rfl))), absE_cons rfl (by assumption) rfl (rfl)⟩
  · intro x; obtain ⟨y0, y1, y2⟩ := x; kernel_rfl
  · intro x z; obtain ⟨y0, y1, y2⟩ := x; exact (And.intro (And.intro trivial rfl) trivial)

def knm (x0 : Int) (x1 : List (List Int)) : Int :=
  IntKind.wrap IntKind.i64 (x0 - (↑(List.length x1) : Int))

def knq (x0 : Int) (x1 : List (List Int)) : Int × Int × List (List Int) :=
  ((0 : Int), knm x0 x1, x1)

def krx (x0 : Int) (x1 : List (List Int)) : Int :=
  bif ltI (knm x0 x1) (0 : Int) then (-1 : Int)
  else
  bif Nat.beq (Prod.fst (Lp.res k2f (knq x0 x1))) (0 : Nat) then kh5
  else Prod.fst (Prod.snd (Prod.snd (Lp.res k2f (knq x0 x1))))

def krh (x0 : Int) (x1 : List (List Int)) : Bool :=
  allT [ltI (knm x0 x1) (0 : Int) || Lp.fin k2f (knq x0 x1)]

def kvs : List SV → List Entry → Option Out
  | [.one ⟨false, [.ref 0]⟩, .one ⟨false, [.val (.int .i64 x0)]⟩], [.row false 41 (.sl 2 (.int .i64)) x1] => some ⟨(.one ⟨false, [(.val (.int IntKind.i64 (krx x0 x1)))]⟩), [(.row false 41 (CTy.sl (2 : TypeId) (CTy.int IntKind.i64)) x1)], [], [(krh x0 x1)]⟩
  | _, _ => none

def k12n : PF Tryz.prog := PF.ofG Tryz.prog [kkf, PF.lend kkf, PF.fz kkf] [k2f.F] hmix 16 Tryz.f16 Tryz.func16 (LOk.fnT (l := [loopAt Tryz.f16 0]) (by kernel_rfl) (.cons kvx (.nil _))) kvs (by
  intro vs es r h; unfold kvs at h; split at h
  · cases h; kernel_rfl
  · cases h)

abbrev k8a := Int × List (List Int) × Int × Int × Int × List (Int × (ByteArray × Int)) × List (Int × Int)

def ka6 (y0 : Int) (y1 : List (List Int)) : List Int :=
  Option.getD y1[Int.toNat y0]? (dflt (CTy.sl (2 : TypeId) (CTy.int IntKind.i64)))

def kev (y0 : Int) (y1 : List (List Int)) : Bool :=
  ltI y0 (↑(List.length y1) : Int)

def kmb (y0 : Int) : Bool :=
  leI (0 : Int) y0

def km6 (y0 : Int) (y1 : List (List Int)) : Bool :=
  ltN (Int.toNat y0) (List.length y1)

def kmp (y0 : Int) (y1 : List (List Int)) : Bool :=
  leN (List.length (ka6 y0 y1)) (9223372036854775807 : Nat)

def khx (y0 : Int) (y1 : List (List Int)) (y2 : Int) : Bool :=
  !bitsB y2 (ka6 y0 y1)

def kmn (y0 : Int) : Int :=
  IntKind.wrap IntKind.i64 (y0 + (1 : Int))

def kzq : k8a → List (Nat × SV)
  | (y0, _, _, _, _, _, _) => [(6, (.one ⟨false, [(.val (.int IntKind.i64 y0))]⟩)), (1, (.one ⟨false, [(.ref 0)]⟩)), (2, (.one ⟨false, [(.ptr 1 0)]⟩))]

def kzh : k8a → List (Nat × Entry)
  | (_, y1, y2, y3, y4, y5, y6) => [(0, (.row false 41 (CTy.sl (2 : TypeId) (CTy.int IntKind.i64)) y1)), (1, (.box 34 [(.val (.int IntKind.i64 y2)), (.val (.int IntKind.i64 y3)), (.val (.int IntKind.i64 y4)), (.ref 2), (.ref 3)])), (2, (.row false 178 (CTy.pair (CTy.int IntKind.i64) (CTy.pair CTy.str (CTy.int IntKind.i64))) y5)), (3, (.row false 150 (CTy.pair (CTy.int IntKind.i64) (CTy.int IntKind.i64)) y6))]

def k107 : Nat → k8a → List (Nat × SV)
  | 0, (_, _, _, _, _, _, _) => [(4, (.one ⟨false, [(.ref 4)]⟩)), (5, (.one ⟨false, [(.val (.int IntKind.i64 (2 : Int)))]⟩))]
  | _, (_, _, _, _, _, _, _) => []

def kzr : Nat → k8a → List (Nat × Entry)
  | 0, (_, y1, y2, y3, y4, y5, y6) => [(0, (.row false 41 (CTy.sl (2 : TypeId) (CTy.int IntKind.i64)) y1)), (1, (.box 34 [(.val (.int IntKind.i64 y2)), (.val (.int IntKind.i64 y3)), (.val (.int IntKind.i64 y4)), (.ref 2), (.ref 3)])), (2, (.row false 178 (CTy.pair (CTy.int IntKind.i64) (CTy.pair CTy.str (CTy.int IntKind.i64))) y5)), (3, (.row false 150 (CTy.pair (CTy.int IntKind.i64) (CTy.int IntKind.i64)) y6)), (4, (.row true 41 (CTy.sl (2 : Nat) (CTy.int IntKind.i64)) []))]
  | _, (_, y1, y2, y3, y4, y5, y6) => [(0, (.row false 41 (CTy.sl (2 : TypeId) (CTy.int IntKind.i64)) y1)), (1, (.box 34 [(.val (.int IntKind.i64 y2)), (.val (.int IntKind.i64 y3)), (.val (.int IntKind.i64 y4)), (.ref 2), (.ref 3)])), (2, (.row false 178 (CTy.pair (CTy.int IntKind.i64) (CTy.pair CTy.str (CTy.int IntKind.i64))) y5)), (3, (.row false 150 (CTy.pair (CTy.int IntKind.i64) (CTy.int IntKind.i64)) y6))]

def kh3 : k8a → LT k8a
  | (y0, y1, y2, y3, y4, y5, y6) => .ite (kev y0 y1) (.need [(kmb y0), (kev y0 y1), (km6 y0 y1), (kmp y0 y1)] (.ite (khx y0 y1 y2) (.ext 0 [(0, 0), (1, 1), (2, 2), (3, 3), (4, 832)]) (.nrm ((kmn y0), y1, y2, y3, y4, y5, y6) [(0, 0), (1, 1), (2, 2), (3, 3)]))) (.ext 1 [(0, 0), (1, 1), (2, 2), (3, 3)])

def kov (s : St) : Option k8a :=
  (match s.look 6 with
  | some ⟨none, (.one ⟨false, [(.val (.int IntKind.i64 y0))]⟩)⟩ =>
  (match s.look 1 with
  | some ⟨none, (.one ⟨false, [(.ref 2)]⟩)⟩ =>
  (match s.look 2 with
  | some ⟨none, (.one ⟨false, [(.ptr 256 0)]⟩)⟩ =>
  (match s.ent 2 with
  | some (.row false 41 (CTy.sl (2 : TypeId) (CTy.int IntKind.i64)) y1) =>
  (match s.ent 256 with
  | some (.box 34 [(.val (.int IntKind.i64 y2)), (.val (.int IntKind.i64 y3)), (.val (.int IntKind.i64 y4)), (.ref 0), (.ref 1)]) =>
  (match s.ent 0 with
  | some (.row false 178 (CTy.pair (CTy.int IntKind.i64) (CTy.pair CTy.str (CTy.int IntKind.i64))) y5) =>
  (match s.ent 1 with
  | some (.row false 150 (CTy.pair (CTy.int IntKind.i64) (CTy.int IntKind.i64)) y6) =>
  some (y0, y1, y2, y3, y4, y5, y6)
  | _ => none)
  | _ => none)
  | _ => none)
  | _ => none)
  | _ => none)
  | _ => none)
  | _ => none)

def k37 : Lp k8a where
  h := ⟨[18, 19, 20, 21, 24, 25, 26, 27, 28, 29, 30, 31, 4, 5, 22, 23, 6], [0, 1, 2, 3], [], [4]⟩
  JL := kzq
  JE := kzh
  XL := k107
  XE := kzr
  q := fun j => match j with | 0 => .ret | _ => .exit 0
  tags := [0, 1]
  lt := kh3
  fuel := fun (y0, y1, y2, y3, y4, y5, y6) => y0.natAbs + y1.length + y2.natAbs + y3.natAbs + y4.natAbs + y5.length + y6.length
  fix := fun (_, y1, y2, y3, y4, y5, y6) (y0, _, _, _, _, _, _) => (y0, y1, y2, y3, y4, y5, y6)
  σ := [(0, 2), (1, 256), (2, 0), (3, 1)]
  rd := kov

theorem kwt : LoopOk Tryz.prog (fun k => Nat.blt k Tryz.f17.ntmps) k37.F (loopAt Tryz.f17 0) := by
  refine Lp.ok (tbl := [kh7, PF.lend kh7, PF.fz kh7, keh, PF.lend keh, PF.fz keh, kh9, PF.lend kh9, PF.fz kh9]) (lf := []) hmix k37 (by kernel_rfl) (LOk.nil _) (fun _ => rfl) (fun j _ => by unfold k37; match j with | 0 => rfl | _ + 1 => rfl) ?_ ?_ ?_ ?_ (fun _ => rfl) ?_
  · intro x; obtain ⟨y0, y1, y2, y3, y4, y5, y6⟩ := x; kernel_rfl
  · intro x; obtain ⟨y0, y1, y2, y3, y4, y5, y6⟩ := x; kernel_rfl
  · intro s x h
    have h : kov s = some x := h
    unfold kov at h
    repeat' split at h
    all_goals cases h
    exact ⟨absS_cons (by assumption) rfl (absS_cons (by assumption) rfl (absS_cons (by assumption) rfl (rfl))), absE_cons rfl (by assumption) rfl (absE_cons rfl (by assumption) rfl (absE_cons rfl (by assumption) rfl (absE_cons rfl (by assumption) rfl (rfl))))⟩
  · intro x; obtain ⟨y0, y1, y2, y3, y4, y5, y6⟩ := x; kernel_rfl
  · intro x z; obtain ⟨y0, y1, y2, y3, y4, y5, y6⟩ := x; exact (And.intro (And.intro trivial rfl) trivial)

abbrev k87 := Int × List (List Int) × Int × Int × Int × List (List Int) × List (Int × (ByteArray × Int)) × List (Int × Int) × List Int × List (Int × (Int × Int))

def k78 (y0 : Int) (y1 : List (List Int)) : List Int :=
  Option.getD y1[Int.toNat y0]? (dflt (CTy.sl (2 : TypeId) (CTy.int IntKind.i64)))

def kc0 (y0 : Int) (y1 : List (List Int)) (y4 : Int) (y6 : List (Int × (ByteArray × Int))) (y7 : List (Int × Int)) (y8 : List Int) (y9 : List (Int × (Int × Int))) : List (List Int) :=
  [Prod.fst (Prod.snd (Prod.snd (Prod.snd (rnM y4 y6 y7 (k78 y0 y1) y8 y9))))]

def kew (y0 : Int) (y1 : List (List Int)) : Bool :=
  ltI y0 (↑(List.length y1) : Int)

def km7 (y0 : Int) : Bool :=
  leI (0 : Int) y0

def kmk (y0 : Int) (y1 : List (List Int)) : Bool :=
  ltN (Int.toNat y0) (List.length y1)

def kmf (y0 : Int) (y1 : List (List Int)) (y2 : Int) (y3 : Int) (y4 : Int) (y6 : List (Int × (ByteArray × Int))) (y7 : List (Int × Int)) (y8 : List Int) (y9 : List (Int × (Int × Int))) : Bool :=
  exNd y2 y3 y4 y6 y7 (k78 y0 y1) y8 y9

def km1 (y0 : Int) (y1 : List (List Int)) (y4 : Int) (y5 : List (List Int)) (y6 : List (Int × (ByteArray × Int))) (y7 : List (Int × Int)) (y8 : List Int) (y9 : List (Int × (Int × Int))) : Bool :=
  leN (List.length y5 + List.length (kc0 y0 y1 y4 y6 y7 y8 y9)) (9223372036854775807 : Nat)

def kmm (y0 : Int) (y1 : List (List Int)) (y4 : Int) (y5 : List (List Int)) (y6 : List (Int × (ByteArray × Int))) (y7 : List (Int × Int)) (y8 : List Int) (y9 : List (Int × (Int × Int))) : Bool :=
  leN ((List.length y5 + List.length (kc0 y0 y1 y4 y6 y7 y8 y9)) * (24 : Nat)) (140737488355328 : Nat)

def kpa (y0 : Int) : Int :=
  IntKind.wrap IntKind.i64 (y0 + (1 : Int))

def kmh (y0 : Int) (y1 : List (List Int)) (y4 : Int) (y5 : List (List Int)) (y6 : List (Int × (ByteArray × Int))) (y7 : List (Int × Int)) (y8 : List Int) (y9 : List (Int × (Int × Int))) : List (List Int) :=
  y5 ++ kc0 y0 y1 y4 y6 y7 y8 y9

def kmd (y0 : Int) (y1 : List (List Int)) (y4 : Int) (y6 : List (Int × (ByteArray × Int))) (y7 : List (Int × Int)) (y8 : List Int) (y9 : List (Int × (Int × Int))) : List Int :=
  Prod.fst (Prod.snd (Prod.snd (rnM y4 y6 y7 (k78 y0 y1) y8 y9)))

def kmt (y0 : Int) (y1 : List (List Int)) (y4 : Int) (y6 : List (Int × (ByteArray × Int))) (y7 : List (Int × Int)) (y8 : List Int) (y9 : List (Int × (Int × Int))) : List (Int × (Int × Int)) :=
  Prod.snd (Prod.snd (Prod.snd (Prod.snd (rnM y4 y6 y7 (k78 y0 y1) y8 y9))))

def kzc : k87 → List (Nat × SV)
  | (y0, _, _, _, _, _, _, _, _, _) => [(9, (.one ⟨false, [(.val (.int IntKind.i64 y0))]⟩)), (1, (.one ⟨false, [(.ref 0)]⟩)), (2, (.one ⟨false, [(.ptr 1 0)]⟩)), (7, (.one ⟨false, [(.ptr 2 0)]⟩)), (8, (.one ⟨false, [(.ref 3)]⟩))]

def kz3 : k87 → List (Nat × Entry)
  | (_, y1, y2, y3, y4, y5, y6, y7, y8, y9) => [(0, (.row false 41 (CTy.sl (2 : TypeId) (CTy.int IntKind.i64)) y1)), (1, (.box 34 [(.val (.int IntKind.i64 y2)), (.val (.int IntKind.i64 y3)), (.val (.int IntKind.i64 y4)), (.ref 4), (.ref 5)])), (2, (.box 48 [(.ref 6), (.ref 7)])), (4, (.row false 178 (CTy.pair (CTy.int IntKind.i64) (CTy.pair CTy.str (CTy.int IntKind.i64))) y6)), (5, (.row false 150 (CTy.pair (CTy.int IntKind.i64) (CTy.int IntKind.i64)) y7)), (3, (.row true 41 (CTy.sl (2 : Nat) (CTy.int IntKind.i64)) y5)), (6, (.row false 2 (CTy.int IntKind.i64) y8)), (7, (.row false 172 (CTy.pair (CTy.int IntKind.i64) (CTy.pair (CTy.int IntKind.i64) (CTy.int IntKind.i64))) y9))]

def kzg : Nat → k87 → List (Nat × SV)
  | _, (_, _, _, _, _, _, _, _, _, _) => [(8, (.one ⟨false, [(.ref 3)]⟩))]

def kzd : Nat → k87 → List (Nat × Entry)
  | _, (_, y1, y2, y3, y4, y5, y6, y7, y8, y9) => [(0, (.row false 41 (CTy.sl (2 : TypeId) (CTy.int IntKind.i64)) y1)), (1, (.box 34 [(.val (.int IntKind.i64 y2)), (.val (.int IntKind.i64 y3)), (.val (.int IntKind.i64 y4)), (.ref 4), (.ref 5)])), (2, (.box 48 [(.ref 6), (.ref 7)])), (3, (.row true 41 (CTy.sl (2 : Nat) (CTy.int IntKind.i64)) y5)), (4, (.row false 178 (CTy.pair (CTy.int IntKind.i64) (CTy.pair CTy.str (CTy.int IntKind.i64))) y6)), (5, (.row false 150 (CTy.pair (CTy.int IntKind.i64) (CTy.int IntKind.i64)) y7)), (6, (.row false 2 (CTy.int IntKind.i64) y8)), (7, (.row false 172 (CTy.pair (CTy.int IntKind.i64) (CTy.pair (CTy.int IntKind.i64) (CTy.int IntKind.i64))) y9))]

def kgs : k87 → LT k87
  | (y0, y1, y2, y3, y4, y5, y6, y7, y8, y9) => .ite (kew y0 y1) (.need [(km7 y0), (kew y0 y1), (kmk y0 y1), (kmf y0 y1 y2 y3 y4 y6 y7 y8 y9)] (.need [(km1 y0 y1 y4 y5 y6 y7 y8 y9), (kmm y0 y1 y4 y5 y6 y7 y8 y9)] (.nrm ((kpa y0), y1, y2, y3, y4, (kmh y0 y1 y4 y5 y6 y7 y8 y9), y6, y7, (kmd y0 y1 y4 y6 y7 y8 y9), (kmt y0 y1 y4 y6 y7 y8 y9)) [(0, 0), (1, 1), (2, 2), (3, 1344), (4, 4), (5, 5), (6, 705), (7, 706)]))) (.ext 0 [(0, 0), (1, 1), (2, 2), (3, 3), (4, 4), (5, 5), (6, 6), (7, 7)])

def kon (s : St) : Option k87 :=
  (match s.look 9 with
  | some ⟨none, (.one ⟨false, [(.val (.int IntKind.i64 y0))]⟩)⟩ =>
  (match s.look 1 with
  | some ⟨none, (.one ⟨false, [(.ref 2)]⟩)⟩ =>
  (match s.look 2 with
  | some ⟨none, (.one ⟨false, [(.ptr 256 0)]⟩)⟩ =>
  (match s.look 7 with
  | some ⟨none, (.one ⟨false, [(.ptr 1472 0)]⟩)⟩ =>
  (match s.look 8 with
  | some ⟨none, (.one ⟨false, [(.ref 1600)]⟩)⟩ =>
  (match s.ent 2 with
  | some (.row false 41 (CTy.sl (2 : TypeId) (CTy.int IntKind.i64)) y1) =>
  (match s.ent 256 with
  | some (.box 34 [(.val (.int IntKind.i64 y2)), (.val (.int IntKind.i64 y3)), (.val (.int IntKind.i64 y4)), (.ref 0), (.ref 1)]) =>
  (match s.ent 1472 with
  | some (.box 48 [(.ref 2368), (.ref 3008)]) =>
  (match s.ent 0 with
  | some (.row false 178 (CTy.pair (CTy.int IntKind.i64) (CTy.pair CTy.str (CTy.int IntKind.i64))) y6) =>
  (match s.ent 1 with
  | some (.row false 150 (CTy.pair (CTy.int IntKind.i64) (CTy.int IntKind.i64)) y7) =>
  (match s.ent 1600 with
  | some (.row true 41 (CTy.sl (2 : Nat) (CTy.int IntKind.i64)) y5) =>
  (match s.ent 2368 with
  | some (.row false 2 (CTy.int IntKind.i64) y8) =>
  (match s.ent 3008 with
  | some (.row false 172 (CTy.pair (CTy.int IntKind.i64) (CTy.pair (CTy.int IntKind.i64) (CTy.int IntKind.i64))) y9) =>
  some (y0, y1, y2, y3, y4, y5, y6, y7, y8, y9)
  | _ => none)
  | _ => none)
  | _ => none)
  | _ => none)
  | _ => none)
  | _ => none)
  | _ => none)
  | _ => none)
  | _ => none)
  | _ => none)
  | _ => none)
  | _ => none)
  | _ => none)

def k3y : Lp k87 where
  h := ⟨[41, 42, 43, 44, 48, 49, 50, 51, 52, 53, 54, 47, 55, 56, 11, 10, 57, 58, 59, 60, 8, 61, 45, 46, 9], [0, 1, 2, 4, 5], [3, 6, 7], []⟩
  JL := kzc
  JE := kz3
  XL := kzg
  XE := kzd
  q := fun j => match j with | _ => .exit 2
  tags := [0]
  lt := kgs
  fuel := fun (y0, y1, y2, y3, y4, y5, y6, y7, y8, y9) => y0.natAbs + y1.length + y2.natAbs + y3.natAbs + y4.natAbs + y5.length + y6.length + y7.length + y8.length + y9.length
  fix := fun (_, y1, y2, y3, y4, _, y6, y7, _, _) (y0, _, _, _, _, y5, _, _, y8, y9) => (y0, y1, y2, y3, y4, y5, y6, y7, y8, y9)
  σ := [(0, 2), (1, 256), (2, 1472), (4, 0), (5, 1), (3, 1600), (6, 2368), (7, 3008)]
  rd := kon
  fz := [2]

theorem kwz : LoopOk Tryz.prog (fun k => Nat.blt k Tryz.f17.ntmps) k3y.F (loopAt Tryz.f17 1) := by
  refine Lp.ok (tbl := [kh7, PF.lend kh7, PF.fz kh7, keh, PF.lend keh, PF.fz keh, kh9, PF.lend kh9, PF.fz kh9]) (lf := []) hmix k3y (by kernel_rfl) (LOk.nil _) (fun _ => rfl) (fun _ _ => rfl) ?_ ?_ ?_ ?_ (fun _ => rfl) ?_
  · intro x; obtain ⟨y0, y1, y2, y3, y4, y5, y6, y7, y8, y9⟩ := x; kernel_rfl
  · intro x; obtain ⟨y0, y1, y2, y3, y4, y5, y6, y7, y8, y9⟩ := x; kernel_rfl
  · intro s x h
    have h : kon s = some x := h
    unfold kon at h
    repeat' split at h
    all_goals cases h
    exact ⟨absS_cons (by assumption) rfl (absS_cons (by assumption) rfl (absS_cons (by assumption) rfl (absS_cons (by assumption) rfl (absS_cons (by assumption) rfl (rfl))))), absE_cons rfl (by assumption) rfl (absE_cons rfl (by assumption) rfl (absE_cons rfl (by assumption) rfl (absE_cons rfl (by assumption) rfl (absE_cons rfl (by assumption) rfl (absE_cons rfl (by assumption) rfl (absE_cons rfl (by assumption) rfl (absE_cons rfl (by assumption) rfl (rfl))))))))⟩
  · intro x; obtain ⟨y0, y1, y2, y3, y4, y5, y6, y7, y8, y9⟩ := x; kernel_rfl
  · intro x z; obtain ⟨y0, y1, y2, y3, y4, y5, y6, y7, y8, y9⟩ := x; exact (And.intro rfl trivial)

def k6u (x5 : List (List Int)) : Bool :=
  ltI (200 : Int) (↑(List.length x5) : Int)

def kre (x0 : Int) (x1 : Int) (x2 : Int) (x3 : List (Int × ByteArray × Int)) (x4 : List (Int × Int)) (x5 : List (List Int)) : Int × List (List Int) × Int × Int × Int × List (Int × ByteArray × Int) × List (Int × Int) :=
  ((0 : Int), x5, x0, x1, x2, x3, x4)

def k7s (x0 : Int) (x1 : Int) (x2 : Int) (x3 : List (Int × ByteArray × Int)) (x4 : List (Int × Int)) (x5 : List (List Int)) : Bool :=
  Nat.beq (Prod.fst (Lp.res k37 (kre x0 x1 x2 x3 x4 x5))) (0 : Nat)

def ks5 (x0 : Int) (x1 : Int) (x2 : Int) (x3 : List (Int × ByteArray × Int)) (x4 : List (Int × Int)) (x5 : List (List Int)) : Int × List (List Int) × Int × Int × Int × List (List Int) × List (Int × ByteArray × Int) × List (Int × Int) × List Int × List (Int × Int × Int) :=
  ((0 : Int), x5, x0, x1, x2, [], x3, x4, List.replicate (Int.toNat x1) (0 : Int),
  List.replicate (Int.toNat (↑(List.length x3) : Int)) ((0 : Int), (0 : Int), (0 : Int)))

def ksu (x0 : Int) (x1 : Int) (x2 : Int) (x3 : List (Int × ByteArray × Int)) (x4 : List (Int × Int)) (x5 : List (List Int)) : Int :=
  bif !codeB x0 x1 x2 x3 x4 then (1 : Int)
  else bif k6u x5 then (3 : Int) else bif k7s x0 x1 x2 x3 x4 x5 then (2 : Int) else (0 : Int)

def ksz (x0 : Int) (x1 : Int) (x2 : Int) (x3 : List (Int × ByteArray × Int)) (x4 : List (Int × Int)) (x5 : List (List Int)) : List (List Int) :=
  bif !codeB x0 x1 x2 x3 x4 then []
  else
  bif k6u x5 then []
  else
    bif k7s x0 x1 x2 x3 x4 x5 then []
    else Prod.fst (Prod.snd (Prod.snd (Prod.snd (Prod.snd (Prod.snd (Prod.snd (Lp.res k3y (ks5 x0 x1 x2 x3 x4 x5))))))))

def ksw (x0 : Int) (x1 : Int) (x2 : Int) (x3 : List (Int × ByteArray × Int)) (x4 : List (Int × Int)) (x5 : List (List Int)) : Bool :=
  allT
  [tsOk x3, !codeB x0 x1 x2 x3 x4 || (k6u x5 || Lp.fin k37 (kre x0 x1 x2 x3 x4 x5)),
    !codeB x0 x1 x2 x3 x4 || (k6u x5 || (k7s x0 x1 x2 x3 x4 x5 || leI (0 : Int) x1)),
    !codeB x0 x1 x2 x3 x4 || (k6u x5 || (k7s x0 x1 x2 x3 x4 x5 || leI x1 x1)),
    !codeB x0 x1 x2 x3 x4 || (k6u x5 || (k7s x0 x1 x2 x3 x4 x5 || leI ((↑(8 : Nat) : Int) * x1) (281474976710656 : Int))),
    !codeB x0 x1 x2 x3 x4 || (k6u x5 || (k7s x0 x1 x2 x3 x4 x5 || leI x1 (9223372036854775807 : Int))),
    !codeB x0 x1 x2 x3 x4 || (k6u x5 || (k7s x0 x1 x2 x3 x4 x5 || leI (0 : Int) (↑(List.length x3) : Int))),
    !codeB x0 x1 x2 x3 x4 || (k6u x5 || (k7s x0 x1 x2 x3 x4 x5 || leI (↑(List.length x3) : Int) (↑(List.length x3) : Int))),
    !codeB x0 x1 x2 x3 x4 ||
      (k6u x5 || (k7s x0 x1 x2 x3 x4 x5 || leI ((↑(24 : Nat) : Int) * (↑(List.length x3) : Int)) (281474976710656 : Int))),
    !codeB x0 x1 x2 x3 x4 ||
      (k6u x5 || (k7s x0 x1 x2 x3 x4 x5 || leI (↑(List.length x3) : Int) (9223372036854775807 : Int))),
    !codeB x0 x1 x2 x3 x4 ||
      (k6u x5 || (k7s x0 x1 x2 x3 x4 x5 || Lp.fin k3y (ks5 x0 x1 x2 x3 x4 x5)))]

def kxp : List SV → List Entry → Option Out
  | [.one ⟨true, [.val (.int .i64 x0), .val (.int .i64 x1), .val (.int .i64 x2), .ref 0, .ref 1]⟩, .one ⟨false, [.ref 2]⟩], [.row false 178 (.pair (.int .i64) (.pair (.str) (.int .i64))) x3, .row false 150 (.pair (.int .i64) (.int .i64)) x4, .row false 41 (.sl 2 (.int .i64)) x5] => some ⟨(.tup [⟨false, [(.ref 3)]⟩, ⟨false, [(.val (.int IntKind.i64 (ksu x0 x1 x2 x3 x4 x5)))]⟩]), [(.row false 178 (CTy.pair (CTy.int IntKind.i64) (CTy.pair CTy.str (CTy.int IntKind.i64))) x3), (.row false 150 (CTy.pair (CTy.int IntKind.i64) (CTy.int IntKind.i64)) x4), (.row false 41 (CTy.sl (2 : TypeId) (CTy.int IntKind.i64)) x5)], [(.row true 41 (CTy.sl (2 : Nat) (CTy.int IntKind.i64)) (ksz x0 x1 x2 x3 x4 x5))], [(ksw x0 x1 x2 x3 x4 x5)]⟩
  | _, _ => none

def k132 : PF Tryz.prog := PF.ofG Tryz.prog [kh7, PF.lend kh7, PF.fz kh7, keh, PF.lend keh, PF.fz keh, kh9, PF.lend kh9, PF.fz kh9] [k37.F, (fun s => k3y.F (aliasS [(1472, 0), (1472, 1)] s))] hmix 17 Tryz.f17 Tryz.func17 (LOk.fnT (l := [loopAt Tryz.f17 0, loopAt Tryz.f17 1]) (by kernel_rfl) (.cons kwt (.cons (kwz.alias [(1472, 0), (1472, 1)]) (.nil _)))) kxp (by
  intro vs es r h; unfold kxp at h; split at h
  · cases h; kernel_rfl
  · cases h)

abbrev k76 := Int × List (List Int) × List (List Int)

def kck (y0 : Int) (y1 : List (List Int)) : List Int :=
  Option.getD y1[Int.toNat y0]? (dflt (CTy.sl (2 : TypeId) (CTy.int IntKind.i64)))

def kdv (y0 : Int) (y1 : List (List Int)) : Bool :=
  ltI y0 (↑(List.length y1) : Int)

def kdw (y0 : Int) : Bool :=
  leI (0 : Int) y0

def khh (y0 : Int) (y1 : List (List Int)) : Bool :=
  ltN (Int.toNat y0) (List.length y1)

def kh0 (y0 : Int) (y1 : List (List Int)) : Bool :=
  leN (List.length (kck y0 y1)) (1048576 : Nat)

def kgp (y0 : Int) (y2 : List (List Int)) : Bool :=
  ltI y0 (↑(List.length y2) : Int)

def kgh (y0 : Int) (y2 : List (List Int)) : Bool :=
  ltN (Int.toNat y0) (List.length y2)

def kl1 (y0 : Int) : Int :=
  IntKind.wrap IntKind.i64 (y0 + (1 : Int))

def kl3 (y0 : Int) (y1 : List (List Int)) (y2 : List (List Int)) : List (List Int) :=
  List.set y2 (Int.toNat y0) (kck y0 y1)

def kyc : k76 → List (Nat × SV)
  | (y0, _, _) => [(4, (.one ⟨false, [(.val (.int IntKind.i64 y0))]⟩)), (0, (.one ⟨false, [(.ref 0)]⟩)), (3, (.one ⟨false, [(.ref 1)]⟩))]

def ky9 : k76 → List (Nat × Entry)
  | (_, y1, y2) => [(0, (.row false 41 (CTy.sl (2 : TypeId) (CTy.int IntKind.i64)) y1)), (1, (.tree 41 (CTy.sl (2 : Nat) (CTy.int IntKind.i64)) y2 none))]

def kyi : Nat → k76 → List (Nat × SV)
  | _, (_, _, _) => []

def ky6 : Nat → k76 → List (Nat × Entry)
  | _, (_, y1, y2) => [(0, (.row false 41 (CTy.sl (2 : TypeId) (CTy.int IntKind.i64)) y1)), (1, (.tree 41 (CTy.sl (2 : Nat) (CTy.int IntKind.i64)) y2 none))]

def kf3 : k76 → LT k76
  | (y0, y1, y2) => .ite (kdv y0 y1) (.need [(kdw y0), (kdv y0 y1), (khh y0 y1), (kh0 y0 y1), (kdw y0), (kgp y0 y2), (kgh y0 y2)] (.nrm ((kl1 y0), y1, (kl3 y0 y1 y2)) [(0, 0), (1, 1)])) (.ext 0 [(0, 0), (1, 1)])

def kns (s : St) : Option k76 :=
  (match s.look 4 with
  | some ⟨none, (.one ⟨false, [(.val (.int IntKind.i64 y0))]⟩)⟩ =>
  (match s.look 0 with
  | some ⟨none, (.one ⟨false, [(.ref 0)]⟩)⟩ =>
  (match s.look 3 with
  | some ⟨none, (.one ⟨false, [(.ref 320)]⟩)⟩ =>
  (match s.ent 0 with
  | some (.row false 41 (CTy.sl (2 : TypeId) (CTy.int IntKind.i64)) y1) =>
  (match s.ent 320 with
  | some (.tree 41 (CTy.sl (2 : Nat) (CTy.int IntKind.i64)) y2 none) =>
  some (y0, y1, y2)
  | _ => none)
  | _ => none)
  | _ => none)
  | _ => none)
  | _ => none)

def k3d : Lp k76 where
  h := ⟨[8, 9, 10, 11, 14, 15, 16, 17, 18, 19, 20, 21, 12, 13, 4], [0, 1], [], []⟩
  JL := kyc
  JE := ky9
  XL := kyi
  XE := ky6
  q := fun j => match j with | _ => .exit 0
  tags := [0]
  lt := kf3
  fuel := fun (y0, y1, y2) => y0.natAbs + y1.length + y2.length
  fix := fun (_, y1, _) (y0, _, y2) => (y0, y1, y2)
  σ := [(0, 0), (1, 320)]
  rd := kns

theorem kw6 : LoopOk Tryz.prog (fun k => Nat.blt k Tryz.f19.ntmps) k3d.F (loopAt Tryz.f19 0) := by
  refine Lp.ok (tbl := [PF.trees Tryz.prog, kkk, PF.lend kkk, PF.fz kkk]) (lf := []) hmix k3d (by kernel_rfl) (LOk.nil _) (fun _ => rfl) (fun _ _ => rfl) ?_ ?_ ?_ ?_ (fun _ => rfl) ?_
  · intro x; obtain ⟨y0, y1, y2⟩ := x; kernel_rfl
  · intro x; obtain ⟨y0, y1, y2⟩ := x; kernel_rfl
  · intro s x h
    have h : kns s = some x := h
    unfold kns at h
    repeat' split at h
    all_goals cases h
    exact ⟨absS_cons (by assumption) rfl (absS_cons (by assumption) rfl (absS_cons (by assumption) rfl (rfl))), absE_cons rfl (by assumption) rfl (absE_cons rfl (by assumption) rfl (rfl))⟩
  · intro x; obtain ⟨y0, y1, y2⟩ := x; kernel_rfl
  · intro x z; obtain ⟨y0, y1, y2⟩ := x; exact (And.intro rfl trivial)

def knp (x0 : List (List Int)) : Int × List (List Int) × List (List Int) :=
  ((0 : Int), x0, List.replicate (Int.toNat (↑(List.length x0) : Int)) [])

def krv (x0 : List (List Int)) : List (List Int) :=
  Prod.snd (Prod.snd (Prod.snd (Lp.res k3d (knp x0))))

def krw (x0 : List (List Int)) : Bool :=
  allT
  [leI (0 : Int) (↑(List.length x0) : Int), leI (↑(List.length x0) : Int) (↑(List.length x0) : Int),
    leI ((↑(24 : Nat) : Int) * (↑(List.length x0) : Int)) (281474976710656 : Int), leI (↑(List.length x0) : Int) (9223372036854775807 : Int),
    Lp.fin k3d (knp x0)]

def kve : List SV → List Entry → Option Out
  | [.one ⟨false, [.ref 0]⟩], [.row false 41 (.sl 2 (.int .i64)) x0] => some ⟨(.one ⟨false, [(.ref 1)]⟩), [(.row false 41 (CTy.sl (2 : TypeId) (CTy.int IntKind.i64)) x0)], [(.tree 41 (CTy.sl (2 : Nat) (CTy.int IntKind.i64)) (krv x0) none)], [(krw x0)]⟩
  | _, _ => none

def k12i : PF Tryz.prog := PF.ofG Tryz.prog [PF.trees Tryz.prog, kkk, PF.lend kkk, PF.fz kkk] [k3d.F] hmix 19 Tryz.f19 Tryz.func19 (LOk.fnT (l := [loopAt Tryz.f19 0]) (by kernel_rfl) (.cons kw6 (.nil _))) kve (by
  intro vs es r h; unfold kve at h; split at h
  · cases h; kernel_rfl
  · cases h)

def klx (x0 : Int) : List Int :=
  List.replicate (Int.toNat x0) (0 : Int)

def koo (x1 : Int) : List (Int × (Int × Int)) :=
  List.replicate (Int.toNat x1) ((0 : Int), (0 : Int), (0 : Int))

def ks6 (x0 : Int) (x1 : Int) : Bool :=
  allT
  [leI (0 : Int) x0, leI x0 x0, leI ((↑(8 : Nat) : Int) * x0) (281474976710656 : Int), leI x0 (9223372036854775807 : Int), leI (0 : Int) x1,
    leI x1 x1, leI ((↑(24 : Nat) : Int) * x1) (281474976710656 : Int), leI x1 (9223372036854775807 : Int)]

def kv8 : List SV → List Entry → Option Out
  | [.one ⟨false, [.val (.int .i64 x0)]⟩, .one ⟨false, [.val (.int .i64 x1)]⟩], [] => some ⟨(.one ⟨true, [(.ref 0), (.ref 1)]⟩), [], [(.row true 2 (CTy.int IntKind.i64) (klx x0)), (.row true 172 (CTy.pair (CTy.int IntKind.i64) (CTy.pair (CTy.int IntKind.i64) (CTy.int IntKind.i64))) (koo x1))], [(ks6 x0 x1)]⟩
  | _, _ => none

def kvm : PF Tryz.prog := PF.ofG Tryz.prog [] [] hmix 93 Tryz.f93 Tryz.func93 (fun c _ => LOk.nil c) kv8 (by
  intro vs es r h; unfold kv8 at h; split at h
  · cases h; kernel_rfl
  · cases h)

abbrev k8b := Int × Int × List (List Int) × Int × Int × Int × List (List Int) × List (Int × (ByteArray × Int)) × List (Int × Int) × List Int × List (Int × (Int × Int))

def k79 (y0 : Int) (y2 : List (List Int)) : List Int :=
  Option.getD y2[Int.toNat y0]? (dflt (CTy.sl (2 : TypeId) (CTy.int IntKind.i64)))

def kbi (y0 : Int) (y2 : List (List Int)) (y5 : Int) (y7 : List (Int × (ByteArray × Int))) (y8 : List (Int × Int)) (y9 : List Int) (y10 : List (Int × (Int × Int))) : List (List Int) :=
  [Prod.fst (Prod.snd (Prod.snd (Prod.snd (rnM y5 y7 y8 (k79 y0 y2) y9 y10))))]

def kid (y0 : Int) (y1 : Int) : Bool :=
  ltI y0 y1

def km3 (y0 : Int) : Bool :=
  leI (0 : Int) y0

def kms (y0 : Int) (y2 : List (List Int)) : Bool :=
  ltI y0 (↑(List.length y2) : Int)

def kmi (y0 : Int) (y2 : List (List Int)) : Bool :=
  ltN (Int.toNat y0) (List.length y2)

def klz (y0 : Int) (y2 : List (List Int)) (y3 : Int) (y4 : Int) (y5 : Int) (y7 : List (Int × (ByteArray × Int))) (y8 : List (Int × Int)) (y9 : List Int) (y10 : List (Int × (Int × Int))) : Bool :=
  exNd y3 y4 y5 y7 y8 (k79 y0 y2) y9 y10

def kmq (y0 : Int) (y2 : List (List Int)) (y5 : Int) (y6 : List (List Int)) (y7 : List (Int × (ByteArray × Int))) (y8 : List (Int × Int)) (y9 : List Int) (y10 : List (Int × (Int × Int))) : Bool :=
  leN (List.length y6 + List.length (kbi y0 y2 y5 y7 y8 y9 y10)) (9223372036854775807 : Nat)

def kme (y0 : Int) (y2 : List (List Int)) (y5 : Int) (y6 : List (List Int)) (y7 : List (Int × (ByteArray × Int))) (y8 : List (Int × Int)) (y9 : List Int) (y10 : List (Int × (Int × Int))) : Bool :=
  leN ((List.length y6 + List.length (kbi y0 y2 y5 y7 y8 y9 y10)) * (24 : Nat)) (140737488355328 : Nat)

def kpk (y0 : Int) : Int :=
  IntKind.wrap IntKind.i64 (y0 + (1 : Int))

def kml (y0 : Int) (y2 : List (List Int)) (y5 : Int) (y6 : List (List Int)) (y7 : List (Int × (ByteArray × Int))) (y8 : List (Int × Int)) (y9 : List Int) (y10 : List (Int × (Int × Int))) : List (List Int) :=
  y6 ++ kbi y0 y2 y5 y7 y8 y9 y10

def km5 (y0 : Int) (y2 : List (List Int)) (y5 : Int) (y7 : List (Int × (ByteArray × Int))) (y8 : List (Int × Int)) (y9 : List Int) (y10 : List (Int × (Int × Int))) : List Int :=
  Prod.fst (Prod.snd (Prod.snd (rnM y5 y7 y8 (k79 y0 y2) y9 y10)))

def kkz (y0 : Int) (y2 : List (List Int)) (y5 : Int) (y7 : List (Int × (ByteArray × Int))) (y8 : List (Int × Int)) (y9 : List Int) (y10 : List (Int × (Int × Int))) : List (Int × (Int × Int)) :=
  Prod.snd (Prod.snd (Prod.snd (Prod.snd (rnM y5 y7 y8 (k79 y0 y2) y9 y10))))

def kzv : k8b → List (Nat × SV)
  | (y0, y1, _, _, _, _, _, _, _, _, _) => [(36, (.one ⟨false, [(.val (.int IntKind.i64 y0))]⟩)), (35, (.one ⟨false, [(.val (.int IntKind.i64 y1))]⟩)), (34, (.one ⟨false, [(.ref 0)]⟩)), (2, (.one ⟨false, [(.ptr 1 0)]⟩)), (6, (.one ⟨false, [(.ptr 2 0)]⟩)), (8, (.one ⟨false, [(.ref 3)]⟩))]

def kzy : k8b → List (Nat × Entry)
  | (_, _, y2, y3, y4, y5, y6, y7, y8, y9, y10) => [(0, (.row false 41 (CTy.sl (2 : TypeId) (CTy.int IntKind.i64)) y2)), (1, (.box 34 [(.val (.int IntKind.i64 y3)), (.val (.int IntKind.i64 y4)), (.val (.int IntKind.i64 y5)), (.ref 4), (.ref 5)])), (2, (.box 48 [(.ref 6), (.ref 7)])), (4, (.row false 178 (CTy.pair (CTy.int IntKind.i64) (CTy.pair CTy.str (CTy.int IntKind.i64))) y7)), (5, (.row false 150 (CTy.pair (CTy.int IntKind.i64) (CTy.int IntKind.i64)) y8)), (3, (.tree 41 (CTy.sl (2 : Nat) (CTy.int IntKind.i64)) y6 none)), (6, (.row true 2 (CTy.int IntKind.i64) y9)), (7, (.row true 172 (CTy.pair (CTy.int IntKind.i64) (CTy.pair (CTy.int IntKind.i64) (CTy.int IntKind.i64))) y10))]

def kzo : Nat → k8b → List (Nat × SV)
  | _, (_, _, _, _, _, _, _, _, _, _, _) => [(8, (.one ⟨false, [(.ref 3)]⟩))]

def kyo : Nat → k8b → List (Nat × Entry)
  | _, (_, _, y2, y3, y4, y5, y6, y7, y8, y9, y10) => [(0, (.row false 41 (CTy.sl (2 : TypeId) (CTy.int IntKind.i64)) y2)), (1, (.box 34 [(.val (.int IntKind.i64 y3)), (.val (.int IntKind.i64 y4)), (.val (.int IntKind.i64 y5)), (.ref 4), (.ref 5)])), (2, (.box 48 [(.ref 6), (.ref 7)])), (3, (.tree 41 (CTy.sl (2 : Nat) (CTy.int IntKind.i64)) y6 none)), (4, (.row false 178 (CTy.pair (CTy.int IntKind.i64) (CTy.pair CTy.str (CTy.int IntKind.i64))) y7)), (5, (.row false 150 (CTy.pair (CTy.int IntKind.i64) (CTy.int IntKind.i64)) y8)), (6, (.row true 2 (CTy.int IntKind.i64) y9)), (7, (.row true 172 (CTy.pair (CTy.int IntKind.i64) (CTy.pair (CTy.int IntKind.i64) (CTy.int IntKind.i64))) y10))]

def kgw : k8b → LT k8b
  | (y0, y1, y2, y3, y4, y5, y6, y7, y8, y9, y10) => .ite (kid y0 y1) (.need [(km3 y0), (kms y0 y2), (kmi y0 y2)] (.need [(klz y0 y2 y3 y4 y5 y7 y8 y9 y10)] (.need [(kmq y0 y2 y5 y6 y7 y8 y9 y10), (kme y0 y2 y5 y6 y7 y8 y9 y10)] (.nrm ((kpk y0), y1, y2, y3, y4, y5, (kml y0 y2 y5 y6 y7 y8 y9 y10), y7, y8, (km5 y0 y2 y5 y7 y8 y9 y10), (kkz y0 y2 y5 y7 y8 y9 y10)) [(0, 0), (1, 1), (2, 2), (3, 1152), (4, 4), (5, 5), (6, 513), (7, 514)])))) (.ext 0 [(0, 0), (1, 1), (2, 2), (3, 3), (4, 4), (5, 5), (6, 6), (7, 7)])

def koe (s : St) : Option k8b :=
  (match s.look 36 with
  | some ⟨none, (.one ⟨false, [(.val (.int IntKind.i64 y0))]⟩)⟩ =>
  (match s.look 35 with
  | some ⟨none, (.one ⟨false, [(.val (.int IntKind.i64 y1))]⟩)⟩ =>
  (match s.look 34 with
  | some ⟨none, (.one ⟨false, [(.ref 2)]⟩)⟩ =>
  (match s.look 2 with
  | some ⟨none, (.one ⟨false, [(.ptr 256 0)]⟩)⟩ =>
  (match s.look 6 with
  | some ⟨none, (.one ⟨false, [(.ptr 1344 0)]⟩)⟩ =>
  (match s.look 8 with
  | some ⟨none, (.one ⟨false, [(.ref 1920)]⟩)⟩ =>
  (match s.ent 2 with
  | some (.row false 41 (CTy.sl (2 : TypeId) (CTy.int IntKind.i64)) y2) =>
  (match s.ent 256 with
  | some (.box 34 [(.val (.int IntKind.i64 y3)), (.val (.int IntKind.i64 y4)), (.val (.int IntKind.i64 y5)), (.ref 0), (.ref 1)]) =>
  (match s.ent 1344 with
  | some (.box 48 [(.ref 1280), (.ref 1281)]) =>
  (match s.ent 0 with
  | some (.row false 178 (CTy.pair (CTy.int IntKind.i64) (CTy.pair CTy.str (CTy.int IntKind.i64))) y7) =>
  (match s.ent 1 with
  | some (.row false 150 (CTy.pair (CTy.int IntKind.i64) (CTy.int IntKind.i64)) y8) =>
  (match s.ent 1920 with
  | some (.tree 41 (CTy.sl (2 : Nat) (CTy.int IntKind.i64)) y6 none) =>
  (match s.ent 1280 with
  | some (.row true 2 (CTy.int IntKind.i64) y9) =>
  (match s.ent 1281 with
  | some (.row true 172 (CTy.pair (CTy.int IntKind.i64) (CTy.pair (CTy.int IntKind.i64) (CTy.int IntKind.i64))) y10) =>
  some (y0, y1, y2, y3, y4, y5, y6, y7, y8, y9, y10)
  | _ => none)
  | _ => none)
  | _ => none)
  | _ => none)
  | _ => none)
  | _ => none)
  | _ => none)
  | _ => none)
  | _ => none)
  | _ => none)
  | _ => none)
  | _ => none)
  | _ => none)
  | _ => none)

def k3w : Lp k8b where
  h := ⟨[37, 38, 39, 10, 41, 42, 43, 44, 40, 45, 46, 12, 11, 47, 48, 49, 50, 8, 51, 52, 36], [0, 1, 2, 4, 5], [3, 6, 7], []⟩
  JL := kzv
  JE := kzy
  XL := kzo
  XE := kyo
  q := fun j => match j with | _ => .exit 1
  tags := [0]
  lt := kgw
  fuel := fun (y0, y1, y2, y3, y4, y5, y6, y7, y8, y9, y10) => y0.natAbs + y1.natAbs + y2.length + y3.natAbs + y4.natAbs + y5.natAbs + y6.length + y7.length + y8.length + y9.length + y10.length
  fix := fun (_, y1, y2, y3, y4, y5, _, y7, y8, _, _) (y0, _, _, _, _, _, y6, _, _, y9, y10) => (y0, y1, y2, y3, y4, y5, y6, y7, y8, y9, y10)
  σ := [(0, 2), (1, 256), (2, 1344), (4, 0), (5, 1), (3, 1920), (6, 1280), (7, 1281)]
  rd := koe

theorem kwo : LoopOk Tryz.prog (fun k => Nat.blt k Tryz.f20.ntmps) k3w.F (loopAt Tryz.f20 0) := by
  refine Lp.ok (tbl := [PF.trees Tryz.prog, khc, PF.lend khc, PF.fz khc, kvm, kg2, PF.lend kg2, PF.fz kg2, kkg, PF.lend kkg, PF.fz kkg]) (lf := []) hmix k3w (by kernel_rfl) (LOk.nil _) (fun _ => rfl) (fun _ _ => rfl) ?_ ?_ ?_ ?_ (fun _ => rfl) ?_
  · intro x; obtain ⟨y0, y1, y2, y3, y4, y5, y6, y7, y8, y9, y10⟩ := x; kernel_rfl
  · intro x; obtain ⟨y0, y1, y2, y3, y4, y5, y6, y7, y8, y9, y10⟩ := x; kernel_rfl
  · intro s x h
    have h : koe s = some x := h
    unfold koe at h
    repeat' split at h
    all_goals cases h
    exact ⟨absS_cons (by assumption) rfl (absS_cons (by assumption) rfl (absS_cons (by assumption) rfl (absS_cons (by assumption) rfl (absS_cons (by assumption) rfl (absS_cons (by assumption) rfl (rfl)))))), absE_cons rfl (by assumption) rfl (absE_cons rfl (by assumption) rfl (absE_cons rfl (by assumption) rfl (absE_cons rfl (by assumption) rfl (absE_cons rfl (by assumption) rfl (absE_cons rfl (by assumption) rfl (absE_cons rfl (by assumption) rfl (absE_cons rfl (by assumption) rfl (rfl))))))))⟩
  · intro x; obtain ⟨y0, y1, y2, y3, y4, y5, y6, y7, y8, y9, y10⟩ := x; kernel_rfl
  · intro x z; obtain ⟨y0, y1, y2, y3, y4, y5, y6, y7, y8, y9, y10⟩ := x; exact (And.intro rfl trivial)

def kik (x5 : List (List Int)) : Bool :=
  ltI (200 : Int) (↑(List.length x5) : Int)

def kri (x0 : Int) (x1 : Int) (x2 : Int) (x3 : List (Int × ByteArray × Int)) (x4 : List (Int × Int)) (x5 : List (List Int)) : Int :=
  mcCode x0 x1 x2 x3 x4 (klx x1) (koo (↑(List.length x3) : Int)) x5

def kow (x0 : Int) (x1 : Int) (x2 : Int) (x3 : List (Int × ByteArray × Int)) (x4 : List (Int × Int)) (x5 : List (List Int)) : Bool :=
  kri x0 x1 x2 x3 x4 x5 != (0 : Int)

def ks1 (x0 : Int) (x1 : Int) (x2 : Int) (x3 : List (Int × ByteArray × Int)) (x4 : List (Int × Int)) (x5 : List (List Int)) : Int × Int × List (List Int) × Int × Int × Int × List (List Int) × List (Int × ByteArray × Int) × List (Int × Int) × List Int × List (Int × Int × Int) :=
  ((0 : Int), (↑(List.length x5) : Int), x5, x0, x1, x2, [], x3, x4, klx x1, koo (↑(List.length x3) : Int))

def kt5 (x0 : Int) (x1 : Int) (x2 : Int) (x3 : List (Int × ByteArray × Int)) (x4 : List (Int × Int)) (x5 : List (List Int)) : Int :=
  bif !codeB x0 x1 x2 x3 x4 then (1 : Int)
  else bif kik x5 then (3 : Int) else bif kow x0 x1 x2 x3 x4 x5 then kri x0 x1 x2 x3 x4 x5 else (0 : Int)

def kt4 (x0 : Int) (x1 : Int) (x2 : Int) (x3 : List (Int × ByteArray × Int)) (x4 : List (Int × Int)) (x5 : List (List Int)) : List (List Int) :=
  bif !codeB x0 x1 x2 x3 x4 then []
  else
  bif kik x5 then []
  else
    bif kow x0 x1 x2 x3 x4 x5 then []
    else
      Prod.fst
        (Prod.snd (Prod.snd (Prod.snd (Prod.snd (Prod.snd (Prod.snd (Prod.snd (Lp.res k3w (ks1 x0 x1 x2 x3 x4 x5)))))))))

def ksv (x0 : Int) (x1 : Int) (x2 : Int) (x3 : List (Int × ByteArray × Int)) (x4 : List (Int × Int)) (x5 : List (List Int)) : Bool :=
  allT
  [!codeB x0 x1 x2 x3 x4 || (kik x5 || ks6 x1 (↑(List.length x3) : Int)),
    !codeB x0 x1 x2 x3 x4 || (kik x5 || mcNd x3 (klx x1) x5),
    !codeB x0 x1 x2 x3 x4 ||
      (kik x5 || (kow x0 x1 x2 x3 x4 x5 || Lp.fin k3w (ks1 x0 x1 x2 x3 x4 x5)))]

def kxs : List SV → List Entry → Option Out
  | [.one ⟨true, [.val (.int .i64 x0), .val (.int .i64 x1), .val (.int .i64 x2), .ref 0, .ref 1]⟩, .one ⟨false, [.ref 2]⟩], [.row false 178 (.pair (.int .i64) (.pair (.str) (.int .i64))) x3, .row false 150 (.pair (.int .i64) (.int .i64)) x4, .row false 41 (.sl 2 (.int .i64)) x5] => some ⟨(.tup [⟨false, [(.ref 3)]⟩, ⟨false, [(.val (.int IntKind.i64 (kt5 x0 x1 x2 x3 x4 x5)))]⟩]), [(.row false 178 (CTy.pair (CTy.int IntKind.i64) (CTy.pair CTy.str (CTy.int IntKind.i64))) x3), (.row false 150 (CTy.pair (CTy.int IntKind.i64) (CTy.int IntKind.i64)) x4), (.row false 41 (CTy.sl (2 : TypeId) (CTy.int IntKind.i64)) x5)], [(.tree 41 (CTy.sl (2 : Nat) (CTy.int IntKind.i64)) (kt4 x0 x1 x2 x3 x4 x5) none)], [(ksv x0 x1 x2 x3 x4 x5)]⟩
  | _, _ => none

def k130 : PF Tryz.prog := PF.ofG Tryz.prog [PF.trees Tryz.prog, khc, PF.lend khc, PF.fz khc, kvm, kg2, PF.lend kg2, PF.fz kg2, kkg, PF.lend kkg, PF.fz kkg] [k3w.F] hmix 20 Tryz.f20 Tryz.func20 (LOk.fnT (l := [loopAt Tryz.f20 0]) (by kernel_rfl) (.cons kwo (.nil _))) kxs (by
  intro vs es r h; unfold kxs at h; split at h
  · cases h; kernel_rfl
  · cases h)

abbrev k73 := Int × List (List Int) × List (List Int)

def kcv (y0 : Int) (y1 : List (List Int)) : List Int :=
  Option.getD y1[Int.toNat y0]? (dflt (CTy.sl (2 : TypeId) (CTy.int IntKind.i64)))

def kdr (y0 : Int) (y1 : List (List Int)) : Bool :=
  ltI y0 (↑(List.length y1) : Int)

def kdp (y0 : Int) : Bool :=
  leI (0 : Int) y0

def kgt (y0 : Int) (y1 : List (List Int)) : Bool :=
  ltN (Int.toNat y0) (List.length y1)

def kgi (y0 : Int) (y2 : List (List Int)) : Bool :=
  ltI y0 (↑(List.length y2) : Int)

def kgv (y0 : Int) (y2 : List (List Int)) : Bool :=
  ltN (Int.toNat y0) (List.length y2)

def khj (y0 : Int) (y1 : List (List Int)) : Bool :=
  leN (List.length (kcv y0 y1)) (9223372036854775807 : Nat)

def kgn (y0 : Int) (y1 : List (List Int)) (y2 : List (List Int)) : Bool :=
  !eqL (kcv y0 y1) (Option.getD y2[Int.toNat y0]? (dflt (CTy.sl (2 : TypeId) (CTy.int IntKind.i64))))

def khb (y0 : Int) : Int :=
  IntKind.wrap IntKind.i64 (y0 + (1 : Int))

def kyn : k73 → List (Nat × SV)
  | (y0, _, _) => [(5, (.one ⟨false, [(.val (.int IntKind.i64 y0))]⟩)), (0, (.one ⟨false, [(.ref 0)]⟩)), (1, (.one ⟨false, [(.ref 1)]⟩))]

def ky8 : k73 → List (Nat × Entry)
  | (_, y1, y2) => [(0, (.row false 41 (CTy.sl (2 : TypeId) (CTy.int IntKind.i64)) y1)), (1, (.row false 41 (CTy.sl (2 : TypeId) (CTy.int IntKind.i64)) y2))]

def ky0 : Nat → k73 → List (Nat × SV)
  | 0, (_, _, _) => [(4, (.one ⟨false, [(.val (.bool false))]⟩))]
  | _, (_, _, _) => []

def kxu : Nat → k73 → List (Nat × Entry)
  | 0, (_, y1, y2) => [(0, (.row false 41 (CTy.sl (2 : TypeId) (CTy.int IntKind.i64)) y1)), (1, (.row false 41 (CTy.sl (2 : TypeId) (CTy.int IntKind.i64)) y2))]
  | _, (_, y1, y2) => [(0, (.row false 41 (CTy.sl (2 : TypeId) (CTy.int IntKind.i64)) y1)), (1, (.row false 41 (CTy.sl (2 : TypeId) (CTy.int IntKind.i64)) y2))]

def kfo : k73 → LT k73
  | (y0, y1, y2) => .ite (kdr y0 y1) (.need [(kdp y0), (kdr y0 y1), (kgt y0 y1), (kdp y0), (kgi y0 y2), (kgv y0 y2), (khj y0 y1)] (.ite (kgn y0 y1 y2) (.ext 0 [(0, 0), (1, 1)]) (.nrm ((khb y0), y1, y2) [(0, 0), (1, 1)]))) (.ext 1 [(0, 0), (1, 1)])

def knz (s : St) : Option k73 :=
  (match s.look 5 with
  | some ⟨none, (.one ⟨false, [(.val (.int IntKind.i64 y0))]⟩)⟩ =>
  (match s.look 0 with
  | some ⟨none, (.one ⟨false, [(.ref 0)]⟩)⟩ =>
  (match s.look 1 with
  | some ⟨none, (.one ⟨false, [(.ref 1)]⟩)⟩ =>
  (match s.ent 0 with
  | some (.row false 41 (CTy.sl (2 : TypeId) (CTy.int IntKind.i64)) y1) =>
  (match s.ent 1 with
  | some (.row false 41 (CTy.sl (2 : TypeId) (CTy.int IntKind.i64)) y2) =>
  some (y0, y1, y2)
  | _ => none)
  | _ => none)
  | _ => none)
  | _ => none)
  | _ => none)

def k2o : Lp k73 where
  h := ⟨[11, 12, 13, 14, 17, 18, 19, 20, 21, 22, 23, 24, 25, 26, 4, 15, 16, 5], [0, 1], [], []⟩
  JL := kyn
  JE := ky8
  XL := ky0
  XE := kxu
  q := fun j => match j with | 0 => .ret | _ => .exit 0
  tags := [0, 1]
  lt := kfo
  fuel := fun (y0, y1, y2) => y0.natAbs + y1.length + y2.length
  fix := fun (_, y1, y2) (y0, _, _) => (y0, y1, y2)
  σ := [(0, 0), (1, 1)]
  rd := knz

theorem kv4 : LoopOk Tryz.prog (fun k => Nat.blt k Tryz.f21.ntmps) k2o.F (loopAt Tryz.f21 0) := by
  refine Lp.ok (tbl := [kkn, PF.lend kkn, PF.fz kkn]) (lf := []) hmix k2o (by kernel_rfl) (LOk.nil _) (fun _ => rfl) (fun j _ => by unfold k2o; match j with | 0 => rfl | _ + 1 => rfl) ?_ ?_ ?_ ?_ (fun _ => rfl) ?_
  · intro x; obtain ⟨y0, y1, y2⟩ := x; kernel_rfl
  · intro x; obtain ⟨y0, y1, y2⟩ := x; kernel_rfl
  · intro s x h
    have h : knz s = some x := h
    unfold knz at h
    repeat' split at h
    all_goals cases h
    exact ⟨absS_cons (by assumption) rfl (absS_cons (by assumption) rfl (absS_cons (by assumption) rfl (rfl))), absE_cons rfl (by assumption) rfl (absE_cons rfl (by assumption) rfl (rfl))⟩
  · intro x; obtain ⟨y0, y1, y2⟩ := x; kernel_rfl
  · intro x z; obtain ⟨y0, y1, y2⟩ := x; exact (And.intro (And.intro trivial rfl) trivial)

def knh (x0 : List (List Int)) (x1 : List (List Int)) : Bool :=
  (↑(List.length x0) : Int) != (↑(List.length x1) : Int)

def knn (x0 : List (List Int)) (x1 : List (List Int)) : Int × List (List Int) × List (List Int) :=
  ((0 : Int), x0, x1)

def koz (x0 : List (List Int)) (x1 : List (List Int)) : Bool :=
  bif knh x0 x1 then false
  else bif Nat.beq (Prod.fst (Lp.res k2o (knn x0 x1))) (0 : Nat) then false else true

def koj (x0 : List (List Int)) (x1 : List (List Int)) : Bool :=
  allT [knh x0 x1 || Lp.fin k2o (knn x0 x1)]

def kvn : List SV → List Entry → Option Out
  | [.one ⟨false, [.ref 0]⟩, .one ⟨false, [.ref 1]⟩], [.row false 41 (.sl 2 (.int .i64)) x0, .row false 41 (.sl 2 (.int .i64)) x1] => some ⟨(.one ⟨false, [(.val (.bool (koz x0 x1)))]⟩), [(.row false 41 (CTy.sl (2 : TypeId) (CTy.int IntKind.i64)) x0), (.row false 41 (CTy.sl (2 : TypeId) (CTy.int IntKind.i64)) x1)], [], [(koj x0 x1)]⟩
  | _, _ => none

def k12g : PF Tryz.prog := PF.ofG Tryz.prog [kkn, PF.lend kkn, PF.fz kkn] [k2o.F] hmix 21 Tryz.f21 Tryz.func21 (LOk.fnT (l := [loopAt Tryz.f21 0]) (by kernel_rfl) (.cons kv4 (.nil _))) kvn (by
  intro vs es r h; unfold kvn at h; split at h
  · cases h; kernel_rfl
  · cases h)

abbrev k5l := Int × Int × List (List Int)

def kc5 (y0 : Int) (y2 : List (List Int)) : Bool :=
  ltI y0 (↑(List.length y2) : Int)

def ke5 (y0 : Int) : Bool :=
  leI (0 : Int) y0

def ke8 (y0 : Int) (y2 : List (List Int)) : Bool :=
  ltN (Int.toNat y0) (List.length y2)

def kc4 (y0 : Int) (y1 : Int) (y2 : List (List Int)) : Bool :=
  mkOk y1 (List.length (Option.getD y2[Int.toNat y0]? (dflt (CTy.sl (2 : TypeId) (CTy.int IntKind.i64)))))

def ke9 (y0 : Int) : Int :=
  IntKind.wrap IntKind.i64 (y0 + (1 : Int))

def keb (y0 : Int) (y1 : Int) (y2 : List (List Int)) : Int :=
  y1 + (↑(List.length (Option.getD y2[Int.toNat y0]? (dflt (CTy.sl (2 : TypeId) (CTy.int IntKind.i64))))) : Int)

def ke6 (y0 : Int) (y1 : Int) (y2 : List (List Int)) : List (List Int) :=
  List.set y2 (Int.toNat y0) (upFrom y1 (List.length (Option.getD y2[Int.toNat y0]? (dflt (CTy.sl (2 : TypeId) (CTy.int IntKind.i64))))))

def kw3 : k5l → List (Nat × SV)
  | (y0, y1, _) => [(5, (.one ⟨false, [(.val (.int IntKind.i64 y0))]⟩)), (0, (.one ⟨false, [(.ref 0)]⟩)), (1, (.one ⟨false, [(.val (.int IntKind.i64 y1))]⟩))]

def kvu : k5l → List (Nat × Entry)
  | (_, _, y2) => [(0, (.tree 41 (CTy.sl (2 : TypeId) (CTy.int IntKind.i64)) y2 none))]

def kvh : Nat → k5l → List (Nat × SV)
  | _, (_, y1, _) => [(1, (.one ⟨false, [(.val (.int IntKind.i64 y1))]⟩))]

def kwc : Nat → k5l → List (Nat × Entry)
  | _, (_, _, y2) => [(0, (.tree 41 (CTy.sl (2 : TypeId) (CTy.int IntKind.i64)) y2 none))]

def kdm : k5l → LT k5l
  | (y0, y1, y2) => .ite (kc5 y0 y2) (.need [(ke5 y0), (kc5 y0 y2), (ke8 y0 y2), (kc4 y0 y1 y2)] (.nrm ((ke9 y0), (keb y0 y1 y2), (ke6 y0 y1 y2)) [(0, 0)])) (.ext 0 [(0, 0)])

def klk (s : St) : Option k5l :=
  (match s.look 5 with
  | some ⟨none, (.one ⟨false, [(.val (.int IntKind.i64 y0))]⟩)⟩ =>
  (match s.look 0 with
  | some ⟨none, (.one ⟨false, [(.ref 0)]⟩)⟩ =>
  (match s.look 1 with
  | some ⟨none, (.one ⟨false, [(.val (.int IntKind.i64 y1))]⟩)⟩ =>
  (match s.ent 0 with
  | some (.tree 41 (CTy.sl (2 : TypeId) (CTy.int IntKind.i64)) y2 none) =>
  some (y0, y1, y2)
  | _ => none)
  | _ => none)
  | _ => none)
  | _ => none)

def k2h : Lp k5l where
  h := ⟨[6, 7, 8, 9, 12, 13, 14, 15, 16, 17, 1, 10, 11, 5], [0], [], []⟩
  JL := kw3
  JE := kvu
  XL := kvh
  XE := kwc
  q := fun j => match j with | _ => .exit 0
  tags := [0]
  lt := kdm
  fuel := fun (y0, y1, y2) => y0.natAbs + y1.natAbs + y2.length
  fix := fun (_, _, _) (y0, y1, y2) => (y0, y1, y2)
  σ := [(0, 0)]
  rd := klk

theorem ku3 : LoopOk Tryz.prog (fun k => Nat.blt k Tryz.f24.ntmps) k2h.F (loopAt Tryz.f24 0) := by
  refine Lp.ok (tbl := [PF.trees Tryz.prog, kgb, PF.lend kgb, PF.fz kgb]) (lf := []) hmix k2h (by kernel_rfl) (LOk.nil _) (fun _ => rfl) (fun _ _ => rfl) ?_ ?_ ?_ ?_ (fun _ => rfl) ?_
  · intro x; obtain ⟨y0, y1, y2⟩ := x; kernel_rfl
  · intro x; obtain ⟨y0, y1, y2⟩ := x; kernel_rfl
  · intro s x h
    have h : klk s = some x := h
    unfold klk at h
    repeat' split at h
    all_goals cases h
    exact ⟨absS_cons (by assumption) rfl (absS_cons (by assumption) rfl (absS_cons (by assumption) rfl (rfl))), absE_cons rfl (by assumption) rfl (rfl)⟩
  · intro x; obtain ⟨y0, y1, y2⟩ := x; kernel_rfl
  · intro x z; obtain ⟨y0, y1, y2⟩ := x; exact (And.intro rfl trivial)

def khk (x0 : Int) (x1 : List (List Int)) : Int × Int × List (List Int) :=
  ((0 : Int), x0, x1)

def kgj (x0 : Int) (x1 : List (List Int)) : Int × List (List Int) :=
  Prod.snd (Prod.snd (Lp.res k2h (khk x0 x1)))

def ki5 (x0 : Int) (x1 : List (List Int)) : Int :=
  Prod.fst (kgj x0 x1)

def khw (x0 : Int) (x1 : List (List Int)) : List (List Int) :=
  Prod.snd (kgj x0 x1)

def ki2 (x0 : Int) (x1 : List (List Int)) : Bool :=
  allT [Lp.fin k2h (khk x0 x1)]

def ktc : List SV → List Entry → Option Out
  | [.one ⟨false, [.ref 0]⟩, .one ⟨false, [.val (.int .i64 x0)]⟩], [.tree 41 (.sl 2 (.int .i64)) x1 none] => some ⟨(.one ⟨false, [(.val (.int IntKind.i64 (ki5 x0 x1)))]⟩), [(.tree 41 (CTy.sl (2 : TypeId) (CTy.int IntKind.i64)) (khw x0 x1) none)], [], [(ki2 x0 x1)]⟩
  | _, _ => none

def k10z : PF Tryz.prog := PF.ofG Tryz.prog [PF.trees Tryz.prog, kgb, PF.lend kgb, PF.fz kgb] [k2h.F] hmix 24 Tryz.f24 Tryz.func24 (LOk.fnT (l := [loopAt Tryz.f24 0]) (by kernel_rfl) (.cons ku3 (.nil _))) ktc (by
  intro vs es r h; unfold ktc at h; split at h
  · cases h; kernel_rfl
  · cases h)

abbrev k5m := Int × Int × List (List Int)

def k5q (y0 : Int) (y2 : List (List Int)) : List Int :=
  Option.getD y2[Int.toNat y0]? (dflt (CTy.sl (2 : TypeId) (CTy.int IntKind.i64)))

def kc7 (y0 : Int) (y2 : List (List Int)) : Bool :=
  ltI y0 (↑(List.length y2) : Int)

def khr (y0 : Int) : Bool :=
  leI (0 : Int) y0

def khq (y0 : Int) (y2 : List (List Int)) : Bool :=
  ltN (Int.toNat y0) (List.length y2)

def khu (y0 : Int) (y2 : List (List Int)) : Bool :=
  leN (List.length (k5q y0 y2)) (9223372036854775807 : Nat)

def kec (y0 : Int) (y1 : Int) (y2 : List (List Int)) : Bool :=
  ltI (heldV y1 (k5q y0 y2)) (0 : Int)

def keg  : Int :=
  (-1 : Int)

def kho (y0 : Int) : Int :=
  IntKind.wrap IntKind.i64 (y0 + (1 : Int))

def kea (y0 : Int) (y1 : Int) (y2 : List (List Int)) : Int :=
  heldV y1 (k5q y0 y2)

def kv2 : k5m → List (Nat × SV)
  | (y0, y1, _) => [(5, (.one ⟨false, [(.val (.int IntKind.i64 y0))]⟩)), (0, (.one ⟨false, [(.ref 0)]⟩)), (1, (.one ⟨false, [(.val (.int IntKind.i64 y1))]⟩))]

def kvw : k5m → List (Nat × Entry)
  | (_, _, y2) => [(0, (.row false 41 (CTy.sl (2 : TypeId) (CTy.int IntKind.i64)) y2))]

def kvl : Nat → k5m → List (Nat × SV)
  | 0, (_, _, _) => [(4, (.one ⟨false, [(.val (.int IntKind.i64 (keg)))]⟩))]
  | _, (_, y1, _) => [(1, (.one ⟨false, [(.val (.int IntKind.i64 y1))]⟩))]

def kvc : Nat → k5m → List (Nat × Entry)
  | 0, (_, _, y2) => [(0, (.row false 41 (CTy.sl (2 : TypeId) (CTy.int IntKind.i64)) y2))]
  | _, (_, _, y2) => [(0, (.row false 41 (CTy.sl (2 : TypeId) (CTy.int IntKind.i64)) y2))]

def kd9 : k5m → LT k5m
  | (y0, y1, y2) => .ite (kc7 y0 y2) (.need [(khr y0), (kc7 y0 y2), (khq y0 y2), (khu y0 y2)] (.ite (kec y0 y1 y2) (.ext 0 [(0, 0)]) (.nrm ((kho y0), (kea y0 y1 y2), y2) [(0, 0)]))) (.ext 1 [(0, 0)])

def klf (s : St) : Option k5m :=
  (match s.look 5 with
  | some ⟨none, (.one ⟨false, [(.val (.int IntKind.i64 y0))]⟩)⟩ =>
  (match s.look 0 with
  | some ⟨none, (.one ⟨false, [(.ref 0)]⟩)⟩ =>
  (match s.look 1 with
  | some ⟨none, (.one ⟨false, [(.val (.int IntKind.i64 y1))]⟩)⟩ =>
  (match s.ent 0 with
  | some (.row false 41 (CTy.sl (2 : TypeId) (CTy.int IntKind.i64)) y2) =>
  some (y0, y1, y2)
  | _ => none)
  | _ => none)
  | _ => none)
  | _ => none)

def k27 : Lp k5m where
  h := ⟨[6, 7, 8, 9, 12, 13, 14, 15, 16, 17, 1, 18, 19, 4, 10, 11, 5], [0], [], []⟩
  JL := kv2
  JE := kvw
  XL := kvl
  XE := kvc
  q := fun j => match j with | 0 => .ret | _ => .exit 0
  tags := [0, 1]
  lt := kd9
  fuel := fun (y0, y1, y2) => y0.natAbs + y1.natAbs + y2.length
  fix := fun (_, _, y2) (y0, y1, _) => (y0, y1, y2)
  σ := [(0, 0)]
  rd := klf

theorem ku4 : LoopOk Tryz.prog (fun k => Nat.blt k Tryz.f25.ntmps) k27.F (loopAt Tryz.f25 0) := by
  refine Lp.ok (tbl := [kg5, PF.lend kg5, PF.fz kg5]) (lf := []) hmix k27 (by kernel_rfl) (LOk.nil _) (fun _ => rfl) (fun j _ => by unfold k27; match j with | 0 => rfl | _ + 1 => rfl) ?_ ?_ ?_ ?_ (fun _ => rfl) ?_
  · intro x; obtain ⟨y0, y1, y2⟩ := x; kernel_rfl
  · intro x; obtain ⟨y0, y1, y2⟩ := x; kernel_rfl
  · intro s x h
    have h : klf s = some x := h
    unfold klf at h
    repeat' split at h
    all_goals cases h
    exact ⟨absS_cons (by assumption) rfl (absS_cons (by assumption) rfl (absS_cons (by assumption) rfl (rfl))), absE_cons rfl (by assumption) rfl (rfl)⟩
  · intro x; obtain ⟨y0, y1, y2⟩ := x; kernel_rfl
  · intro x z; obtain ⟨y0, y1, y2⟩ := x; exact (And.intro (And.intro trivial rfl) trivial)

def kl5 (x0 : Int) (x1 : List (List Int)) : Int × Int × List (List Int) :=
  ((0 : Int), x0, x1)

def kpr (x0 : Int) (x1 : List (List Int)) : Int :=
  bif Nat.beq (Prod.fst (Lp.res k27 (kl5 x0 x1))) (0 : Nat) then keg
  else Prod.fst (Prod.snd (Prod.snd (Lp.res k27 (kl5 x0 x1))))

def kpu (x0 : Int) (x1 : List (List Int)) : Bool :=
  allT [Lp.fin k27 (kl5 x0 x1)]

def ktm : List SV → List Entry → Option Out
  | [.one ⟨false, [.ref 0]⟩, .one ⟨false, [.val (.int .i64 x0)]⟩], [.row false 41 (.sl 2 (.int .i64)) x1] => some ⟨(.one ⟨false, [(.val (.int IntKind.i64 (kpr x0 x1)))]⟩), [(.row false 41 (CTy.sl (2 : TypeId) (CTy.int IntKind.i64)) x1)], [], [(kpu x0 x1)]⟩
  | _, _ => none

def k10x : PF Tryz.prog := PF.ofG Tryz.prog [kg5, PF.lend kg5, PF.fz kg5] [k27.F] hmix 25 Tryz.f25 Tryz.func25 (LOk.fnT (l := [loopAt Tryz.f25 0]) (by kernel_rfl) (.cons ku4 (.nil _))) ktm (by
  intro vs es r h; unfold ktm at h; split at h
  · cases h; kernel_rfl
  · cases h)

end Go.SX

namespace Go.SX
open Go.Proofs
set_option maxRecDepth 100000

def totN (ll : List (List Int)) : Nat := (ll.map List.length).sum
def upSS : Int → List (List Int) → List (List Int)
  | _, [] => []
  | k, l :: r => upFrom k l.length :: upSS (k + l.length) r
def szGo : Int → List (List Int) → Int
  | k, [] => k
  | k, l :: r => bif ltI (szV k l) 0 then -1 else szGo (szV k l) r
def szSS (k : Int) (ll : List (List Int)) : Int := bif ltI (k - ll.length) 0 then -1 else szGo (k - ll.length) ll
def eqSS (xs ys : List (List Int)) : Bool := decide (xs = ys)

theorem k15z (xs : List (List Int)) : eqSS xs xs = true := by simp [eqSS]

theorem k154 (a b : List (List Int)) : totN (a ++ b) = totN a + totN b := by simp [totN]

theorem k13c : ∀ (a b : List (List Int)) (k : Int), upSS k (a ++ b) = upSS k a ++ upSS (k + totN a) b
  | [], b, k => by simp [upSS, totN]
  | l :: a, b, k => by
    simp only [List.cons_append, upSS, k13c a b]
    congr 3
    simp [totN]; omega

theorem k10s : ∀ (a : List (List Int)) (k : Int), (upSS k a).length = a.length
  | [], _ => rfl
  | l :: a, k => by simp [upSS, k10s a]

theorem k16u {x : List Int} {xs : List (List Int)} (h : x ∈ xs) : x.length ≤ totN xs := by
  induction xs with
  | nil => cases h
  | cons l r ih =>
    simp only [totN, List.map_cons, List.sum_cons]
    rcases List.mem_cons.1 h with rfl | h
    · omega
    · have := ih h; simp only [totN] at this; omega

theorem k16b : ∀ (a : List (List Int)) (k : Int), totN (upSS k a) = totN a
  | [], _ => rfl
  | l :: a, k => by
    have := k16b a (k + l.length)
    simp only [totN] at this
    simp [upSS, totN, upFrom_length, this]

theorem k144 : ∀ (r : List (List Int)) (k : Int), ltI (szGo k r) 0 = false → (totN r : Int) ≤ k
  | [], k, h => by simp [totN]; have := ltI_not.1 h; simpa [szGo] using this
  | l :: r, k, h => by
    simp only [szGo] at h
    cases h1 : ltI (szV k l) 0 with
    | true => rw [h1] at h; simp at h
    | false =>
      rw [h1, cond_false] at h
      have h2 := k144 r _ h
      have h3 : szV k l = k - l.length := by
        simp only [szV] at h1 ⊢
        cases h4 : ltI (k - (l.length : Int)) 0 with
        | true => rw [h4] at h1; simp at h1
        | false => rfl
      rw [h3] at h2
      simp [totN] at h2 ⊢; omega

theorem k15e {k : Int} {ll : List (List Int)} (h : ltI (szSS k ll) 0 = false) : (ll.length : Int) + totN ll ≤ k := by
  simp only [szSS] at h
  cases h1 : ltI (k - (ll.length : Int)) 0 with
  | true => rw [h1] at h; simp at h
  | false =>
    rw [h1, cond_false] at h
    have := k144 _ _ h
    omega

theorem k163 {m : Nat} {ll : List (List Int)} (h1 : ll.length ≤ m) (h2 : totN ll ≤ m) : ssOk m ll = true :=
  ss_iff.2 ⟨h1, fun x hx => Nat.le_trans (k16u hx) h2⟩

theorem ssGet {m : Nat} {xs : List (List Int)} (h : ∀ x ∈ xs, x.length ≤ m) (b : Nat) : ((xs[b]?).getD []).length ≤ m := by
  cases hb : xs[b]? with
  | none => simp
  | some x => simpa using h x (List.mem_of_getElem? hb)

/-- Lists are numbered through. -/
theorem k151 {f : Nat → Int × List (List Int) → Nat ⊕ (Int × List (List Int))} {e : Nat} (hf : ∀ b k xs, f b (k, xs) = .inr (k + (((xs[b]?).getD []).length : Int), xs.set b (upFrom k ((xs[b]?).getD []).length))) (xs : List (List Int)) (k : Int) :
    walkL f e (List.range xs.length) 0 (k, xs) = (e, xs.length, (k + totN xs, upSS k xs)) := by
  rw [walk_gather (g := fun a b => (a.1 + (((a.2[b]?).getD []).length : Int), a.2.set b (upFrom a.1 ((a.2[b]?).getD []).length))) (fun b a => hf b a.1 a.2)]
  have key : ∀ (n : Nat), n ≤ xs.length → (List.range n).foldl (fun (a : Int × List (List Int)) b => (a.1 + (((a.2[b]?).getD []).length : Int), a.2.set b (upFrom a.1 ((a.2[b]?).getD []).length))) (k, xs) = (k + totN (xs.take n), upSS k (xs.take n) ++ xs.drop n) := by
    intro n
    induction n with
    | zero => intro _; simp [totN, upSS]
    | succ n ih =>
      intro hn
      rw [List.range_succ, List.foldl_append, ih (by omega)]
      have hl : (upSS k (xs.take n)).length = n := by rw [k10s, List.length_take]; omega
      have hg : (upSS k (xs.take n) ++ xs.drop n)[n]? = some (xs[n]'(by omega)) := by
        rw [List.getElem?_append_right (by omega), hl, Nat.sub_self, List.getElem?_drop, Nat.add_zero, List.getElem?_eq_getElem (by omega)]
      have ht : xs.take (n + 1) = xs.take n ++ [xs[n]'(by omega)] := by rw [List.take_succ_eq_append_getElem (by omega)]
      simp only [List.foldl_cons, List.foldl_nil, hg, Option.getD_some, ht, k154, k13c, Prod.mk.injEq]
      refine ⟨by simp [totN]; omega, ?_⟩
      have h3 : xs.drop n = xs[n]'(by omega) :: xs.drop (n + 1) := by rw [List.drop_eq_getElem_cons (by omega)]
      rw [List.set_append_right _ _ (by omega), hl, Nat.sub_self, h3, List.set_cons_zero]
      simp only [upSS, List.append_assoc, List.cons_append, List.nil_append]
  rw [key xs.length (Nat.le_refl _)]
  simp

def kbl (y1 : List (List Int)) (b : Nat) : (List (List Int)) → Nat ⊕ (List (List Int))
  | y2 => (.inr ((List.set y2 (b) ((Option.getD y1[b]? (dflt (CTy.sl (2 : TypeId) (CTy.int IntKind.i64))))))))

def k8w (y1 : List (List Int)) (i : Nat) : (List (List Int)) → k76
  | y2 => ((i : Int), y1, y2)

def ko1 : k76 → List (List Int)
  | (_, _, y2) => y2

theorem kz7 (y1 : List (List Int)) (y2 : List (List Int)) (hn : y1.length ≤ 9223372036854775807) (hl : y2.length = y1.length) (hA : ∀ x ∈ y1, x.length ≤ 1048576) :
    k3d.fin ((0 : Int), y1, y2) = true ∧ k3d.res ((0 : Int), y1, y2) = ((walkL (kbl y1) 0 (List.range y1.length) 0 y2).1, (k8w y1) (walkL (kbl y1) 0 (List.range y1.length) 0 y2).2.1 (walkL (kbl y1) 0 (List.range y1.length) 0 y2).2.2) := by
  have key := k3d.along (k8w y1) ko1 (kbl y1) 0 (fun _ a => a.length = y1.length) (List.range y1.length) y2 hl (by simp only [k3d, k8w, List.length_range]; omega) (fun i b a hb hI => ?_) (fun a hI => ?_)
  · exact key
  · obtain y2 := a
    obtain ⟨rfl, hlt⟩ := range_get hb
    have hw : IntKind.i64.wrap ((b : Int) + 1) = ((b + 1 : Nat) : Int) := by rw [wrap_i64 (by omega) (by omega)]; omega
    have hdec : ltI (b : Int) (y1.length : Int) = true := ltI_t (by omega)
    have hnn : leI (0 : Int) (b : Int) = true := leI_t (by omega)
    have hltd : ltN b y1.length = true := ltN_t (by omega)
    refine ⟨?_, ?_, ?_, ?_⟩
    · have h6 : kh0 (b : Int) y1 = true := leN_t (by simp only [kck, Int.toNat_natCast]; exact ssGet hA b)
      simp [kdv, kdw, khh, kgp, kgh, kf3, k3d, LT.nds, allT, k8w, hdec, hnn, hltd, hI, h6]
    · simp [kck, kdv, kdw, khh, kh0, kgp, kgh, kl1, kl3, kf3, k3d, LT.each, k8w, ko1, hw, hI]
    · simp only [kck, kdv, kdw, khh, kh0, kgp, kgh, kl1, kl3, kf3, k3d, LT.fn, k8w, ko1, kbl, Int.toNat_natCast, hdec, cond_true]
    · intro a' hf; simp only [kbl, Sum.inr.injEq] at hf; subst hf; simpa using hI
  · obtain y2 := a
    simp [kck, kdv, kdw, khh, kh0, kgp, kgh, kl1, kl3, kf3, k3d, LT.out, k8w, List.length_range]

def kh6 (y1 : List (List Int)) (y2 : List (List Int)) (b : Nat) : (Unit) → Nat ⊕ (Unit)
  | _ => (bif ((!eqL ((Option.getD y1[b]? (dflt (CTy.sl (2 : TypeId) (CTy.int IntKind.i64))))) (Option.getD y2[b]? (dflt (CTy.sl (2 : TypeId) (CTy.int IntKind.i64)))))) then (.inl 0) else (.inr ()))

def kb5 (y1 : List (List Int)) (y2 : List (List Int)) (i : Nat) : (Unit) → k73
  | _ => ((i : Int), y1, y2)

def knu : k73 → Unit
  | (_, _, _) => ()

theorem kzf (y1 : List (List Int)) (y2 : List (List Int))  (hn : y1.length ≤ 9223372036854775807) (he : y2.length = y1.length) (hA : ∀ x ∈ y1, x.length ≤ 9223372036854775807) :
    k2o.fin ((0 : Int), y1, y2) = true ∧ k2o.res ((0 : Int), y1, y2) = ((walkL (kh6 y1 y2) 1 (List.range y1.length) 0 ()).1, (kb5 y1 y2) (walkL (kh6 y1 y2) 1 (List.range y1.length) 0 ()).2.1 (walkL (kh6 y1 y2) 1 (List.range y1.length) 0 ()).2.2) := by
  have key := k2o.along (kb5 y1 y2) knu (kh6 y1 y2) 1 (fun _ _ => True) (List.range y1.length) () (by trivial) (by simp only [k2o, kb5, List.length_range]; omega) (fun i b a hb hI => ?_) (fun a hI => ?_)
  · exact key
  · obtain ⟨⟩ := a
    obtain ⟨rfl, hlt⟩ := range_get hb
    have hw : IntKind.i64.wrap ((b : Int) + 1) = ((b + 1 : Nat) : Int) := by rw [wrap_i64 (by omega) (by omega)]; omega
    have hdec : ltI (b : Int) (y1.length : Int) = true := ltI_t (by omega)
    have hnn : leI (0 : Int) (b : Int) = true := leI_t (by omega)
    have hltd : ltN b y1.length = true := ltN_t (by omega)
    refine ⟨?_, ?_, ?_, ?_⟩
    · have h6 : khj (b : Int) y1 = true := leN_t (by simp only [kcv, Int.toNat_natCast]; exact ssGet hA b)
      simp [kdr, kdp, kgt, kgi, kgv, kgn, khb, kfo, k2o, LT.nds, allT, kb5, hdec, hnn, hltd, he, h6]
    · simp [kcv, kdr, kdp, kgt, kgi, kgv, khj, kgn, khb, kfo, k2o, LT.each, kb5, knu, hw, he]
    · simp only [kcv, kdr, kdp, kgt, kgi, kgv, khj, kgn, khb, kfo, k2o, LT.fn, kb5, knu, kh6, Int.toNat_natCast, hdec, cond_true]
    · exact fun _ _ => trivial
  · obtain ⟨⟩ := a
    simp [kcv, kdr, kdp, kgt, kgi, kgv, khj, kgn, khb, kfo, k2o, LT.out, kb5, List.length_range]

def ka2  (b : Nat) : (Int × List (List Int)) → Nat ⊕ (Int × List (List Int))
  | (y1, y2) => (.inr (((y1 + (↑(List.length (Option.getD y2[b]? (dflt (CTy.sl (2 : TypeId) (CTy.int IntKind.i64))))) : Int))), ((List.set y2 (b) (upFrom y1 (List.length (Option.getD y2[b]? (dflt (CTy.sl (2 : TypeId) (CTy.int IntKind.i64))))))))))

def k5y  (i : Nat) : (Int × List (List Int)) → k5l
  | (y1, y2) => ((i : Int), y1, y2)

def klm : k5l → Int × List (List Int)
  | (_, y1, y2) => (y1, y2)

theorem kws  (y1 : Int) (y2 : List (List Int)) (n : Nat) (hl : y2.length = n) (hn : n ≤ 9223372036854775807) (h1 : 0 ≤ y1) (h2 : y1 + totN y2 ≤ 9223372036854775807) :
    k2h.fin ((0 : Int), y1, y2) = true ∧ k2h.res ((0 : Int), y1, y2) = ((walkL (ka2) 0 (List.range n) 0 (y1, y2)).1, (k5y) (walkL (ka2) 0 (List.range n) 0 (y1, y2)).2.1 (walkL (ka2) 0 (List.range n) 0 (y1, y2)).2.2) := by
  have key := k2h.along (k5y) klm (ka2) 0 (fun i a => a.2.length = n ∧ 0 ≤ a.1 ∧ a.1 + totN (a.2.drop i) ≤ 9223372036854775807) (List.range n) (y1, y2) ⟨hl, h1, by simpa using h2⟩ (by simp only [k2h, k5y, List.length_range]; omega) (fun i b a hb hI => ?_) (fun a hI => ?_)
  · exact key
  · obtain ⟨y1, y2⟩ := a
    obtain ⟨rfl, hlt⟩ := range_get hb
    have hI0 : y2.length = n := hI.1
    have hw : IntKind.i64.wrap ((b : Int) + 1) = ((b + 1 : Nat) : Int) := by rw [wrap_i64 (by omega) (by omega)]; omega
    have hdec : ltI (b : Int) (y2.length : Int) = true := ltI_t (by omega)
    have hnn : leI (0 : Int) (b : Int) = true := leI_t (by omega)
    have hltd : ltN b y2.length = true := ltN_t (by omega)
    refine ⟨?_, ?_, ?_, ?_⟩
    · have hd : y2.drop b = y2[b]'(by omega) :: y2.drop (b + 1) := by rw [List.drop_eq_getElem_cons (by omega)]
      have hg : y2[b]? = some (y2[b]'(by omega)) := List.getElem?_eq_getElem (by omega)
      have hk := hI.2
      have h6 : kc4 (b : Int) y1 y2 = true := by
        simp only [kc4, Int.toNat_natCast, hg]
        show mkOk y1 (y2[b]'(by omega)).length = true
        refine ku2.2 ⟨hk.1, ?_⟩
        have := hk.2
        simp only [hd, totN, List.map_cons, List.sum_cons] at this
        omega
      simp [kc5, ke5, ke8, ke9, keb, ke6, kdm, k2h, LT.nds, allT, k5y, hdec, hnn, hltd, h6]
    · simp [kc5, ke5, ke8, kc4, ke9, keb, ke6, kdm, k2h, LT.each, k5y, klm, hw]
    · simp only [kc5, ke5, ke8, kc4, ke9, keb, ke6, kdm, k2h, LT.fn, k5y, klm, ka2, Int.toNat_natCast, hdec, hnn, hltd, cond_true, Bool.cond_self]
    · have hd : y2.drop b = y2[b]'(by omega) :: y2.drop (b + 1) := by rw [List.drop_eq_getElem_cons (by omega)]
      have hg : y2[b]? = some (y2[b]'(by omega)) := List.getElem?_eq_getElem (by omega)
      have hk := hI.2
      intro a' hf; simp only [ka2, Sum.inr.injEq, hg] at hf
      have hf : (y1 + ((y2[b]'(by omega)).length : Int), y2.set b (upFrom y1 (y2[b]'(by omega)).length)) = a' := hf
      subst hf
      have := hk.2
      simp only [hd, totN, List.map_cons, List.sum_cons] at this
      refine ⟨by simp [hI0], by have := hk.1; simp only; omega, ?_⟩
      simp only [List.drop_set_of_lt (show b < b + 1 by omega), totN]
      omega
  · obtain ⟨y1, y2⟩ := a
    have hI0 : y2.length = n := hI.1
    simp [kc5, ke5, ke8, kc4, ke9, keb, ke6, kdm, k2h, LT.out, k5y, hI0, List.length_range]

def kbk  (b : List Int) : (Int) → Nat ⊕ (Int)
  | y1 => (bif ((ltI (szV y1 ((b))) (0 : Int))) then (.inl 0) else (.inr ((szV y1 ((b))))))

def k94 (y2 : List (List Int)) (i : Nat) : (Int) → k77
  | y1 => ((i : Int), y1, y2)

def knw : k77 → Int
  | (_, y1, _) => y1

theorem kzu (y2 : List (List Int)) (y1 : Int) (hn : y2.length ≤ 9223372036854775807) (hA : ∀ x ∈ y2, x.length ≤ 9223372036854775807) (h1 : 0 ≤ y1 ∧ y1 ≤ 1048576) :
    k2f.fin ((0 : Int), y1, y2) = true ∧ k2f.res ((0 : Int), y1, y2) = ((walkL (kbk) 1 y2 0 y1).1, (k94 y2) (walkL (kbk) 1 y2 0 y1).2.1 (walkL (kbk) 1 y2 0 y1).2.2) := by
  have key := k2f.along (k94 y2) knw (kbk) 1 (fun _ a => 0 ≤ a ∧ a ≤ 1048576) y2 y1 h1 (by simp only [k2f, k94]; omega) (fun i b a hb hI => ?_) (fun a hI => ?_)
  · exact key
  · obtain y1 := a
    have hlt := (List.getElem?_eq_some_iff.1 hb).1
    have hget : ∀ d, Option.getD y2[i]? d = b := fun d => by rw [hb]; rfl
    have hw := wrap64 hlt hn
    have hdec : ltI (i : Int) (y2.length : Int) = true := ltI_t (by omega)
    have hnn : leI (0 : Int) (i : Int) = true := leI_t (by omega)
    have hltd : ltN i y2.length = true := ltN_t hlt
    refine ⟨?_, ?_, ?_, ?_⟩
    · have hg2 : k7m (i : Int) y2 = b := by simp only [k7m, Int.toNat_natCast]; exact hget _
      have h6 : leN b.length 9223372036854775807 = true := leN_t (hA b (List.mem_of_getElem? hb))
      have h7 : leI (-1) a = true := leI_t (by omega)
      have h8 : leI a 1048576 = true := leI_t (by omega)
      simp [kdo, kl4, kl6, kl2, kgk, kl8, kh2, kfw, k2f, LT.nds, allT, k94, hdec, hnn, hltd, hg2, h6, h7, h8]
    · simp [k7m, kdo, kl4, kl6, kl2, kgk, kh5, kl8, kh2, kfw, k2f, LT.each, k94, knw, hw]
    · have hg2 : k7m (i : Int) y2 = b := by simp only [k7m, Int.toNat_natCast]; exact hget _
      simp only [kdo, kgk, kh2, kfw, k2f, LT.fn, k94, knw, kbk, Int.toNat_natCast, hdec, hg2, cond_true]
    · intro a' hf
      simp only [kbk] at hf
      cases h9 : ltI (szV a b) 0 with
      | true => rw [h9] at hf; cases hf
      | false =>
        rw [h9] at hf; cases hf
        refine ⟨ltI_not.1 h9, ?_⟩
        simp only [szV]
        cases ltI (a - (b.length : Int)) 0 <;> simp <;> omega
  · obtain y1 := a
    simp [k7m, kdo, kl4, kl6, kl2, kgk, kh5, kl8, kh2, kfw, k2f, LT.out, k94]

theorem k164 {f : List Int → Int → Nat ⊕ Int} (hf : ∀ l k, f l k = bif ltI (szV k l) 0 then .inl 0 else .inr (szV k l)) : ∀ (r : List (List Int)) (i : Nat) (k : Int), 0 ≤ k →
    (bif Nat.beq (walkL f 1 r i k).1 0 then (-1 : Int) else (walkL f 1 r i k).2.2) = szGo k r
  | [], i, k, _ => rfl
  | l :: r, i, k, hk => by
    simp only [walkL, hf, szGo]
    cases h : ltI (szV k l) 0 with
    | true => rfl
    | false => exact k164 hf r (i + 1) _ (ltI_not.1 h)

theorem k16t (k : Int) (xs : List (List Int)) (h : (ssOk 9223372036854775807 xs && (leI (-1) k && leI k 1048576)) = true) : krx k xs = szSS k xs ∧ krh k xs = true := by
  simp only [Bool.and_eq_true, leI_iff] at h
  obtain ⟨h1, h2, h3⟩ := h
  obtain ⟨hn, hA⟩ := ss_iff.1 h1
  have hw : IntKind.i64.wrap (k - (xs.length : Int)) = k - (xs.length : Int) := wrap_i64 (by omega) (by omega)
  simp only [krx, krh, knm, knq, kh5, hw, szSS, allT]
  cases hq : ltI (k - (xs.length : Int)) 0 with
  | true => simp
  | false =>
    have hq' := ltI_not.1 hq
    obtain ⟨w1, w2⟩ := kzu xs (k - (xs.length : Int)) hn hA (by omega)
    simp only [w1, w2, cond_false, k94, Bool.or_true, cond_true]
    exact ⟨k164 (f := kbk) (fun l k => rfl) xs 0 _ hq', trivial⟩

theorem k16x (xs : List (List Int)) (h : ssOk 1048576 xs = true) : krv xs = xs ∧ krw xs = true := by
  obtain ⟨hn, hA⟩ := ss_iff.1 h
  have hr : (List.replicate (Int.toNat (xs.length : Int)) ([] : List Int)).length = xs.length := by simp
  obtain ⟨w1, w2⟩ := kz7 xs (List.replicate (Int.toNat (xs.length : Int)) []) (by omega) hr hA
  have hc := walk_copy (xs := xs) (d := ([] : List Int)) (g := fun x => x) (f := kbl xs) (e := 0) (fun b a => rfl) hr
  rw [hc] at w2
  refine ⟨?_, ?_⟩
  · simp only [krv, knp, w2, k8w]; simp
  · simp only [krw, knp, w1, allT]; simp; omega

theorem k171 (xs ys : List (List Int)) (h : ssOk 9223372036854775807 xs = true) : koz xs ys = eqSS xs ys ∧ koj xs ys = true := by
  obtain ⟨hn, hA⟩ := ss_iff.1 h
  unfold eqSS
  by_cases hl : ys.length = xs.length
  · obtain ⟨w1, w2⟩ := kzf xs ys hn hl hA
    have ha := any_ne (d := ([] : List Int)) hl (P := fun b => !eqL ((xs[b]?).getD []) ((ys[b]?).getD [])) (fun b => by simp [eqL])
    rw [walk_stop (P := fun b => !eqL ((xs[b]?).getD []) ((ys[b]?).getD [])) (j := 0) (fun b => rfl), ha] at w2
    simp only [knh, knn, koz, koj, w1, w2, allT]
    by_cases he : xs = ys
    · subst he; simp; decide
    · simp [he, hl]
  · have hne : xs ≠ ys := fun h => hl (by rw [h])
    simp [knh, knn, koz, koj, allT, hne]
    omega

theorem k15s (k : Int) (xs : List (List Int)) (h : (mkOk k (totN xs) && leN xs.length 9223372036854775807) = true) : ki5 k xs = k + totN xs ∧ khw k xs = upSS k xs ∧ ki2 k xs = true := by
  simp only [Bool.and_eq_true, leN_iff] at h
  obtain ⟨h0, h2⟩ := ku2.1 h.1
  obtain ⟨w1, w2⟩ := kws k xs xs.length rfl h.2 h0 h2
  rw [k151 (f := ka2) (fun b k xs => rfl)] at w2
  refine ⟨?_, ?_, ?_⟩
  · simp only [khk, kgj, ki5, khw, ki2, w2, k5y]
  · simp only [khk, kgj, ki5, khw, ki2, w2, k5y]
  · simp only [khk, kgj, ki5, khw, ki2, w1, allT, cond_true]

def heldGo : Int → List (List Int) → Int
  | k, [] => k
  | k, l :: r => bif ltI (heldV k l) 0 then -1 else heldGo (heldV k l) r

def kc6  (b : List Int) : (Int) → Nat ⊕ (Int)
  | y1 => (bif ((ltI (heldV y1 ((b))) (0 : Int))) then (.inl 0) else (.inr ((heldV y1 ((b))))))

def k7h (y2 : List (List Int)) (i : Nat) : (Int) → k5m
  | y1 => ((i : Int), y1, y2)

def klv : k5m → Int
  | (_, y1, _) => y1

theorem kwq (y2 : List (List Int)) (y1 : Int) (hn : y2.length ≤ 9223372036854775807) (hA : ∀ x ∈ y2, x.length ≤ 9223372036854775807) :
    k27.fin ((0 : Int), y1, y2) = true ∧ k27.res ((0 : Int), y1, y2) = ((walkL (kc6) 1 y2 0 y1).1, (k7h y2) (walkL (kc6) 1 y2 0 y1).2.1 (walkL (kc6) 1 y2 0 y1).2.2) := by
  have key := k27.along (k7h y2) klv (kc6) 1 (fun _ _ => True) y2 y1 (by trivial) (by simp only [k27, k7h]; omega) (fun i b a hb hI => ?_) (fun a hI => ?_)
  · exact key
  · obtain y1 := a
    have hlt := (List.getElem?_eq_some_iff.1 hb).1
    have hget : ∀ d, Option.getD y2[i]? d = b := fun d => by rw [hb]; rfl
    have hw := wrap64 hlt hn
    have hdec : ltI (i : Int) (y2.length : Int) = true := ltI_t (by omega)
    have hnn : leI (0 : Int) (i : Int) = true := leI_t (by omega)
    have hltd : ltN i y2.length = true := ltN_t hlt
    refine ⟨?_, ?_, ?_, ?_⟩
    · have hg2 : k5q (i : Int) y2 = b := by simp only [k5q, Int.toNat_natCast]; exact hget _
      have h6 : leN b.length 9223372036854775807 = true := leN_t (hA b (List.mem_of_getElem? hb))
      simp [kc7, khr, khq, khu, kec, kho, kea, kd9, k27, LT.nds, allT, k7h, hdec, hnn, hltd, hg2, h6]
    · simp [k5q, kc7, khr, khq, khu, kec, keg, kho, kea, kd9, k27, LT.each, k7h, klv, hw]
    · have hg2 : k5q (i : Int) y2 = b := by simp only [k5q, Int.toNat_natCast]; exact hget _
      simp only [kc7, kec, kea, kd9, k27, LT.fn, k7h, klv, kc6, Int.toNat_natCast, hdec, hg2, cond_true]
    · exact fun _ _ => trivial
  · obtain y1 := a
    simp [k5q, kc7, khr, khq, khu, kec, keg, kho, kea, kd9, k27, LT.out, k7h]

theorem k13a {f : List Int → Int → Nat ⊕ Int} (hf : ∀ l k, f l k = bif ltI (heldV k l) 0 then .inl 0 else .inr (heldV k l)) : ∀ (r : List (List Int)) (i : Nat) (k : Int),
    (bif Nat.beq (walkL f 1 r i k).1 0 then (-1 : Int) else (walkL f 1 r i k).2.2) = heldGo k r
  | [], i, k => rfl
  | l :: r, i, k => by
    simp only [walkL, hf, heldGo]
    cases h : ltI (heldV k l) 0 with
    | true => rfl
    | false => exact k13a hf r (i + 1) _

theorem k160 (k : Int) (xs : List (List Int)) (h : ssOk 9223372036854775807 xs = true) : kpr k xs = heldGo k xs ∧ kpu k xs = true := by
  obtain ⟨hn, hA⟩ := ss_iff.1 h
  obtain ⟨w1, w2⟩ := kwq xs k hn hA
  simp only [kpr, kpu, kl5, keg, w1, w2, k7h, allT, cond_true]
  exact ⟨k13a (f := kc6) (fun l k => rfl) xs 0 k, trivial⟩

theorem k14s : ∀ (ll : List (List Int)) (k : Int), mkOk k (totN ll) = true → heldGo k (upSS k ll) = k + totN ll
  | [], k, _ => by simp [heldGo, upSS, totN]
  | l :: r, k, h => by
    obtain ⟨h0, h1⟩ := ku2.1 h
    have ht : (totN (l :: r) : Int) = l.length + totN r := by simp [totN]
    have m1 : mkOk k l.length = true := ku2.2 (by omega)
    have m2 : mkOk (k + l.length) (totN r) = true := ku2.2 (by omega)
    have t : ltI (k + (l.length : Int)) 0 = false := ltI_f (by omega)
    simp only [upSS, heldGo, k16q k l.length m1, t, cond_false]
    rw [k14s r _ m2]
    omega

def kv1 : List SV → List Entry → Option Out
  | [.one ⟨false, [.ref 0]⟩, .one ⟨false, [.val (.int .i64 x0)]⟩], [.row false 41 (.sl 2 (.int .i64)) x1] => some ⟨(.one ⟨false, [(.val (.int IntKind.i64 (szSS x0 x1)))]⟩), [(.row false 41 (CTy.sl (2 : TypeId) (CTy.int IntKind.i64)) x1)], [], [ssOk 9223372036854775807 x1 && (leI (-1) x0 && leI x0 1048576)]⟩
  | _, _ => none

def krp : PF Tryz.prog := PF.alt k12n kv1 (by
  intro args es o h hnd; unfold kv1 at h; split at h
  · rename_i x0 x1
    cases h
    have hnd := nd_fst hnd
    have hh := k16t x0 x1 hnd
    obtain ⟨e0, en⟩ := hh
    exact altok rfl (nd_one en) (by simp only [e0] <;> rfl) rfl rfl
  · cases h)

def kvf : List SV → List Entry → Option Out
  | [.one ⟨false, [.ref 0]⟩], [.row false 41 (.sl 2 (.int .i64)) x0] => some ⟨(.one ⟨false, [(.ref 1)]⟩), [(.row false 41 (CTy.sl (2 : TypeId) (CTy.int IntKind.i64)) x0)], [(.tree 41 (CTy.sl (2 : Nat) (CTy.int IntKind.i64)) (x0) none)], [ssOk 1048576 x0]⟩
  | _, _ => none

def krd : PF Tryz.prog := PF.alt k12i kvf (by
  intro args es o h hnd; unfold kvf at h; split at h
  · rename_i x0
    cases h
    have hnd := nd_fst hnd
    have hh := k16x x0 hnd
    obtain ⟨e0, en⟩ := hh
    exact altok rfl (nd_one en) rfl rfl (by simp only [e0] <;> rfl)
  · cases h)

def kv7 : List SV → List Entry → Option Out
  | [.one ⟨false, [.ref 0]⟩, .one ⟨false, [.ref 1]⟩], [.row false 41 (.sl 2 (.int .i64)) x0, .row false 41 (.sl 2 (.int .i64)) x1] => some ⟨(.one ⟨false, [(.val (.bool (eqSS x0 x1)))]⟩), [(.row false 41 (CTy.sl (2 : TypeId) (CTy.int IntKind.i64)) x0), (.row false 41 (CTy.sl (2 : TypeId) (CTy.int IntKind.i64)) x1)], [], [ssOk 9223372036854775807 x0]⟩
  | _, _ => none

def kro : PF Tryz.prog := PF.alt k12g kv7 (by
  intro args es o h hnd; unfold kv7 at h; split at h
  · rename_i x0 x1
    cases h
    have hnd := nd_fst hnd
    have hh := k171 x0 x1 hnd
    obtain ⟨e0, en⟩ := hh
    exact altok rfl (nd_one en) (by simp only [e0] <;> rfl) rfl rfl
  · cases h)

def kto : List SV → List Entry → Option Out
  | [.one ⟨false, [.ref 0]⟩, .one ⟨false, [.val (.int .i64 x0)]⟩], [.tree 41 (.sl 2 (.int .i64)) x1 none] => some ⟨(.one ⟨false, [(.val (.int IntKind.i64 (x0 + (totN x1 : Int))))]⟩), [(.tree 41 (CTy.sl (2 : TypeId) (CTy.int IntKind.i64)) (upSS x0 x1) none)], [], [mkOk x0 (totN x1) && leN x1.length 9223372036854775807]⟩
  | _, _ => none

def kp7 : PF Tryz.prog := PF.alt k10z kto (by
  intro args es o h hnd; unfold kto at h; split at h
  · rename_i x0 x1
    cases h
    have hnd := nd_fst hnd
    have hh := k15s x0 x1 hnd
    obtain ⟨e0, e1, en⟩ := hh
    exact altok rfl (nd_one en) (by simp only [e0] <;> rfl) (by simp only [e1] <;> rfl) rfl
  · cases h)

def ktd : List SV → List Entry → Option Out
  | [.one ⟨false, [.ref 0]⟩, .one ⟨false, [.val (.int .i64 x0)]⟩], [.row false 41 (.sl 2 (.int .i64)) x1] => some ⟨(.one ⟨false, [(.val (.int IntKind.i64 (heldGo x0 x1)))]⟩), [(.row false 41 (CTy.sl (2 : TypeId) (CTy.int IntKind.i64)) x1)], [], [ssOk 9223372036854775807 x1]⟩
  | _, _ => none

def kpi : PF Tryz.prog := PF.alt k10x ktd (by
  intro args es o h hnd; unfold ktd at h; split at h
  · rename_i x0 x1
    cases h
    have hnd := nd_fst hnd
    have hh := k160 x0 x1 hnd
    obtain ⟨e0, en⟩ := hh
    exact altok rfl (nd_one en) (by simp only [e0] <;> rfl) rfl rfl
  · cases h)

end Go.SX

namespace Go.SX
open Go.Proofs
set_option maxRecDepth 100000

def ka9 (x3 : Int) (x4 : List (Int × ByteArray × Int)) (x5 : List (Int × Int)) : Int :=
  bif ltI (szTs x3 x4) (0 : Int) then (-1 : Int)
  else bif ltI (szL (szTs x3 x4) (List.length x5)) (0 : Int) then (-1 : Int) else szL (szTs x3 x4) (List.length x5)

def ksi (x3 : Int) (x4 : List (Int × ByteArray × Int)) (x5 : List (Int × Int)) : Bool :=
  allT
  [leN (List.length x4) (9223372036854775807 : Nat) && (leI (-1 : Int) x3 && leI x3 (1048576 : Int)),
    ltI (szTs x3 x4) (0 : Int) ||
      leN (List.length x5) (9223372036854775807 : Nat) && (leI (-1 : Int) (szTs x3 x4) && leI (szTs x3 x4) (1048576 : Int))]

def k11b : List SV → List Entry → Option Out
  | [.one ⟨true, [.val (.int .i64 _x0), .val (.int .i64 _x1), .val (.int .i64 _x2), .ref 0, .ref 1]⟩, .one ⟨false, [.val (.int .i64 x3)]⟩], [.row false 175 (.pair (.int .i64) (.pair (.str) (.int .i64))) x4, .row false 183 (.pair (.int .i64) (.int .i64)) x5] => some ⟨(.one ⟨false, [(.val (.int IntKind.i64 (ka9 x3 x4 x5)))]⟩), [(.row false 175 (CTy.pair (CTy.int IntKind.i64) (CTy.pair CTy.str (CTy.int IntKind.i64))) x4), (.row false 183 (CTy.pair (CTy.int IntKind.i64) (CTy.int IntKind.i64)) x5)], [], [(ksi x3 x4 x5)]⟩
  | _, _ => none

def kv3 : PF Tryz.prog := PF.ofG Tryz.prog [ktt, PF.lend ktt, PF.fz ktt, knb, PF.lend knb, PF.fz knb] [] hmix 15 Tryz.f15 Tryz.func15 (fun c _ => LOk.nil c) k11b (by
  intro vs es r h; unfold k11b at h; split at h
  · cases h; kernel_rfl
  · cases h)

def klp (x3 : List (Int × ByteArray × Int)) (x4 : List (Int × Int)) : Bool :=
  allT [leN (List.length x3) (1048576 : Nat), leN (List.length x4) (1048576 : Nat)]

def k115 : List SV → List Entry → Option Out
  | [.one ⟨true, [.val (.int .i64 x0), .val (.int .i64 x1), .val (.int .i64 x2), .ref 0, .ref 1]⟩], [.row false 175 (.pair (.int .i64) (.pair (.str) (.int .i64))) x3, .row false 183 (.pair (.int .i64) (.int .i64)) x4] => some ⟨(.one ⟨true, [(.val (.int IntKind.i64 x0)), (.val (.int IntKind.i64 x1)), (.val (.int IntKind.i64 x2)), (.ref 2), (.ref 3)]⟩), [(.row false 175 (CTy.pair (CTy.int IntKind.i64) (CTy.pair CTy.str (CTy.int IntKind.i64))) x3), (.row false 183 (CTy.pair (CTy.int IntKind.i64) (CTy.int IntKind.i64)) x4)], [(.row true 178 (CTy.pair (CTy.int IntKind.i64) (CTy.pair CTy.str (CTy.int IntKind.i64))) x3), (.row true 150 (CTy.pair (CTy.int IntKind.i64) (CTy.int IntKind.i64)) x4)], [(klp x3 x4)]⟩
  | _, _ => none

def kw2 : PF Tryz.prog := PF.ofG Tryz.prog [kui, PF.lend kui, PF.fz kui, kn1, PF.lend kn1, PF.fz kn1] [] hmix 18 Tryz.f18 Tryz.func18 (fun c _ => LOk.nil c) k115 (by
  intro vs es r h; unfold k115 at h; split at h
  · cases h; kernel_rfl
  · cases h)

def k8i (x0 : Int) (x1 : Int) (x2 : Int) (x3 : Int) (x4 : Int) (x5 : Int) (x6 : List (Int × ByteArray × Int)) (x7 : List (Int × Int)) (x8 : List (Int × ByteArray × Int)) (x9 : List (Int × Int)) : Bool :=
  bif x0 != x3 then false
  else bif x1 != x4 then false else bif x2 != x5 then false else bif !eqTs x6 x8 then false else bif !eqIs x7 x9 then false else true

def ksp (x0 : Int) (x1 : Int) (x2 : Int) (x3 : Int) (x4 : Int) (x5 : Int) (x6 : List (Int × ByteArray × Int)) (x7 : List (Int × Int)) (x8 : List (Int × ByteArray × Int)) : Bool :=
  allT
  [x0 != x3 || (x1 != x4 || (x2 != x5 || leN (List.length x6) (9223372036854775807 : Nat))),
    x0 != x3 || (x1 != x4 || (x2 != x5 || (!eqTs x6 x8 || leN (List.length x7) (9223372036854775807 : Nat))))]

def k11l : List SV → List Entry → Option Out
  | [.one ⟨true, [.val (.int .i64 x0), .val (.int .i64 x1), .val (.int .i64 x2), .ref 0, .ref 1]⟩, .one ⟨true, [.val (.int .i64 x3), .val (.int .i64 x4), .val (.int .i64 x5), .ref 2, .ref 3]⟩], [.row false 178 (.pair (.int .i64) (.pair (.str) (.int .i64))) x6, .row false 150 (.pair (.int .i64) (.int .i64)) x7, .row false 178 (.pair (.int .i64) (.pair (.str) (.int .i64))) x8, .row false 150 (.pair (.int .i64) (.int .i64)) x9] => some ⟨(.one ⟨false, [(.val (.bool (k8i x0 x1 x2 x3 x4 x5 x6 x7 x8 x9)))]⟩), [(.row false 178 (CTy.pair (CTy.int IntKind.i64) (CTy.pair CTy.str (CTy.int IntKind.i64))) x6), (.row false 150 (CTy.pair (CTy.int IntKind.i64) (CTy.int IntKind.i64)) x7), (.row false 178 (CTy.pair (CTy.int IntKind.i64) (CTy.pair CTy.str (CTy.int IntKind.i64))) x8), (.row false 150 (CTy.pair (CTy.int IntKind.i64) (CTy.int IntKind.i64)) x9)], [], [(ksp x0 x1 x2 x3 x4 x5 x6 x7 x8)]⟩
  | _, _ => none

def kvt : PF Tryz.prog := PF.ofG Tryz.prog [ktz, PF.lend ktz, PF.fz ktz, kmw, PF.lend kmw, PF.fz kmw] [] hmix 22 Tryz.f22 Tryz.func22 (fun c _ => LOk.nil c) k11l (by
  intro vs es r h; unfold k11l at h; split at h
  · cases h; kernel_rfl
  · cases h)

def klw (x3 : Int) (x4 : List (Int × ByteArray × Int)) : Int :=
  x3 + (3 : Int) * (↑(List.length x4) : Int)

def keo (x3 : Int) (x4 : List (Int × ByteArray × Int)) (x5 : List (Int × Int)) : Int :=
  klw x3 x4 + (2 : Int) * (↑(List.length x5) : Int)

def k12z (x3 : Int) (x4 : List (Int × ByteArray × Int)) : List (Int × (ByteArray × Int)) :=
  krz x3 x4

def k131 (x3 : Int) (x4 : List (Int × ByteArray × Int)) (x5 : List (Int × Int)) : List (Int × Int) :=
  kky (klw x3 x4) x5

def kq3 (x3 : Int) (x4 : List (Int × ByteArray × Int)) (x5 : List (Int × Int)) : Bool :=
  allT
  [mkOk3 (3 : Nat) x3 (List.length x4) && leN (List.length x4) (9223372036854775807 : Nat),
    mkOk3 (2 : Nat) (klw x3 x4) (List.length x5) && leN (List.length x5) (9223372036854775807 : Nat)]

def kx8 : List SV → List Entry → Option Out
  | [.one ⟨true, [.val (.int .i64 _x0), .val (.int .i64 _x1), .val (.int .i64 _x2), .ref 0, .ref 1]⟩, .one ⟨false, [.val (.int .i64 x3)]⟩], [.row true 178 (.pair (.int .i64) (.pair (.str) (.int .i64))) x4, .row true 150 (.pair (.int .i64) (.int .i64)) x5] => some ⟨(.one ⟨false, [(.val (.int IntKind.i64 (keo x3 x4 x5)))]⟩), [(.row true 178 (CTy.pair (CTy.int IntKind.i64) (CTy.pair CTy.str (CTy.int IntKind.i64))) (k12z x3 x4)), (.row true 150 (CTy.pair (CTy.int IntKind.i64) (CTy.int IntKind.i64)) (k131 x3 x4 x5))], [], [(kq3 x3 x4 x5)]⟩
  | _, _ => none

def kt1 : PF Tryz.prog := PF.ofG Tryz.prog [krc, PF.lend krc, PF.fz krc, kkx, PF.lend kkx, PF.fz kkx] [] hmix 23 Tryz.f23 Tryz.func23 (fun c _ => LOk.nil c) kx8 (by
  intro vs es r h; unfold kx8 at h; split at h
  · cases h; kernel_rfl
  · cases h)

end Go.SX

namespace Go.SX
open Go.Proofs
set_option maxRecDepth 100000

theorem k14m {k : Int} {bs : List TM} {st : List IN} (hb : bs.length ≤ 9223372036854775807) (hst : st.length ≤ 9223372036854775807) (hs : ∀ t ∈ bs, t.2.1.size ≤ 9223372036854775807) (h0 : -1 ≤ k) (hk : k ≤ 1048576) :
    ksi k bs st = true ∧ (ltI (ka9 k bs st) 0 = false → (0 ≤ ka9 k bs st ∧ ka9 k bs st ≤ k) ∧ (bs.length : Int) + totT bs + st.length + ka9 k bs st = k) := by
  have t1 : leN bs.length 9223372036854775807 = true := leN_t hb
  have t2 : leN st.length 9223372036854775807 = true := leN_t hst
  have t3 : leI (-1) k = true := leI_t h0
  have t4 : leI k 1048576 = true := leI_t hk
  simp only [ka9, ksi, t1, t2, t3, t4, allT]
  cases h1 : ltI (szTs k bs) 0 with
  | true => exact ⟨rfl, fun h => absurd (show ltI (-1) 0 = false from h) (by decide)⟩
  | false =>
    obtain ⟨q1, q2⟩ := k15h hs hk h1
    have u3 : leI (-1) (szTs k bs) = true := leI_t (by omega)
    have u4 : leI (szTs k bs) 1048576 = true := leI_t (by omega)
    refine ⟨by rw [u3, u4]; rfl, fun h => ?_⟩
    simp only [cond_false] at h ⊢
    cases h2 : ltI (szL (szTs k bs) st.length) 0 with
    | true => rw [h2] at h; exact absurd (show ltI (-1) 0 = false from h) (by decide)
    | false =>
      obtain ⟨r1, r2⟩ := k15v h2
      simp only [cond_false]
      omega

theorem k15a (bs : List TM) (st : List IN) (h : (bs.length : Int) + st.length ≤ 1048576) : kq3 1 bs st = true ∧ 0 ≤ keo 1 bs st ∧ keo 1 bs st ≤ 5000000 := by
  have l1 : leN bs.length 9223372036854775807 = true := leN_t (by omega)
  have l2 : leN st.length 9223372036854775807 = true := leN_t (by omega)
  have m1 : mkOk3 3 1 bs.length = true := k129.2 (by omega)
  have m2 : mkOk3 2 (1 + 3 * (bs.length : Int)) st.length = true := k129.2 (by omega)
  refine ⟨by simp only [kq3, klw, m1, m2, l1, l2, allT, Bool.and_self, cond_true], ?_, ?_⟩ <;> simp only [keo, klw] <;> omega

/-- A machine that is run to its end is possible. -/
theorem k167 {i v o : Int} {bs : List TM} {st : List IN} {inp : List Int} (hC : codeB i v o bs st = true) (hin : bitsB i inp = true) : ∀ (n : Nat) (m : MS), OkS i v o bs st m → st.length - m.1.toNat = n →
    OkS i v o bs st (finM bs st inp n m) ∧ (finM bs st inp n m).1 = st.length
  | 0, m, hm, hn => ⟨hm, by
    have := hm.lo
    have := hm.hi
    show m.1 = _
    omega⟩
  | n + 1, m, hm, hn => by
    have h0 := hm.lo
    have hlt : m.1 < st.length := by omega
    have hs := (stp_ok hC hin hm hlt).1
    have he : (stpM bs st inp m).1 = m.1 + 1 := rfl
    exact k167 hC hin n _ hs (by rw [he]; omega)

theorem run_ok {i v o : Int} {bs : List TM} {st : List IN} {inp : List Int} {k : Int} {stk xs os : List Int} {ss : List BS3} (h : runNd i v o bs st inp k stk xs os ss = true) : OkS i v o bs st (fnM bs st inp k stk xs os ss) ∧ (fnM bs st inp k stk xs os ss).1 = st.length := by
  simp only [runNd, Bool.and_eq_true] at h
  exact k167 h.1 h.2.1 _ _ (mch_ok h.1 h.2.2) rfl

end Go.SX

namespace Go.SX
open Go.Proofs
set_option maxRecDepth 100000

/-- What several runs give. -/
def goL (o : Int) (bs : List TM) (st : List IN) : List (List Int) → List Int → List BS3 → List (List Int)
  | [], _, _ => []
  | inp :: r, xs, ss => (rnM o bs st inp xs ss).2.2.2.1 :: goL o bs st r (rnM o bs st inp xs ss).2.2.1 (rnM o bs st inp xs ss).2.2.2.2

theorem k15g {i v o : Int} {bs : List TM} {st : List IN} {inp xs : List Int} {ss : List BS3} (h : exNd i v o bs st inp xs ss = true) :
    suitB v bs (rnM o bs st inp xs ss).2.2.1 (rnM o bs st inp xs ss).2.2.2.2 = true ∧ (rnM o bs st inp xs ss).2.2.2.1.length ≤ 20 := by
  have hr := (ex_run h).1
  have hk := (run_ok hr).1
  have hC : codeB i v o bs st = true := by simp only [exNd, Bool.and_eq_true] at h; exact h.1
  exact ⟨k13u.2 ⟨hk.sl, hk.vl, hk.sp⟩, (ok_len hC hk).2.2.1⟩

theorem k14r {i v o : Int} {bs : List TM} {st : List IN} (hC : codeB i v o bs st = true) : ∀ (r : List (List Int)) (xs : List Int) (ss : List BS3), (∀ x ∈ r, bitsB i x = true) → suitB v bs xs ss = true →
    (goL o bs st r xs ss).length = r.length ∧ ∀ x ∈ goL o bs st r xs ss, x.length ≤ 20
  | [], _, _, _, _ => ⟨rfl, fun x hx => (List.not_mem_nil hx).elim⟩
  | inp :: r, xs, ss, hA, hs => by
    have he : exNd i v o bs st inp xs ss = true := by simp only [exNd, hC, hA inp (by simp), hs]; rfl
    obtain ⟨h1, h2⟩ := k15g he
    obtain ⟨g1, g2⟩ := k14r hC r _ _ (fun x hx => hA x (by simp [hx])) h1
    refine ⟨by simp [goL, g1], fun x hx => ?_⟩
    rcases List.mem_cons.1 hx with rfl | hx
    · exact h2
    · exact g2 x hx

theorem k15x {k : Int} {s : ByteArray} {n : Int} (h : blockB k s n = true) : possB k n 0 0 0 = true := by
  obtain ⟨h1, h2, h3⟩ := kzl h
  have t : inR 0 0 n = true := krj.2 (by omega)
  have t1 : inR 0 0 1 = true := rfl
  rcases kinds h1 with rfl | rfl | rfl | rfl | rfl | rfl <;> simp [possB, k2i, k1o, inR_eq, t, t1] <;> omega

/-- The first memory. -/
def zeroV (v : Int) : List Int := List.replicate v.toNat 0
def zeroB (bs : List TM) : List BS3 := List.replicate bs.length ((0 : Int), (0 : Int), (0 : Int))

theorem k13x {i v o : Int} {bs : List TM} {st : List IN} (hC : codeB i v o bs st = true) : suitB v bs (zeroV v) (zeroB bs) = true := by
  obtain ⟨⟨ri, rv, ro, rb, rs⟩, hB, hok⟩ := k13v hC
  refine k13u.2 ⟨by simp [zeroB], k9w.2 ⟨fun z hz => .inl (List.eq_of_mem_replicate hz), by rw [zeroV, List.length_replicate]; omega⟩, fun k hk => ?_⟩
  simp only [blksB, List.all_eq_true] at hB
  have h1 : stAt (zeroB bs) k = (0, 0, 0) := by
    simp only [stAt, zeroB]
    rw [List.getElem?_replicate, if_pos hk]; rfl
  have h2 : termAt bs k ∈ bs := by
    simp only [termAt, List.getElem?_eq_getElem hk]; exact List.getElem_mem hk
  simp only [possAt, h1]
  exact k15x (hB _ h2)

def rsCode (i v o : Int) (bs : List TM) (st : List IN) (l : List (List Int)) : Int := bif !codeB i v o bs st then 1 else bif ltI 200 (l.length : Int) then 3 else bif !l.all (bitsB i) then 2 else 0
def rsO (i v o : Int) (bs : List TM) (st : List IN) (l : List (List Int)) : List (List Int) := bif rsCode i v o bs st l == 0 then goL o bs st l (zeroV v) (zeroB bs) else []
def rsNd (bs : List TM) (l : List (List Int)) : Bool := tsOk bs && ssOk 9223372036854775807 l

def khz (y2 : Int) (b : List Int) : (Unit) → Nat ⊕ (Unit)
  | _ => (bif ((!bitsB y2 ((b)))) then (.inl 0) else (.inr ()))

def kby (y1 : List (List Int)) (y2 : Int) (y3 : Int) (y4 : Int) (y5 : List (Int × (ByteArray × Int))) (y6 : List (Int × Int)) (i : Nat) : (Unit) → k8a
  | _ => ((i : Int), y1, y2, y3, y4, y5, y6)

def koc : k8a → Unit
  | (_, _, _, _, _, _, _) => ()

theorem k10u (y1 : List (List Int)) (y2 : Int) (y3 : Int) (y4 : Int) (y5 : List (Int × (ByteArray × Int))) (y6 : List (Int × Int))  (hn : y1.length ≤ 9223372036854775807) (hA : ∀ x ∈ y1, x.length ≤ 9223372036854775807) :
    k37.fin ((0 : Int), y1, y2, y3, y4, y5, y6) = true ∧ k37.res ((0 : Int), y1, y2, y3, y4, y5, y6) = ((walkL (khz y2) 1 y1 0 ()).1, (kby y1 y2 y3 y4 y5 y6) (walkL (khz y2) 1 y1 0 ()).2.1 (walkL (khz y2) 1 y1 0 ()).2.2) := by
  have key := k37.along (kby y1 y2 y3 y4 y5 y6) koc (khz y2) 1 (fun _ _ => True) y1 () (by trivial) (by simp only [k37, kby]; omega) (fun i b a hb hI => ?_) (fun a hI => ?_)
  · exact key
  · obtain ⟨⟩ := a
    have hlt := (List.getElem?_eq_some_iff.1 hb).1
    have hget : ∀ d, Option.getD y1[i]? d = b := fun d => by rw [hb]; rfl
    have hw := wrap64 hlt hn
    have hdec : ltI (i : Int) (y1.length : Int) = true := ltI_t (by omega)
    have hnn : leI (0 : Int) (i : Int) = true := leI_t (by omega)
    have hltd : ltN i y1.length = true := ltN_t hlt
    refine ⟨?_, ?_, ?_, ?_⟩
    · have hg2 : ka6 (i : Int) y1 = b := by simp only [ka6, Int.toNat_natCast]; exact hget _
      have h6 : leN b.length 9223372036854775807 = true := leN_t (hA b (List.mem_of_getElem? hb))
      simp [kev, kmb, km6, kmp, khx, kmn, kh3, k37, LT.nds, allT, kby, hdec, hnn, hltd, hg2, h6]
    · simp [ka6, kev, kmb, km6, kmp, khx, kmn, kh3, k37, LT.each, kby, koc, hw]
    · have hg2 : ka6 (i : Int) y1 = b := by simp only [ka6, Int.toNat_natCast]; exact hget _
      simp only [kev, khx, kh3, k37, LT.fn, kby, koc, khz, Int.toNat_natCast, hdec, hg2, cond_true]
    · exact fun _ _ => trivial
  · obtain ⟨⟩ := a
    simp [ka6, kev, kmb, km6, kmp, khx, kmn, kh3, k37, LT.out, kby]

def kcm (y4 : Int) (y6 : List (Int × (ByteArray × Int))) (y7 : List (Int × Int)) (b : List Int) : (List (List Int) × List Int × List (Int × (Int × Int))) → Nat ⊕ (List (List Int) × List Int × List (Int × (Int × Int)))
  | (y5, y8, y9) => (.inr (((y5 ++ ([Prod.fst (Prod.snd (Prod.snd (Prod.snd (rnM y4 y6 y7 ((b)) y8 y9))))]))), ((Prod.fst (Prod.snd (Prod.snd (rnM y4 y6 y7 ((b)) y8 y9))))), ((Prod.snd (Prod.snd (Prod.snd (Prod.snd (rnM y4 y6 y7 ((b)) y8 y9))))))))

def kab (y1 : List (List Int)) (y2 : Int) (y3 : Int) (y4 : Int) (y6 : List (Int × (ByteArray × Int))) (y7 : List (Int × Int)) (i : Nat) : (List (List Int) × List Int × List (Int × (Int × Int))) → k87
  | (y5, y8, y9) => ((i : Int), y1, y2, y3, y4, y5, y6, y7, y8, y9)

def kot : k87 → List (List Int) × List Int × List (Int × (Int × Int))
  | (_, _, _, _, _, y5, _, _, y8, y9) => (y5, y8, y9)

theorem k10r (y1 : List (List Int)) (y2 : Int) (y3 : Int) (y4 : Int) (y6 : List (Int × (ByteArray × Int))) (y7 : List (Int × Int)) (y5 : List (List Int)) (y8 : List Int) (y9 : List (Int × (Int × Int))) (hn : y1.length ≤ 9223372036854775807) (hC : codeB y2 y3 y4 y6 y7 = true) (hA : ∀ x ∈ y1, bitsB y2 x = true) (h200 : y1.length ≤ 200) (hS : suitB y3 y6 y8 y9 = true) (h5 : y5.length = 0) :
    k3y.fin ((0 : Int), y1, y2, y3, y4, y5, y6, y7, y8, y9) = true ∧ k3y.res ((0 : Int), y1, y2, y3, y4, y5, y6, y7, y8, y9) = ((walkL (kcm y4 y6 y7) 0 y1 0 (y5, y8, y9)).1, (kab y1 y2 y3 y4 y6 y7) (walkL (kcm y4 y6 y7) 0 y1 0 (y5, y8, y9)).2.1 (walkL (kcm y4 y6 y7) 0 y1 0 (y5, y8, y9)).2.2) := by
  have key := k3y.along (kab y1 y2 y3 y4 y6 y7) kot (kcm y4 y6 y7) 0 (fun i a => suitB y3 y6 a.2.1 a.2.2 = true ∧ a.1.length = i) y1 (y5, y8, y9) ⟨hS, h5⟩ (by simp only [k3y, kab]; omega) (fun i b a hb hI => ?_) (fun a hI => ?_)
  · exact key
  · obtain ⟨y5, y8, y9⟩ := a
    have hlt := (List.getElem?_eq_some_iff.1 hb).1
    have hget : ∀ d, Option.getD y1[i]? d = b := fun d => by rw [hb]; rfl
    have hw := wrap64 hlt hn
    have hdec : ltI (i : Int) (y1.length : Int) = true := ltI_t (by omega)
    have hnn : leI (0 : Int) (i : Int) = true := leI_t (by omega)
    have hltd : ltN i y1.length = true := ltN_t hlt
    refine ⟨?_, ?_, ?_, ?_⟩
    · have hg2 : k78 (i : Int) y1 = b := by simp only [k78, Int.toNat_natCast]; exact hget _
      have hl := hI.2
      have he : exNd y2 y3 y4 y6 y7 b y8 y9 = true := by simp only [exNd, hC, hA b (List.mem_of_getElem? hb), hI.1]; rfl
      have h6 : leN (y5.length + 1) 9223372036854775807 = true := leN_t (by simp only at hl; omega)
      have h7 : leN ((y5.length + 1) * 24) 140737488355328 = true := leN_t (by simp only at hl; omega)
      simp only [kew, km7, kmk, kmf, km1, kmm, kc0, kgs, k3y, LT.nds, allT, kab, hdec, hnn, hltd, hg2, he, List.length_singleton, h6, h7, Int.toNat_natCast, cond_true]
    · simp [k78, kc0, kew, km7, kmk, kmf, km1, kmm, kpa, kmh, kmd, kmt, kgs, k3y, LT.each, kab, kot, hw]
    · have hg2 : k78 (i : Int) y1 = b := by simp only [k78, Int.toNat_natCast]; exact hget _
      simp only [kew, kmh, kmd, kmt, kc0, kgs, k3y, LT.fn, kab, kot, kcm, Int.toNat_natCast, hdec, hg2, cond_true]
    · intro a' hf
      simp only [kcm, Sum.inr.injEq] at hf
      subst hf
      have he : exNd y2 y3 y4 y6 y7 b y8 y9 = true := by simp only [exNd, hC, hA b (List.mem_of_getElem? hb), hI.1]; rfl
      exact ⟨(k15g he).1, by have hl := hI.2; simp only at hl; simp [hl]⟩
  · obtain ⟨y5, y8, y9⟩ := a
    simp [k78, kc0, kew, km7, kmk, kmf, km1, kmm, kpa, kmh, kmd, kmt, kgs, k3y, LT.out, kab]

def kcl (y5 : Int) (y7 : List (Int × (ByteArray × Int))) (y8 : List (Int × Int)) (b : List Int) : (List (List Int) × List Int × List (Int × (Int × Int))) → Nat ⊕ (List (List Int) × List Int × List (Int × (Int × Int)))
  | (y6, y9, y10) => (.inr (((y6 ++ ([Prod.fst (Prod.snd (Prod.snd (Prod.snd (rnM y5 y7 y8 ((b)) y9 y10))))]))), ((Prod.fst (Prod.snd (Prod.snd (rnM y5 y7 y8 ((b)) y9 y10))))), ((Prod.snd (Prod.snd (Prod.snd (Prod.snd (rnM y5 y7 y8 ((b)) y9 y10))))))))

def ka7 (y2 : List (List Int)) (y3 : Int) (y4 : Int) (y5 : Int) (y7 : List (Int × (ByteArray × Int))) (y8 : List (Int × Int)) (i : Nat) : (List (List Int) × List Int × List (Int × (Int × Int))) → k8b
  | (y6, y9, y10) => ((i : Int), (↑(List.length y2) : Int), y2, y3, y4, y5, y6, y7, y8, y9, y10)

def ko6 : k8b → List (List Int) × List Int × List (Int × (Int × Int))
  | (_, _, _, _, _, _, y6, _, _, y9, y10) => (y6, y9, y10)

theorem k10p (y2 : List (List Int)) (y3 : Int) (y4 : Int) (y5 : Int) (y7 : List (Int × (ByteArray × Int))) (y8 : List (Int × Int)) (y6 : List (List Int)) (y9 : List Int) (y10 : List (Int × (Int × Int))) (hn : y2.length ≤ 9223372036854775807) (hC : codeB y3 y4 y5 y7 y8 = true) (hA : ∀ x ∈ y2, bitsB y3 x = true) (h200 : y2.length ≤ 200) (hS : suitB y4 y7 y9 y10 = true) (h5 : y6.length = 0) :
    k3w.fin ((0 : Int), (↑(List.length y2) : Int), y2, y3, y4, y5, y6, y7, y8, y9, y10) = true ∧ k3w.res ((0 : Int), (↑(List.length y2) : Int), y2, y3, y4, y5, y6, y7, y8, y9, y10) = ((walkL (kcl y5 y7 y8) 0 y2 0 (y6, y9, y10)).1, (ka7 y2 y3 y4 y5 y7 y8) (walkL (kcl y5 y7 y8) 0 y2 0 (y6, y9, y10)).2.1 (walkL (kcl y5 y7 y8) 0 y2 0 (y6, y9, y10)).2.2) := by
  have key := k3w.along (ka7 y2 y3 y4 y5 y7 y8) ko6 (kcl y5 y7 y8) 0 (fun i a => suitB y4 y7 a.2.1 a.2.2 = true ∧ a.1.length = i) y2 (y6, y9, y10) ⟨hS, h5⟩ (by simp only [k3w, ka7]; omega) (fun i b a hb hI => ?_) (fun a hI => ?_)
  · exact key
  · obtain ⟨y6, y9, y10⟩ := a
    have hlt := (List.getElem?_eq_some_iff.1 hb).1
    have hget : ∀ d, Option.getD y2[i]? d = b := fun d => by rw [hb]; rfl
    have hw := wrap64 hlt hn
    have hdec : ltI (i : Int) (y2.length : Int) = true := ltI_t (by omega)
    have hnn : leI (0 : Int) (i : Int) = true := leI_t (by omega)
    have hltd : ltN i y2.length = true := ltN_t hlt
    refine ⟨?_, ?_, ?_, ?_⟩
    · have hg2 : k79 (i : Int) y2 = b := by simp only [k79, Int.toNat_natCast]; exact hget _
      have hl := hI.2
      have he : exNd y3 y4 y5 y7 y8 b y9 y10 = true := by simp only [exNd, hC, hA b (List.mem_of_getElem? hb), hI.1]; rfl
      have h6 : leN (y6.length + 1) 9223372036854775807 = true := leN_t (by simp only at hl; omega)
      have h7 : leN ((y6.length + 1) * 24) 140737488355328 = true := leN_t (by simp only at hl; omega)
      simp only [kid, km3, kms, kmi, klz, kmq, kme, kbi, kgw, k3w, LT.nds, allT, ka7, hdec, hnn, hltd, hg2, he, List.length_singleton, h6, h7, Int.toNat_natCast, cond_true]
    · simp [k79, kbi, kid, km3, kms, kmi, klz, kmq, kme, kpk, kml, km5, kkz, kgw, k3w, LT.each, ka7, ko6, hw]
    · have hg2 : k79 (i : Int) y2 = b := by simp only [k79, Int.toNat_natCast]; exact hget _
      simp only [kid, kml, km5, kkz, kbi, kgw, k3w, LT.fn, ka7, ko6, kcl, Int.toNat_natCast, hdec, hg2, cond_true]
    · intro a' hf
      simp only [kcl, Sum.inr.injEq] at hf
      subst hf
      have he : exNd y3 y4 y5 y7 y8 b y9 y10 = true := by simp only [exNd, hC, hA b (List.mem_of_getElem? hb), hI.1]; rfl
      exact ⟨(k15g he).1, by have hl := hI.2; simp only at hl; simp [hl]⟩
  · obtain ⟨y6, y9, y10⟩ := a
    simp [k79, kbi, kid, km3, kms, kmi, klz, kmq, kme, kpk, kml, km5, kkz, kgw, k3w, LT.out, ka7]

theorem k14j {o : Int} {bs : List TM} {st : List IN} {f : List Int → List (List Int) × List Int × List BS3 → Nat ⊕ (List (List Int) × List Int × List BS3)}
    (hf : ∀ b a, f b a = .inr (a.1 ++ [(rnM o bs st b a.2.1 a.2.2).2.2.2.1], (rnM o bs st b a.2.1 a.2.2).2.2.1, (rnM o bs st b a.2.1 a.2.2).2.2.2.2)) {e : Nat} :
    ∀ (r : List (List Int)) (i : Nat) (acc : List (List Int)) (xs : List Int) (ss : List BS3), (walkL f e r i (acc, xs, ss)).2.2.1 = acc ++ goL o bs st r xs ss
  | [], i, acc, xs, ss => by simp [walkL, goL]
  | b :: r, i, acc, xs, ss => by
    simp only [walkL, hf]
    rw [k14j hf r]
    simp [goL]

theorem k14h (i v o : Int) (bs : List TM) (st : List IN) (l : List (List Int)) : (codeB i v o bs st = false ∧ rsCode i v o bs st l = 1) ∨ (codeB i v o bs st = true ∧ ltI 200 (l.length : Int) = true ∧ rsCode i v o bs st l = 3) ∨
    (codeB i v o bs st = true ∧ ltI 200 (l.length : Int) = false ∧ l.all (bitsB i) = false ∧ rsCode i v o bs st l = 2) ∨ (codeB i v o bs st = true ∧ ltI 200 (l.length : Int) = false ∧ l.all (bitsB i) = true ∧ rsCode i v o bs st l = 0) := by
  simp only [rsCode]
  cases codeB i v o bs st <;> cases ltI 200 (l.length : Int) <;> cases l.all (bitsB i) <;> simp

theorem len200 {l : List (List Int)} (h : ltI 200 (l.length : Int) = false) : l.length ≤ 200 := by
  rcases Nat.lt_or_ge 200 l.length with h' | h'
  · rw [ltI_t (by omega)] at h; cases h
  · exact h'

theorem specRS (i v o : Int) (bs : List TM) (st : List IN) (l : List (List Int)) (h : rsNd bs l = true) :
    ksu i v o bs st l = rsCode i v o bs st l ∧ ksz i v o bs st l = rsO i v o bs st l ∧ ksw i v o bs st l = true := by
  simp only [rsNd, Bool.and_eq_true] at h
  obtain ⟨hT, hl⟩ := h
  obtain ⟨hn, hA⟩ := ss_iff.1 hl
  obtain ⟨w1, w2⟩ := k10u l i v o bs st hn hA
  rw [walk_stop (P := fun x => !bitsB i x) (j := 0) (fun x => rfl)] at w2
  have e5 : (l.any fun x => !bitsB i x) = !l.all (bitsB i) := by simp [List.all_eq_not_any_not]
  rw [e5] at w2
  have eb : (↑(List.length bs) : Int).toNat = bs.length := by omega
  simp only [ksu, ksz, ksw, k6u, kre, k7s, ks5, eb, hT, rsO, w1, w2, allT]
  rcases k14h i v o bs st l with ⟨h1, h2⟩ | ⟨h1, h3, h2⟩ | ⟨h1, h3, h4, h2⟩ | ⟨h1, h3, h4, h2⟩
  · rw [h1, h2]; simp
  · rw [h1, h2, h3]; simp
  · rw [h1, h2, h3, h4]; simp
  · have hA2 : ∀ x ∈ l, bitsB i x = true := List.all_eq_true.1 h4
    have hS := k13x h1
    obtain ⟨⟨ri, rv, ro, rb, rs⟩, hB, hok⟩ := k13v h1
    obtain ⟨v1, v2⟩ := k10r l i v o bs st [] (zeroV v) (zeroB bs) (by have := len200 h3; omega) h1 hA2 (len200 h3) hS rfl
    have v3 := k14j (o := o) (bs := bs) (st := st) (f := kcm o bs st) (e := 0) (fun b a => rfl) l 0 [] (zeroV v) (zeroB bs)
    have z1 : List.replicate (Int.toNat v) (0 : Int) = zeroV v := rfl
    have z2 : List.replicate bs.length ((0 : Int), (0 : Int), (0 : Int)) = zeroB bs := rfl
    have u1 : leI 0 v = true := leI_t (by omega)
    have u2 : leI v v = true := leI_t (by omega)
    have u3 : leI ((↑(8 : Nat) : Int) * v) 281474976710656 = true := leI_t (by omega)
    have u4 : leI v 9223372036854775807 = true := leI_t (by omega)
    have u5 : leI 0 (bs.length : Int) = true := leI_t (by omega)
    have u6 : leI (bs.length : Int) (bs.length : Int) = true := leI_t (by omega)
    have u7 : leI ((↑(24 : Nat) : Int) * (bs.length : Int)) 281474976710656 = true := leI_t (by omega)
    have u8 : leI (bs.length : Int) 9223372036854775807 = true := leI_t (by omega)
    rw [h1, h2, h3, h4, z1, z2, v1, v2, u1, u2, u3, u4, u5, u6, u7, u8]
    simp [kab, v3, Nat.beq]

theorem implRS (i v o : Int) (bs : List TM) (st : List IN) (l : List (List Int)) (h : rsNd bs l = true) :
    kt5 i v o bs st l = rsCode i v o bs st l ∧ kt4 i v o bs st l = rsO i v o bs st l ∧ ksv i v o bs st l = true := by
  simp only [rsNd, Bool.and_eq_true] at h
  obtain ⟨hT, hl⟩ := h
  obtain ⟨hn, hA⟩ := ss_iff.1 hl
  have eb : (↑(List.length bs) : Int).toNat = bs.length := by omega
  have z1 : List.replicate (Int.toNat v) (0 : Int) = zeroV v := rfl
  have z2 : List.replicate bs.length ((0 : Int), (0 : Int), (0 : Int)) = zeroB bs := rfl
  simp only [kt5, kt4, ksv, kik, kri, kow, ks1, klx, koo, ks6, eb, z1, z2, rsO, allT]
  rcases k14h i v o bs st l with ⟨h1, h2⟩ | ⟨h1, h3, h2⟩ | h
  · rw [h1, h2]; simp
  · rw [h1, h2, h3]; simp
  · have h1 : codeB i v o bs st = true := by rcases h with h | h <;> exact h.1
    have h3 : ltI 200 (l.length : Int) = false := by rcases h with h | h <;> exact h.2.1
    have hS := k13x h1
    obtain ⟨⟨ri, rv, ro, rb, rs⟩, hB, hok⟩ := k13v h1
    have u1 : leI 0 v = true := leI_t (by omega)
    have u2 : leI v v = true := leI_t (by omega)
    have u3 : leI ((↑(8 : Nat) : Int) * v) 281474976710656 = true := leI_t (by omega)
    have u4 : leI v 9223372036854775807 = true := leI_t (by omega)
    have u5 : leI 0 (bs.length : Int) = true := leI_t (by omega)
    have u6 : leI (bs.length : Int) (bs.length : Int) = true := leI_t (by omega)
    have u7 : leI ((↑(24 : Nat) : Int) * (bs.length : Int)) 281474976710656 = true := leI_t (by omega)
    have u8 : leI (bs.length : Int) 9223372036854775807 = true := leI_t (by omega)
    have hz : (zeroV v).length ≤ 20 := by rw [zeroV, List.length_replicate]; omega
    have m1 : mcNd bs (zeroV v) l = true := by
      simp only [mcNd, listNd, leN_t (show (zeroV v).length ≤ 9223372036854775807 by omega), leN_t (show bs.length ≤ 9223372036854775807 by omega), leN_t hn, Bool.true_and, List.all_eq_true, leN_iff]
      exact hA
    have m2 : mcCode i v o bs st (zeroV v) (zeroB bs) l = bif !l.all (bitsB i) then 2 else 0 := by
      simp only [mcCode, h1, hS]; cases l.all (bitsB i) <;> rfl
    rw [m1, m2, h1, h3, u1, u2, u3, u4, u5, u6, u7, u8]
    rcases h with ⟨_, _, h4, h2⟩ | ⟨_, _, h4, h2⟩
    · rw [h2, h4]; simp
    · have hA2 : ∀ x ∈ l, bitsB i x = true := List.all_eq_true.1 h4
      obtain ⟨v1, v2⟩ := k10p l i v o bs st [] (zeroV v) (zeroB bs) (by have := len200 h3; omega) h1 hA2 (len200 h3) hS rfl
      have v3 := k14j (o := o) (bs := bs) (st := st) (f := kcl o bs st) (e := 0) (fun b a => rfl) l 0 [] (zeroV v) (zeroB bs)
      rw [h2, h4, v1, v2]
      simp [ka7, v3, Nat.beq]

def kx6 : List SV → List Entry → Option Out
  | [.one ⟨true, [.val (.int .i64 x0), .val (.int .i64 x1), .val (.int .i64 x2), .ref 0, .ref 1]⟩, .one ⟨false, [.ref 2]⟩], [.row false 178 (.pair (.int .i64) (.pair (.str) (.int .i64))) x3, .row false 150 (.pair (.int .i64) (.int .i64)) x4, .row false 41 (.sl 2 (.int .i64)) x5] => some ⟨(.tup [⟨false, [(.ref 3)]⟩, ⟨false, [(.val (.int IntKind.i64 (rsCode x0 x1 x2 x3 x4 x5)))]⟩]), [(.row false 178 (CTy.pair (CTy.int IntKind.i64) (CTy.pair CTy.str (CTy.int IntKind.i64))) x3), (.row false 150 (CTy.pair (CTy.int IntKind.i64) (CTy.int IntKind.i64)) x4), (.row false 41 (CTy.sl (2 : TypeId) (CTy.int IntKind.i64)) x5)], [(.row true 41 (CTy.sl (2 : Nat) (CTy.int IntKind.i64)) (rsO x0 x1 x2 x3 x4 x5))], [rsNd x3 x5]⟩
  | _, _ => none

def kst : PF Tryz.prog := PF.alt k132 kx6 (by
  intro args es o h hnd; unfold kx6 at h; split at h
  · rename_i x0 x1 x2 x3 x4 x5
    cases h
    have hnd := nd_fst hnd
    have hh := specRS x0 x1 x2 x3 x4 x5 hnd
    obtain ⟨e0, e1, en⟩ := hh
    exact altok rfl (nd_one en) (by simp only [e0] <;> rfl) rfl (by simp only [e1] <;> rfl)
  · cases h)

def kxc : List SV → List Entry → Option Out
  | [.one ⟨true, [.val (.int .i64 x0), .val (.int .i64 x1), .val (.int .i64 x2), .ref 0, .ref 1]⟩, .one ⟨false, [.ref 2]⟩], [.row false 178 (.pair (.int .i64) (.pair (.str) (.int .i64))) x3, .row false 150 (.pair (.int .i64) (.int .i64)) x4, .row false 41 (.sl 2 (.int .i64)) x5] => some ⟨(.tup [⟨false, [(.ref 3)]⟩, ⟨false, [(.val (.int IntKind.i64 (rsCode x0 x1 x2 x3 x4 x5)))]⟩]), [(.row false 178 (CTy.pair (CTy.int IntKind.i64) (CTy.pair CTy.str (CTy.int IntKind.i64))) x3), (.row false 150 (CTy.pair (CTy.int IntKind.i64) (CTy.int IntKind.i64)) x4), (.row false 41 (CTy.sl (2 : TypeId) (CTy.int IntKind.i64)) x5)], [(.tree 41 (CTy.sl (2 : Nat) (CTy.int IntKind.i64)) (rsO x0 x1 x2 x3 x4 x5) none)], [rsNd x3 x5]⟩
  | _, _ => none

def kt9 : PF Tryz.prog := PF.alt k130 kxc (by
  intro args es o h hnd; unfold kxc at h; split at h
  · rename_i x0 x1 x2 x3 x4 x5
    cases h
    have hnd := nd_fst hnd
    have hh := implRS x0 x1 x2 x3 x4 x5 hnd
    obtain ⟨e0, e1, en⟩ := hh
    exact altok rfl (nd_one en) (by simp only [e0] <;> rfl) rfl (by simp only [e1] <;> rfl)
  · cases h)

end Go.SX

namespace Go.SX
open Go.Proofs
set_option maxRecDepth 100000

def ky (x3 : List (Int × ByteArray × Int)) (x4 : List (Int × Int)) : Bool :=
  ltI (ka9 (1048576 : Int) x3 x4) (0 : Int)

def k17 (x3 : List (Int × ByteArray × Int)) (x4 : List (Int × Int)) (x5 : List (List Int)) : Bool :=
  ltI (szSS (ka9 (1048576 : Int) x3 x4) x5) (0 : Int)

def kae (x0 : Int) (x1 : Int) (x2 : Int) (x3 : List (Int × ByteArray × Int)) (x4 : List (Int × Int)) (x5 : List (List Int)) : Bool :=
  !eqSS (rsO x0 x1 x2 x3 x4 x5) (rsO x0 x1 x2 x3 x4 x5)

def k8k (x0 : Int) (x1 : Int) (x2 : Int) (x3 : List (Int × ByteArray × Int)) (x4 : List (Int × Int)) (x5 : List (List Int)) : Bool :=
  rsCode x0 x1 x2 x3 x4 x5 != rsCode x0 x1 x2 x3 x4 x5

def k1l (x0 : Int) (x1 : Int) (x2 : Int) (x3 : List (Int × ByteArray × Int)) (x4 : List (Int × Int)) (x5 : List (List Int)) : Bool :=
  bif kae x0 x1 x2 x3 x4 x5 then true else k8k x0 x1 x2 x3 x4 x5

def k8j (x3 : List (Int × ByteArray × Int)) (x4 : List (Int × Int)) (x5 : List (List Int)) : Bool :=
  ltI (keo (1 : Int) x3 x4 + (↑(totN x5) : Int)) (0 : Int)

def k2m (x0 : Int) (x1 : Int) (x2 : Int) (x3 : List (Int × ByteArray × Int)) (x4 : List (Int × Int)) (x5 : List (List Int)) : Bool :=
  bif bif k8j x3 x4 x5 then true else kae x0 x1 x2 x3 x4 x5 then true
  else k8k x0 x1 x2 x3 x4 x5

def k5a (x0 : Int) (x1 : Int) (x2 : Int) (x3 : List (Int × ByteArray × Int)) (x4 : List (Int × Int)) (x5 : List (List Int)) : List (List Int) :=
  bif !k8j x3 x4 x5 && true then rsO x0 x1 x2 x3 x4 x5 else rsO x0 x1 x2 x3 x4 x5

def kaf (x0 : Int) (x1 : Int) (x2 : Int) (x3 : List (Int × ByteArray × Int)) (x4 : List (Int × Int)) (x5 : List (List Int)) : List (List Int) :=
  upSS (1 : Int) (k5a x0 x1 x2 x3 x4 x5)

def kad (x0 : Int) (x1 : Int) (x2 : Int) (x3 : List (Int × ByteArray × Int)) (x4 : List (Int × Int)) (x5 : List (List Int)) : Int :=
  heldGo (1 : Int) (kaf x0 x1 x2 x3 x4 x5)

def k2q (x0 : Int) (x1 : Int) (x2 : Int) (x3 : List (Int × ByteArray × Int)) (x4 : List (Int × Int)) (x5 : List (List Int)) : Bool :=
  ltI (kad x0 x1 x2 x3 x4 x5) (0 : Int)

def k2p (x0 : Int) (x1 : Int) (x2 : Int) (x3 : List (Int × ByteArray × Int)) (x4 : List (Int × Int)) (x5 : List (List Int)) : Bool :=
  kad x0 x1 x2 x3 x4 x5 != (1 : Int) + (↑(totN (k5a x0 x1 x2 x3 x4 x5)) : Int)

def k9r (x0 : Int) (x1 : Int) (x2 : Int) (x3 : List (Int × ByteArray × Int)) (x4 : List (Int × Int)) (x5 : List (List Int)) : Bool :=
  bif !eqSS (rsO x0 x1 x2 x3 x4 x5) (k5a x0 x1 x2 x3 x4 x5) then true else k8k x0 x1 x2 x3 x4 x5

def k9m (x3 : List (Int × ByteArray × Int)) (x4 : List (Int × Int)) (x5 : List (List Int)) : Bool :=
  ky x3 x4 || (k17 x3 x4 x5 || ssOk (1048576 : Nat) x5)

def k7r (x0 : Int) (x1 : Int) (x2 : Int) (x3 : List (Int × ByteArray × Int)) (x4 : List (Int × Int)) (x5 : List (List Int)) : Bool :=
  ssOk (9223372036854775807 : Nat) (rsO x0 x1 x2 x3 x4 x5)

def k9o (x0 : Int) (x1 : Int) (x2 : Int) (x3 : List (Int × ByteArray × Int)) (x4 : List (Int × Int)) (x5 : List (List Int)) : Bool :=
  ssOk (9223372036854775807 : Nat) (kaf x0 x1 x2 x3 x4 x5)

def kda (x0 : Int) (x1 : Int) (x2 : Int) (x3 : List (Int × ByteArray × Int)) (x4 : List (Int × Int)) (x5 : List (List Int)) : Bool :=
  bif ky x3 x4 then true
  else
  bif k17 x3 x4 x5 then true
  else
    bif k1l x0 x1 x2 x3 x4 x5 then false
    else
      bif !k8i x0 x1 x2 x0 x1 x2 x3 x4 x3 x4 then false
      else
        bif !eqSS x5 x5 then false
        else
          bif k2m x0 x1 x2 x3 x4 x5 then false
          else
            bif k2q x0 x1 x2 x3 x4 x5 then false
            else
              bif k2p x0 x1 x2 x3 x4 x5 then false
              else
                bif k9r x0 x1 x2 x3 x4 x5 then false
                else
                  bif k2q x0 x1 x2 x3 x4 x5 then false else bif k2p x0 x1 x2 x3 x4 x5 then false else true

def kd7 (x0 : Int) (x1 : Int) (x2 : Int) (x3 : List (Int × ByteArray × Int)) (x4 : List (Int × Int)) (x5 : List (List Int)) : Bool :=
  allT
  [ksi (1048576 : Int) x3 x4,
    ky x3 x4 ||
      ssOk (9223372036854775807 : Nat) x5 &&
        (leI (-1 : Int) (ka9 (1048576 : Int) x3 x4) && leI (ka9 (1048576 : Int) x3 x4) (1048576 : Int)),
    ky x3 x4 || (k17 x3 x4 x5 || klp x3 x4), k9m x3 x4 x5,
    ky x3 x4 || (k17 x3 x4 x5 || rsNd x3 x5),
    ky x3 x4 || (k17 x3 x4 x5 || klp x3 x4), k9m x3 x4 x5,
    ky x3 x4 || (k17 x3 x4 x5 || rsNd x3 x5),
    ky x3 x4 || (k17 x3 x4 x5 || k7r x0 x1 x2 x3 x4 x5),
    ky x3 x4 || (k17 x3 x4 x5 || (k1l x0 x1 x2 x3 x4 x5 || klp x3 x4)),
    ky x3 x4 ||
      (k17 x3 x4 x5 || (k1l x0 x1 x2 x3 x4 x5 || ksp x0 x1 x2 x0 x1 x2 x3 x4 x3)),
    ky x3 x4 ||
      (k17 x3 x4 x5 ||
        (k1l x0 x1 x2 x3 x4 x5 || (!k8i x0 x1 x2 x0 x1 x2 x3 x4 x3 x4 || ssOk (1048576 : Nat) x5))),
    ky x3 x4 ||
      (k17 x3 x4 x5 ||
        (k1l x0 x1 x2 x3 x4 x5 || (!k8i x0 x1 x2 x0 x1 x2 x3 x4 x3 x4 || ssOk (9223372036854775807 : Nat) x5))),
    ky x3 x4 ||
      (k17 x3 x4 x5 ||
        (k1l x0 x1 x2 x3 x4 x5 ||
          (!k8i x0 x1 x2 x0 x1 x2 x3 x4 x3 x4 || (!eqSS x5 x5 || kq3 (1 : Int) x3 x4)))),
    ky x3 x4 ||
      (k17 x3 x4 x5 ||
        (k1l x0 x1 x2 x3 x4 x5 ||
          (!k8i x0 x1 x2 x0 x1 x2 x3 x4 x3 x4 ||
            (!eqSS x5 x5 || mkOk (keo (1 : Int) x3 x4) (totN x5) && leN (List.length x5) (9223372036854775807 : Nat))))),
    ky x3 x4 ||
      (k17 x3 x4 x5 ||
        (k1l x0 x1 x2 x3 x4 x5 ||
          (!k8i x0 x1 x2 x0 x1 x2 x3 x4 x3 x4 ||
            (!eqSS x5 x5 || (!(!k8j x3 x4 x5 && true) || k7r x0 x1 x2 x3 x4 x5))))),
    ky x3 x4 ||
      (k17 x3 x4 x5 ||
        (k1l x0 x1 x2 x3 x4 x5 ||
          (!k8i x0 x1 x2 x0 x1 x2 x3 x4 x3 x4 ||
            (!eqSS x5 x5 ||
              (k2m x0 x1 x2 x3 x4 x5 ||
                mkOk (1 : Int) (totN (k5a x0 x1 x2 x3 x4 x5)) &&
                  leN (List.length (k5a x0 x1 x2 x3 x4 x5)) (9223372036854775807 : Nat)))))),
    ky x3 x4 ||
      (k17 x3 x4 x5 ||
        (k1l x0 x1 x2 x3 x4 x5 ||
          (!k8i x0 x1 x2 x0 x1 x2 x3 x4 x3 x4 ||
            (!eqSS x5 x5 || (k2m x0 x1 x2 x3 x4 x5 || k9o x0 x1 x2 x3 x4 x5))))),
    ky x3 x4 ||
      (k17 x3 x4 x5 ||
        (k1l x0 x1 x2 x3 x4 x5 ||
          (!k8i x0 x1 x2 x0 x1 x2 x3 x4 x3 x4 ||
            (!eqSS x5 x5 ||
              (k2m x0 x1 x2 x3 x4 x5 ||
                (k2q x0 x1 x2 x3 x4 x5 || (k2p x0 x1 x2 x3 x4 x5 || klp x3 x4))))))),
    ky x3 x4 ||
      (k17 x3 x4 x5 ||
        (k1l x0 x1 x2 x3 x4 x5 ||
          (!k8i x0 x1 x2 x0 x1 x2 x3 x4 x3 x4 ||
            (!eqSS x5 x5 ||
              (k2m x0 x1 x2 x3 x4 x5 ||
                (k2q x0 x1 x2 x3 x4 x5 || (k2p x0 x1 x2 x3 x4 x5 || ssOk (1048576 : Nat) x5))))))),
    ky x3 x4 ||
      (k17 x3 x4 x5 ||
        (k1l x0 x1 x2 x3 x4 x5 ||
          (!k8i x0 x1 x2 x0 x1 x2 x3 x4 x3 x4 ||
            (!eqSS x5 x5 ||
              (k2m x0 x1 x2 x3 x4 x5 ||
                (k2q x0 x1 x2 x3 x4 x5 || (k2p x0 x1 x2 x3 x4 x5 || rsNd x3 x5))))))),
    ky x3 x4 ||
      (k17 x3 x4 x5 ||
        (k1l x0 x1 x2 x3 x4 x5 ||
          (!k8i x0 x1 x2 x0 x1 x2 x3 x4 x3 x4 ||
            (!eqSS x5 x5 ||
              (k2m x0 x1 x2 x3 x4 x5 ||
                (k2q x0 x1 x2 x3 x4 x5 ||
                  (k2p x0 x1 x2 x3 x4 x5 || k7r x0 x1 x2 x3 x4 x5))))))),
    ky x3 x4 ||
      (k17 x3 x4 x5 ||
        (k1l x0 x1 x2 x3 x4 x5 ||
          (!k8i x0 x1 x2 x0 x1 x2 x3 x4 x3 x4 ||
            (!eqSS x5 x5 ||
              (k2m x0 x1 x2 x3 x4 x5 ||
                (k2q x0 x1 x2 x3 x4 x5 ||
                  (k2p x0 x1 x2 x3 x4 x5 ||
                    (k9r x0 x1 x2 x3 x4 x5 || k9o x0 x1 x2 x3 x4 x5))))))))]

def kqd : List SV → List Entry → Option Out
  | [.one ⟨true, [.val (.int .i64 x0), .val (.int .i64 x1), .val (.int .i64 x2), .ref 0, .ref 1]⟩, .one ⟨false, [.ref 2]⟩], [.row false 175 (.pair (.int .i64) (.pair (.str) (.int .i64))) x3, .row false 183 (.pair (.int .i64) (.int .i64)) x4, .row false 41 (.sl 2 (.int .i64)) x5] => some ⟨(.one ⟨false, [(.val (.bool (kda x0 x1 x2 x3 x4 x5)))]⟩), [(.row false 175 (CTy.pair (CTy.int IntKind.i64) (CTy.pair CTy.str (CTy.int IntKind.i64))) x3), (.row false 183 (CTy.pair (CTy.int IntKind.i64) (CTy.int IntKind.i64)) x4), (.row false 41 (CTy.sl (2 : TypeId) (CTy.int IntKind.i64)) x5)], [], [(kd7 x0 x1 x2 x3 x4 x5)]⟩
  | _, _ => none

def kvr : PF Tryz.prog := PF.ofG Tryz.prog [PF.trees Tryz.prog, kv3, PF.lend kv3, PF.fz kv3, krp, PF.lend krp, PF.fz krp, kst, PF.lend kst, PF.fz kst, kw2, PF.lend kw2, PF.fz kw2, krd, PF.lend krd, PF.fz krd, kt9, PF.lend kt9, PF.fz kt9, kro, PF.lend kro, PF.fz kro, kvt, PF.lend kvt, PF.fz kvt, kt1, PF.lend kt1, PF.fz kt1, kp7, PF.lend kp7, PF.fz kp7, kpi, PF.lend kpi, PF.fz kpi] [] hmix 3 Tryz.f3 Tryz.func3 (fun c _ => LOk.nil c) kqd (by
  intro vs es r h; unfold kqd at h; split at h
  · cases h; kernel_rfl
  · cases h)

end Go.SX

namespace Go.SX
open Go.Proofs
set_option maxRecDepth 100000

theorem k16j (i v o : Int) (bs : List TM) (st : List IN) (l : List (List Int)) : totN (rsO i v o bs st l) ≤ 4000 ∧ (rsO i v o bs st l).length ≤ 200 ∧ ∀ x ∈ rsO i v o bs st l, x.length ≤ 20 := by
  have ht : ∀ (l : List (List Int)), (∀ x ∈ l, x.length ≤ 20) → totN l ≤ 20 * l.length := by
    intro l
    induction l with
    | nil => intro _; simp [totN]
    | cons a r ih =>
      intro h
      have h1 := h a (by simp)
      have h2 := ih fun x hx => h x (by simp [hx])
      simp only [totN, List.map_cons, List.sum_cons, List.length_cons] at h2 ⊢
      omega
  simp only [rsO]
  rcases k14h i v o bs st l with ⟨h1, h2⟩ | ⟨h1, h3, h2⟩ | ⟨h1, h3, h4, h2⟩ | ⟨h1, h3, h4, h2⟩
  · rw [h2]; simp [totN]
  · rw [h2]; simp [totN]
  · rw [h2]; simp [totN]
  · rw [h2]
    obtain ⟨g1, g2⟩ := k14r h1 l (zeroV v) (zeroB bs) (List.all_eq_true.1 h4) (k13x h1)
    have := len200 h3
    have h5 := ht _ g2
    simp only [beq_self_eq_true, cond_true]
    exact ⟨by omega, by omega, g2⟩

theorem k14l (x0 x1 x2 : Int) (x3 : List TM) (x4 : List IN) (x5 : List (List Int)) (w3 : wfD (.sl 22 (.pair (.int .i64) (.pair (.str) (.int .i64)))) x3) (w4 : wfD (.sl 23 (.pair (.int .i64) (.int .i64))) x4) (w5 : wfD (.sl 26 (.sl 2 (.int .i64))) x5) :
    kda x0 x1 x2 x3 x4 x5 = true ∧ kd7 x0 x1 x2 x3 x4 x5 = true := by
  have l3 : x3.length ≤ 9223372036854775807 := w3.1
  have l4 : x4.length ≤ 9223372036854775807 := w4.1
  have l5 : x5.length ≤ 9223372036854775807 := w5.1
  have hs : ∀ t ∈ x3, t.2.1.size ≤ 9223372036854775807 := fun t ht => (w3.2 t ht).2.1
  have hx : ∀ x ∈ x5, x.length ≤ 9223372036854775807 := fun x hx => (w5.2 x hx).1
  obtain ⟨s1, s2⟩ := k14m (k := 1048576) l3 l4 hs (by omega) (by omega)
  have mS : ssOk 9223372036854775807 x5 = true := ss_iff.2 ⟨l5, hx⟩
  cases h1 : ltI (ka9 1048576 x3 x4) 0 with
  | true => simp [kda, kd7, ky, kae, k8k, k1l, k8j, k2m, k5a, kaf, kad, k2q, k2p, k9r, k9m, k7r, k9o, h1, s1, allT]
  | false =>
    obtain ⟨⟨c0, c1⟩, c2⟩ := s2 h1
    have i3 : leI (-1) (ka9 1048576 x3 x4) = true := leI_t (by omega)
    have i4 : leI (ka9 1048576 x3 x4) 1048576 = true := leI_t (by omega)
    cases h2 : ltI (szSS (ka9 1048576 x3 x4) x5) 0 with
    | true => simp [kda, kd7, ky, k17, kae, k8k, k1l, k8j, k2m, k5a, kaf, kad, k2q, k2p, k9r, k9m, k7r, k9o, h1, h2, s1, mS, i3, i4, allT]
    | false =>
      have d := k15e h2
      have r0 := h1
      have r1 := h2
      have k3 : leN x3.length 1048576 = true := leN_t (by omega)
      have k4 : leN x4.length 1048576 = true := leN_t (by omega)
      have m3 : leN x3.length 9223372036854775807 = true := leN_t l3
      have m4 : leN x4.length 9223372036854775807 = true := leN_t l4
      have i1 : leN x5.length 9223372036854775807 = true := leN_t l5
      have i2 : leN x5.length 1048576 = true := leN_t (by omega)
      have kS : ssOk 1048576 x5 = true := k163 (by omega) (by omega)
      have hS : rsNd x3 x5 = true := by simp only [rsNd, mS, k15p.2 ⟨l3, hs⟩, Bool.and_self]
      obtain ⟨n1, n2, n3⟩ := k16j x0 x1 x2 x3 x4 x5
      generalize hR : rsO x0 x1 x2 x3 x4 x5 = A at n1 n2 n3
      generalize hK : rsCode x0 x1 x2 x3 x4 x5 = K
      obtain ⟨g1, g2, g3⟩ := k15a x3 x4 (by omega)
      have g4 : mkOk (keo 1 x3 x4) (totN x5) = true := ku2.2 (by omega)
      have g5 : ltI (keo 1 x3 x4 + (totN x5 : Int)) 0 = false := ltI_f (by omega)
      have f1 : k8i x0 x1 x2 x0 x1 x2 x3 x4 x3 x4 = true := by simp [k8i, k14p, k15y]
      have f2 : ksp x0 x1 x2 x0 x1 x2 x3 x4 x3 = true := by simp [ksp, k14p, m3, m4, allT]
      have f5 : klp x3 x4 = true := by simp only [klp, k3, k4, allT, cond_true]
      have e1 : ∀ l : List (List Int), eqSS l l = true := k15z
      have nS : ssOk 9223372036854775807 A = true := ss_iff.2 ⟨by omega, fun x hx => by have := n3 x hx; omega⟩
      have lS : leN A.length 9223372036854775807 = true := leN_t (by omega)
      have mk1 : mkOk 1 (totN A) = true := ku2.2 (by omega)
      have v1 : heldGo 1 (upSS 1 A) = 1 + totN A := k14s A 1 mk1
      have v2 : ltI (1 + (totN A : Int)) 0 = false := ltI_f (by omega)
      have uS : ssOk 9223372036854775807 (upSS 1 A) = true := k163 (by rw [k10s]; omega) (by rw [k16b]; omega)
      have r_a0 := Eq.refl (ky x3 x4)
      conv at r_a0 => rhs; simp only [ky, cond_true, cond_false, Bool.cond_self, Bool.not_true, Bool.not_false, Bool.true_or, Bool.or_true, Bool.false_or, Bool.or_false, Bool.and_self, Bool.and_true, Bool.true_and, Bool.false_and, Bool.and_false, bne_self_eq_false, beq_self_eq_true, allT, r0, r1, s1, i1, i2, i3, i4, kS, mS, f1, f2, f5, hS, g1, g4, g5, e1, nS, lS, mk1, v1, v2, uS, hR, hK]
      have r_a1 := Eq.refl (k17 x3 x4 x5)
      conv at r_a1 => rhs; simp only [k17, cond_true, cond_false, Bool.cond_self, Bool.not_true, Bool.not_false, Bool.true_or, Bool.or_true, Bool.false_or, Bool.or_false, Bool.and_self, Bool.and_true, Bool.true_and, Bool.false_and, Bool.and_false, bne_self_eq_false, beq_self_eq_true, allT, r0, r1, s1, i1, i2, i3, i4, kS, mS, f1, f2, f5, hS, g1, g4, g5, e1, nS, lS, mk1, v1, v2, uS, hR, hK, r_a0]
      have r_a2 := Eq.refl (kae x0 x1 x2 x3 x4 x5)
      conv at r_a2 => rhs; simp only [kae, cond_true, cond_false, Bool.cond_self, Bool.not_true, Bool.not_false, Bool.true_or, Bool.or_true, Bool.false_or, Bool.or_false, Bool.and_self, Bool.and_true, Bool.true_and, Bool.false_and, Bool.and_false, bne_self_eq_false, beq_self_eq_true, allT, r0, r1, s1, i1, i2, i3, i4, kS, mS, f1, f2, f5, hS, g1, g4, g5, e1, nS, lS, mk1, v1, v2, uS, hR, hK, r_a0, r_a1]
      have r_a3 := Eq.refl (k8k x0 x1 x2 x3 x4 x5)
      conv at r_a3 => rhs; simp only [k8k, cond_true, cond_false, Bool.cond_self, Bool.not_true, Bool.not_false, Bool.true_or, Bool.or_true, Bool.false_or, Bool.or_false, Bool.and_self, Bool.and_true, Bool.true_and, Bool.false_and, Bool.and_false, bne_self_eq_false, beq_self_eq_true, allT, r0, r1, s1, i1, i2, i3, i4, kS, mS, f1, f2, f5, hS, g1, g4, g5, e1, nS, lS, mk1, v1, v2, uS, hR, hK, r_a0, r_a1, r_a2]
      have r_a4 := Eq.refl (k1l x0 x1 x2 x3 x4 x5)
      conv at r_a4 => rhs; simp only [k1l, cond_true, cond_false, Bool.cond_self, Bool.not_true, Bool.not_false, Bool.true_or, Bool.or_true, Bool.false_or, Bool.or_false, Bool.and_self, Bool.and_true, Bool.true_and, Bool.false_and, Bool.and_false, bne_self_eq_false, beq_self_eq_true, allT, r0, r1, s1, i1, i2, i3, i4, kS, mS, f1, f2, f5, hS, g1, g4, g5, e1, nS, lS, mk1, v1, v2, uS, hR, hK, r_a0, r_a1, r_a2, r_a3]
      have r_a5 := Eq.refl (k8j x3 x4 x5)
      conv at r_a5 => rhs; simp only [k8j, cond_true, cond_false, Bool.cond_self, Bool.not_true, Bool.not_false, Bool.true_or, Bool.or_true, Bool.false_or, Bool.or_false, Bool.and_self, Bool.and_true, Bool.true_and, Bool.false_and, Bool.and_false, bne_self_eq_false, beq_self_eq_true, allT, r0, r1, s1, i1, i2, i3, i4, kS, mS, f1, f2, f5, hS, g1, g4, g5, e1, nS, lS, mk1, v1, v2, uS, hR, hK, r_a0, r_a1, r_a2, r_a3, r_a4]
      have r_a6 := Eq.refl (k2m x0 x1 x2 x3 x4 x5)
      conv at r_a6 => rhs; simp only [k2m, cond_true, cond_false, Bool.cond_self, Bool.not_true, Bool.not_false, Bool.true_or, Bool.or_true, Bool.false_or, Bool.or_false, Bool.and_self, Bool.and_true, Bool.true_and, Bool.false_and, Bool.and_false, bne_self_eq_false, beq_self_eq_true, allT, r0, r1, s1, i1, i2, i3, i4, kS, mS, f1, f2, f5, hS, g1, g4, g5, e1, nS, lS, mk1, v1, v2, uS, hR, hK, r_a0, r_a1, r_a2, r_a3, r_a4, r_a5]
      have r_a7 := Eq.refl (k5a x0 x1 x2 x3 x4 x5)
      conv at r_a7 => rhs; simp only [k5a, cond_true, cond_false, Bool.cond_self, Bool.not_true, Bool.not_false, Bool.true_or, Bool.or_true, Bool.false_or, Bool.or_false, Bool.and_self, Bool.and_true, Bool.true_and, Bool.false_and, Bool.and_false, bne_self_eq_false, beq_self_eq_true, allT, r0, r1, s1, i1, i2, i3, i4, kS, mS, f1, f2, f5, hS, g1, g4, g5, e1, nS, lS, mk1, v1, v2, uS, hR, hK, r_a0, r_a1, r_a2, r_a3, r_a4, r_a5, r_a6]
      have r_a8 := Eq.refl (kaf x0 x1 x2 x3 x4 x5)
      conv at r_a8 => rhs; simp only [kaf, cond_true, cond_false, Bool.cond_self, Bool.not_true, Bool.not_false, Bool.true_or, Bool.or_true, Bool.false_or, Bool.or_false, Bool.and_self, Bool.and_true, Bool.true_and, Bool.false_and, Bool.and_false, bne_self_eq_false, beq_self_eq_true, allT, r0, r1, s1, i1, i2, i3, i4, kS, mS, f1, f2, f5, hS, g1, g4, g5, e1, nS, lS, mk1, v1, v2, uS, hR, hK, r_a0, r_a1, r_a2, r_a3, r_a4, r_a5, r_a6, r_a7]
      have r_a9 := Eq.refl (kad x0 x1 x2 x3 x4 x5)
      conv at r_a9 => rhs; simp only [kad, cond_true, cond_false, Bool.cond_self, Bool.not_true, Bool.not_false, Bool.true_or, Bool.or_true, Bool.false_or, Bool.or_false, Bool.and_self, Bool.and_true, Bool.true_and, Bool.false_and, Bool.and_false, bne_self_eq_false, beq_self_eq_true, allT, r0, r1, s1, i1, i2, i3, i4, kS, mS, f1, f2, f5, hS, g1, g4, g5, e1, nS, lS, mk1, v1, v2, uS, hR, hK, r_a0, r_a1, r_a2, r_a3, r_a4, r_a5, r_a6, r_a7, r_a8]
      have r_a10 := Eq.refl (k2q x0 x1 x2 x3 x4 x5)
      conv at r_a10 => rhs; simp only [k2q, cond_true, cond_false, Bool.cond_self, Bool.not_true, Bool.not_false, Bool.true_or, Bool.or_true, Bool.false_or, Bool.or_false, Bool.and_self, Bool.and_true, Bool.true_and, Bool.false_and, Bool.and_false, bne_self_eq_false, beq_self_eq_true, allT, r0, r1, s1, i1, i2, i3, i4, kS, mS, f1, f2, f5, hS, g1, g4, g5, e1, nS, lS, mk1, v1, v2, uS, hR, hK, r_a0, r_a1, r_a2, r_a3, r_a4, r_a5, r_a6, r_a7, r_a8, r_a9]
      have r_a11 := Eq.refl (k2p x0 x1 x2 x3 x4 x5)
      conv at r_a11 => rhs; simp only [k2p, cond_true, cond_false, Bool.cond_self, Bool.not_true, Bool.not_false, Bool.true_or, Bool.or_true, Bool.false_or, Bool.or_false, Bool.and_self, Bool.and_true, Bool.true_and, Bool.false_and, Bool.and_false, bne_self_eq_false, beq_self_eq_true, allT, r0, r1, s1, i1, i2, i3, i4, kS, mS, f1, f2, f5, hS, g1, g4, g5, e1, nS, lS, mk1, v1, v2, uS, hR, hK, r_a0, r_a1, r_a2, r_a3, r_a4, r_a5, r_a6, r_a7, r_a8, r_a9, r_a10]
      have r_a12 := Eq.refl (k9r x0 x1 x2 x3 x4 x5)
      conv at r_a12 => rhs; simp only [k9r, cond_true, cond_false, Bool.cond_self, Bool.not_true, Bool.not_false, Bool.true_or, Bool.or_true, Bool.false_or, Bool.or_false, Bool.and_self, Bool.and_true, Bool.true_and, Bool.false_and, Bool.and_false, bne_self_eq_false, beq_self_eq_true, allT, r0, r1, s1, i1, i2, i3, i4, kS, mS, f1, f2, f5, hS, g1, g4, g5, e1, nS, lS, mk1, v1, v2, uS, hR, hK, r_a0, r_a1, r_a2, r_a3, r_a4, r_a5, r_a6, r_a7, r_a8, r_a9, r_a10, r_a11]
      have r_a13 := Eq.refl (k9m x3 x4 x5)
      conv at r_a13 => rhs; simp only [k9m, cond_true, cond_false, Bool.cond_self, Bool.not_true, Bool.not_false, Bool.true_or, Bool.or_true, Bool.false_or, Bool.or_false, Bool.and_self, Bool.and_true, Bool.true_and, Bool.false_and, Bool.and_false, bne_self_eq_false, beq_self_eq_true, allT, r0, r1, s1, i1, i2, i3, i4, kS, mS, f1, f2, f5, hS, g1, g4, g5, e1, nS, lS, mk1, v1, v2, uS, hR, hK, r_a0, r_a1, r_a2, r_a3, r_a4, r_a5, r_a6, r_a7, r_a8, r_a9, r_a10, r_a11, r_a12]
      have r_a14 := Eq.refl (k7r x0 x1 x2 x3 x4 x5)
      conv at r_a14 => rhs; simp only [k7r, cond_true, cond_false, Bool.cond_self, Bool.not_true, Bool.not_false, Bool.true_or, Bool.or_true, Bool.false_or, Bool.or_false, Bool.and_self, Bool.and_true, Bool.true_and, Bool.false_and, Bool.and_false, bne_self_eq_false, beq_self_eq_true, allT, r0, r1, s1, i1, i2, i3, i4, kS, mS, f1, f2, f5, hS, g1, g4, g5, e1, nS, lS, mk1, v1, v2, uS, hR, hK, r_a0, r_a1, r_a2, r_a3, r_a4, r_a5, r_a6, r_a7, r_a8, r_a9, r_a10, r_a11, r_a12, r_a13]
      have r_a15 := Eq.refl (k9o x0 x1 x2 x3 x4 x5)
      conv at r_a15 => rhs; simp only [k9o, cond_true, cond_false, Bool.cond_self, Bool.not_true, Bool.not_false, Bool.true_or, Bool.or_true, Bool.false_or, Bool.or_false, Bool.and_self, Bool.and_true, Bool.true_and, Bool.false_and, Bool.and_false, bne_self_eq_false, beq_self_eq_true, allT, r0, r1, s1, i1, i2, i3, i4, kS, mS, f1, f2, f5, hS, g1, g4, g5, e1, nS, lS, mk1, v1, v2, uS, hR, hK, r_a0, r_a1, r_a2, r_a3, r_a4, r_a5, r_a6, r_a7, r_a8, r_a9, r_a10, r_a11, r_a12, r_a13, r_a14]
      refine ⟨?_, ?_⟩ <;> simp only [kda, kd7, cond_true, cond_false, Bool.cond_self, Bool.not_true, Bool.not_false, Bool.true_or, Bool.or_true, Bool.false_or, Bool.or_false, Bool.and_self, Bool.and_true, Bool.true_and, Bool.false_and, Bool.and_false, bne_self_eq_false, beq_self_eq_true, allT, r0, r1, s1, i1, i2, i3, i4, kS, mS, f1, f2, f5, hS, g1, g4, g5, e1, nS, lS, mk1, v1, v2, uS, hR, hK, r_a0, r_a1, r_a2, r_a3, r_a4, r_a5, r_a6, r_a7, r_a8, r_a9, r_a10, r_a11, r_a12, r_a13, r_a14, r_a15]

end Go.SX

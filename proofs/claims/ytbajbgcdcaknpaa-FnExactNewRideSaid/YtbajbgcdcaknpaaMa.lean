/- What functions of the program come to, and what that says in plain words: part 1. -/
import Derived.Test.YtbajbgcdcaknpaaTXh
import Derived.Test.YtbajbgcdcaknpaaProg
set_option linter.unusedSimpArgs false
set_option linter.unusedVariables false
namespace Go.SX
open Go.Proofs
set_option maxRecDepth 100000
theorem hmix : Try.prog.follows .mixedOrders = true := by kernel_rfl

def kfa (x0 : Int) (x1 : Int) (x2 : Int) : Bool :=
  bif leI x1 x0 then leI x0 x2 else false

def kme : List SV → List Entry → Option Out
  | [.one ⟨false, [.val (.int .i64 x0)]⟩, .one ⟨false, [.val (.int .i64 x1)]⟩, .one ⟨false, [.val (.int .i64 x2)]⟩], [] => some ⟨(.one ⟨false, [(.val (.bool (kfa x0 x1 x2)))]⟩), [], [], []⟩
  | _, _ => none

def kk5 : PF Try.prog := PF.ofG Try.prog [] [] hmix 10 Try.f10 Try.func10 (fun c _ => LOk.nil c) kme (by
  intro vs es r h; unfold kme at h; split at h
  · cases h; kernel_rfl
  · cases h)

def kft (x0 : Int) (x1 : Int) (x2 : Int) : Bool :=
  bif leI x1 x0 then leI x0 x2 else false

def klt : List SV → List Entry → Option Out
  | [.one ⟨false, [.val (.int .i64 x0)]⟩, .one ⟨false, [.val (.int .i64 x1)]⟩, .one ⟨false, [.val (.int .i64 x2)]⟩], [] => some ⟨(.one ⟨false, [(.val (.bool (kft x0 x1 x2)))]⟩), [], [], []⟩
  | _, _ => none

def kfx : PF Try.prog := PF.ofG Try.prog [] [] hmix 13 Try.f13 Try.func13 (fun c _ => LOk.nil c) klt (by
  intro vs es r h; unfold klt at h; split at h
  · cases h; kernel_rfl
  · cases h)

def kfz (x0 : Int) : Bool :=
  kft x0 (2 : Int) (8 : Int)

def kfy : List SV → List Entry → Option Out
  | [.one ⟨false, [.val (.int .i64 x0)]⟩], [] => some ⟨(.one ⟨false, [(.val (.bool (kfz x0)))]⟩), [], [], []⟩
  | _, _ => none

def kfs : PF Try.prog := PF.ofG Try.prog [kfx] [] hmix 12 Try.f12 Try.func12 (fun c _ => LOk.nil c) kfy (by
  intro vs es r h; unfold kfy at h; split at h
  · cases h; kernel_rfl
  · cases h)

abbrev k2q := Int × List Int × List Int

def k6w (y0 : Int) (y1 : List Int) : Bool :=
  ltI y0 (↑(List.length y1) : Int)

def k6s (y0 : Int) : Bool :=
  leI (0 : Int) y0

def k9t (y0 : Int) (y1 : List Int) : Bool :=
  ltN (Int.toNat y0) (List.length y1)

def k9g (y0 : Int) (y2 : List Int) : Bool :=
  ltI y0 (↑(List.length y2) : Int)

def k9j (y0 : Int) (y2 : List Int) : Bool :=
  ltN (Int.toNat y0) (List.length y2)

def k9u (y0 : Int) (y1 : List Int) (y2 : List Int) : Bool :=
  Option.getD y1[Int.toNat y0]? (0 : Int) != Option.getD y2[Int.toNat y0]? (0 : Int)

def k9c (y0 : Int) : Int :=
  IntKind.wrap IntKind.i64 (y0 + (1 : Int))

def kkh : k2q → List (Nat × SV)
  | (y0, _, _) => [(5, (.one ⟨false, [(.val (.int IntKind.i64 y0))]⟩)), (0, (.one ⟨false, [(.ref 0)]⟩)), (1, (.one ⟨false, [(.ref 1)]⟩))]

def kkr : k2q → List (Nat × Entry)
  | (_, y1, y2) => [(0, (.row false 2 (CTy.int IntKind.i64) y1)), (1, (.row false 2 (CTy.int IntKind.i64) y2))]

def kkj : Nat → k2q → List (Nat × SV)
  | 0, (_, _, _) => [(4, (.one ⟨false, [(.val (.bool false))]⟩))]
  | _, (_, _, _) => []

def kki : Nat → k2q → List (Nat × Entry)
  | 0, (_, y1, y2) => [(0, (.row false 2 (CTy.int IntKind.i64) y1)), (1, (.row false 2 (CTy.int IntKind.i64) y2))]
  | _, (_, y1, y2) => [(0, (.row false 2 (CTy.int IntKind.i64) y1)), (1, (.row false 2 (CTy.int IntKind.i64) y2))]

def k8l : k2q → LT k2q
  | (y0, y1, y2) => .ite (k6w y0 y1) (.need [(k6s y0), (k6w y0 y1), (k9t y0 y1), (k6s y0), (k9g y0 y2), (k9j y0 y2)] (.ite (k9u y0 y1 y2) (.ext 0 [(0, 0), (1, 1)]) (.nrm ((k9c y0), y1, y2) [(0, 0), (1, 1)]))) (.ext 1 [(0, 0), (1, 1)])

def kcy (s : St) : Option k2q :=
  (match s.look 5 with
  | some ⟨none, (.one ⟨false, [(.val (.int IntKind.i64 y0))]⟩)⟩ =>
  (match s.look 0 with
  | some ⟨none, (.one ⟨false, [(.ref 0)]⟩)⟩ =>
  (match s.look 1 with
  | some ⟨none, (.one ⟨false, [(.ref 1)]⟩)⟩ =>
  (match s.ent 0 with
  | some (.row false 2 (CTy.int IntKind.i64) y1) =>
  (match s.ent 1 with
  | some (.row false 2 (CTy.int IntKind.i64) y2) =>
  some (y0, y1, y2)
  | _ => none)
  | _ => none)
  | _ => none)
  | _ => none)
  | _ => none)

def kw : Lp k2q where
  h := ⟨[11, 12, 13, 14, 17, 18, 19, 20, 21, 22, 23, 24, 25, 4, 15, 16, 5], [0, 1], [], []⟩
  JL := kkh
  JE := kkr
  XL := kkj
  XE := kki
  q := fun j => match j with | 0 => .ret | _ => .exit 0
  tags := [0, 1]
  lt := k8l
  fuel := fun (y0, y1, y2) => y0.natAbs + y1.length + y2.length
  fix := fun (_, y1, y2) (y0, _, _) => (y0, y1, y2)
  σ := [(0, 0), (1, 1)]
  rd := kcy

theorem kj4 : LoopOk Try.prog (fun k => Nat.blt k Try.f35.ntmps) kw.F (loopAt Try.f35 0) := by
  refine Lp.ok (tbl := []) (lf := []) hmix kw (by kernel_rfl) (LOk.nil _) (fun _ => rfl) (fun j _ => by unfold kw; match j with | 0 => rfl | _ + 1 => rfl) ?_ ?_ ?_ ?_ (fun _ => rfl) ?_
  · intro x; obtain ⟨y0, y1, y2⟩ := x; kernel_rfl
  · intro x; obtain ⟨y0, y1, y2⟩ := x; kernel_rfl
  · intro s x h
    have h : kcy s = some x := h
    unfold kcy at h
    repeat' split at h
    all_goals cases h
    exact ⟨absS_cons (by assumption) rfl (absS_cons (by assumption) rfl (absS_cons (by assumption) rfl (rfl))), absE_cons rfl (by assumption) rfl (absE_cons rfl (by assumption) rfl (rfl))⟩
  · intro x; obtain ⟨y0, y1, y2⟩ := x; kernel_rfl
  · intro x z; obtain ⟨y0, y1, y2⟩ := x; exact (And.intro (And.intro trivial rfl) trivial)

def kco (x0 : List Int) (x1 : List Int) : Bool :=
  (↑(List.length x0) : Int) != (↑(List.length x1) : Int)

def kcm (x0 : List Int) (x1 : List Int) : Int × List Int × List Int :=
  ((0 : Int), x0, x1)

def kds (x0 : List Int) (x1 : List Int) : Bool :=
  bif kco x0 x1 then false else bif Nat.beq (Prod.fst (Lp.res kw (kcm x0 x1))) (0 : Nat) then false else true

def kdw (x0 : List Int) (x1 : List Int) : Bool :=
  allT [kco x0 x1 || Lp.fin kw (kcm x0 x1)]

def kji : List SV → List Entry → Option Out
  | [.one ⟨false, [.ref 0]⟩, .one ⟨false, [.ref 1]⟩], [.row false 2 (.int .i64) x0, .row false 2 (.int .i64) x1] => some ⟨(.one ⟨false, [(.val (.bool (kds x0 x1)))]⟩), [(.row false 2 (CTy.int IntKind.i64) x0), (.row false 2 (CTy.int IntKind.i64) x1)], [], [(kdw x0 x1)]⟩
  | _, _ => none

def kmn : PF Try.prog := PF.ofG Try.prog [] [kw.F] hmix 35 Try.f35 Try.func35 (LOk.fnT (l := [loopAt Try.f35 0]) (by kernel_rfl) (.cons kj4 (.nil _))) kji (by
  intro vs es r h; unfold kji at h; split at h
  · cases h; kernel_rfl
  · cases h)

abbrev k1v := Int × Int × List Int

def k5e (y0 : Int) (y2 : List Int) : Bool :=
  ltI y0 (↑(List.length y2) : Int)

def k72 (y0 : Int) : Bool :=
  leI (0 : Int) y0

def k6y (y0 : Int) (y2 : List Int) : Bool :=
  ltN (Int.toNat y0) (List.length y2)

def k77 (y0 : Int) : Int :=
  IntKind.wrap IntKind.i64 (y0 + (1 : Int))

def k75 (y1 : Int) : Int :=
  IntKind.wrap IntKind.i64 (y1 + (1 : Int))

def k7a (y0 : Int) (y1 : Int) (y2 : List Int) : List Int :=
  List.set y2 (Int.toNat y0) y1

def kj5 : k1v → List (Nat × SV)
  | (y0, y1, _) => [(5, (.one ⟨false, [(.val (.int IntKind.i64 y0))]⟩)), (0, (.one ⟨false, [(.ref 0)]⟩)), (1, (.one ⟨false, [(.val (.int IntKind.i64 y1))]⟩))]

def kiy : k1v → List (Nat × Entry)
  | (_, _, y2) => [(0, (.row true 2 (CTy.int IntKind.i64) y2))]

def kj2 : Nat → k1v → List (Nat × SV)
  | _, (_, y1, _) => [(1, (.one ⟨false, [(.val (.int IntKind.i64 y1))]⟩))]

def kj0 : Nat → k1v → List (Nat × Entry)
  | _, (_, _, y2) => [(0, (.row true 2 (CTy.int IntKind.i64) y2))]

def k6i : k1v → LT k1v
  | (y0, y1, y2) => .ite (k5e y0 y2) (.need [(k72 y0), (k5e y0 y2), (k6y y0 y2)] (.nrm ((k77 y0), (k75 y1), (k7a y0 y1 y2)) [(0, 0)])) (.ext 0 [(0, 0)])

def kbv (s : St) : Option k1v :=
  (match s.look 5 with
  | some ⟨none, (.one ⟨false, [(.val (.int IntKind.i64 y0))]⟩)⟩ =>
  (match s.look 0 with
  | some ⟨none, (.one ⟨false, [(.ref 0)]⟩)⟩ =>
  (match s.look 1 with
  | some ⟨none, (.one ⟨false, [(.val (.int IntKind.i64 y1))]⟩)⟩ =>
  (match s.ent 0 with
  | some (.row true 2 (CTy.int IntKind.i64) y2) =>
  some (y0, y1, y2)
  | _ => none)
  | _ => none)
  | _ => none)
  | _ => none)

def ku : Lp k1v where
  h := ⟨[6, 7, 8, 9, 12, 13, 14, 15, 16, 17, 1, 10, 11, 5], [0], [], []⟩
  JL := kj5
  JE := kiy
  XL := kj2
  XE := kj0
  q := fun j => match j with | _ => .exit 0
  tags := [0]
  lt := k6i
  fuel := fun (y0, y1, y2) => y0.natAbs + y1.natAbs + y2.length
  fix := fun (_, _, _) (y0, y1, y2) => (y0, y1, y2)
  σ := [(0, 0)]
  rd := kbv

theorem khz : LoopOk Try.prog (fun k => Nat.blt k Try.f40.ntmps) ku.F (loopAt Try.f40 0) := by
  refine Lp.ok (tbl := []) (lf := []) hmix ku (by kernel_rfl) (LOk.nil _) (fun _ => rfl) (fun _ _ => rfl) ?_ ?_ ?_ ?_ (fun _ => rfl) ?_
  · intro x; obtain ⟨y0, y1, y2⟩ := x; kernel_rfl
  · intro x; obtain ⟨y0, y1, y2⟩ := x; kernel_rfl
  · intro s x h
    have h : kbv s = some x := h
    unfold kbv at h
    repeat' split at h
    all_goals cases h
    exact ⟨absS_cons (by assumption) rfl (absS_cons (by assumption) rfl (absS_cons (by assumption) rfl (rfl))), absE_cons rfl (by assumption) rfl (rfl)⟩
  · intro x; obtain ⟨y0, y1, y2⟩ := x; kernel_rfl
  · intro x z; obtain ⟨y0, y1, y2⟩ := x; exact (And.intro rfl trivial)

def k9r (x0 : Int) (x1 : List Int) : Int × Int × List Int :=
  ((0 : Int), x0, x1)

def k9i (x0 : Int) (x1 : List Int) : Int × List Int :=
  Prod.snd (Prod.snd (Lp.res ku (k9r x0 x1)))

def kac (x0 : Int) (x1 : List Int) : Int :=
  Prod.fst (k9i x0 x1)

def kap (x0 : Int) (x1 : List Int) : List Int :=
  Prod.snd (k9i x0 x1)

def kai (x0 : Int) (x1 : List Int) : Bool :=
  allT [Lp.fin ku (k9r x0 x1)]

def khn : List SV → List Entry → Option Out
  | [.one ⟨false, [.ref 0]⟩, .one ⟨false, [.val (.int .i64 x0)]⟩], [.row true 2 (.int .i64) x1] => some ⟨(.one ⟨false, [(.val (.int IntKind.i64 (kac x0 x1)))]⟩), [(.row true 2 (CTy.int IntKind.i64) (kap x0 x1))], [], [(kai x0 x1)]⟩
  | _, _ => none

def kly : PF Try.prog := PF.ofG Try.prog [] [ku.F] hmix 40 Try.f40 Try.func40 (LOk.fnT (l := [loopAt Try.f40 0]) (by kernel_rfl) (.cons khz (.nil _))) khn (by
  intro vs es r h; unfold khn at h; split at h
  · cases h; kernel_rfl
  · cases h)

abbrev k1r := Int × Int × List Int

def k5o (y0 : Int) (y2 : List Int) : Bool :=
  ltI y0 (↑(List.length y2) : Int)

def k6z (y0 : Int) : Bool :=
  leI (0 : Int) y0

def k73 (y0 : Int) (y2 : List Int) : Bool :=
  ltN (Int.toNat y0) (List.length y2)

def k76 (y0 : Int) (y1 : Int) (y2 : List Int) : Bool :=
  Option.getD y2[Int.toNat y0]? (0 : Int) != y1

def k5k  : Int :=
  (-1 : Int)

def k7b (y0 : Int) : Int :=
  IntKind.wrap IntKind.i64 (y0 + (1 : Int))

def k71 (y1 : Int) : Int :=
  IntKind.wrap IntKind.i64 (y1 + (1 : Int))

def kj3 : k1r → List (Nat × SV)
  | (y0, y1, _) => [(5, (.one ⟨false, [(.val (.int IntKind.i64 y0))]⟩)), (0, (.one ⟨false, [(.ref 0)]⟩)), (1, (.one ⟨false, [(.val (.int IntKind.i64 y1))]⟩))]

def kix : k1r → List (Nat × Entry)
  | (_, _, y2) => [(0, (.row false 2 (CTy.int IntKind.i64) y2))]

def kj8 : Nat → k1r → List (Nat × SV)
  | 0, (_, _, _) => [(4, (.one ⟨false, [(.val (.int IntKind.i64 (k5k)))]⟩))]
  | _, (_, y1, _) => [(1, (.one ⟨false, [(.val (.int IntKind.i64 y1))]⟩))]

def kj7 : Nat → k1r → List (Nat × Entry)
  | 0, (_, _, y2) => [(0, (.row false 2 (CTy.int IntKind.i64) y2))]
  | _, (_, _, y2) => [(0, (.row false 2 (CTy.int IntKind.i64) y2))]

def k6e : k1r → LT k1r
  | (y0, y1, y2) => .ite (k5o y0 y2) (.need [(k6z y0), (k5o y0 y2), (k73 y0 y2)] (.ite (k76 y0 y1 y2) (.ext 0 [(0, 0)]) (.nrm ((k7b y0), (k71 y1), y2) [(0, 0)]))) (.ext 1 [(0, 0)])

def kbu (s : St) : Option k1r :=
  (match s.look 5 with
  | some ⟨none, (.one ⟨false, [(.val (.int IntKind.i64 y0))]⟩)⟩ =>
  (match s.look 0 with
  | some ⟨none, (.one ⟨false, [(.ref 0)]⟩)⟩ =>
  (match s.look 1 with
  | some ⟨none, (.one ⟨false, [(.val (.int IntKind.i64 y1))]⟩)⟩ =>
  (match s.ent 0 with
  | some (.row false 2 (CTy.int IntKind.i64) y2) =>
  some (y0, y1, y2)
  | _ => none)
  | _ => none)
  | _ => none)
  | _ => none)

def kj : Lp k1r where
  h := ⟨[6, 7, 8, 9, 12, 13, 14, 15, 16, 17, 4, 18, 19, 1, 10, 11, 5], [0], [], []⟩
  JL := kj3
  JE := kix
  XL := kj8
  XE := kj7
  q := fun j => match j with | 0 => .ret | _ => .exit 0
  tags := [0, 1]
  lt := k6e
  fuel := fun (y0, y1, y2) => y0.natAbs + y1.natAbs + y2.length
  fix := fun (_, _, y2) (y0, y1, _) => (y0, y1, y2)
  σ := [(0, 0)]
  rd := kbu

theorem khx : LoopOk Try.prog (fun k => Nat.blt k Try.f41.ntmps) kj.F (loopAt Try.f41 0) := by
  refine Lp.ok (tbl := []) (lf := []) hmix kj (by kernel_rfl) (LOk.nil _) (fun _ => rfl) (fun j _ => by unfold kj; match j with | 0 => rfl | _ + 1 => rfl) ?_ ?_ ?_ ?_ (fun _ => rfl) ?_
  · intro x; obtain ⟨y0, y1, y2⟩ := x; kernel_rfl
  · intro x; obtain ⟨y0, y1, y2⟩ := x; kernel_rfl
  · intro s x h
    have h : kbu s = some x := h
    unfold kbu at h
    repeat' split at h
    all_goals cases h
    exact ⟨absS_cons (by assumption) rfl (absS_cons (by assumption) rfl (absS_cons (by assumption) rfl (rfl))), absE_cons rfl (by assumption) rfl (rfl)⟩
  · intro x; obtain ⟨y0, y1, y2⟩ := x; kernel_rfl
  · intro x z; obtain ⟨y0, y1, y2⟩ := x; exact (And.intro (And.intro trivial rfl) trivial)

def k98 (x0 : Int) (x1 : List Int) : Int × Int × List Int :=
  ((0 : Int), x0, x1)

def kaj (x0 : Int) (x1 : List Int) : Int :=
  bif Nat.beq (Prod.fst (Lp.res kj (k98 x0 x1))) (0 : Nat) then k5k
  else Prod.fst (Prod.snd (Prod.snd (Lp.res kj (k98 x0 x1))))

def kc5 (x0 : Int) (x1 : List Int) : Bool :=
  allT [Lp.fin kj (k98 x0 x1)]

def khr : List SV → List Entry → Option Out
  | [.one ⟨false, [.ref 0]⟩, .one ⟨false, [.val (.int .i64 x0)]⟩], [.row false 2 (.int .i64) x1] => some ⟨(.one ⟨false, [(.val (.int IntKind.i64 (kaj x0 x1)))]⟩), [(.row false 2 (CTy.int IntKind.i64) x1)], [], [(kc5 x0 x1)]⟩
  | _, _ => none

def kmd : PF Try.prog := PF.ofG Try.prog [] [kj.F] hmix 41 Try.f41 Try.func41 (LOk.fnT (l := [loopAt Try.f41 0]) (by kernel_rfl) (.cons khx (.nil _))) khr (by
  intro vs es r h; unfold khr at h; split at h
  · cases h; kernel_rfl
  · cases h)

end Go.SX

namespace Go.SX
open Go.Proofs
set_option maxRecDepth 100000

def blk (p : Int) : Int := Int.tdiv p 3
def inR (a lo hi : Int) : Bool := leI lo a && leI a hi
def eqL (xs ys : List Int) : Bool := decide (xs = ys)

theorem knv {a lo hi : Int} : inR a lo hi = true ↔ lo ≤ a ∧ a ≤ hi := by simp [inR]

theorem inR_eq (a lo hi : Int) : (bif leI lo a then leI a hi else false) = inR a lo hi := by
  unfold inR; cases leI lo a <;> rfl

def k9v (y1 : List Int) (y2 : List Int) (b : Nat) : (Unit) → Nat ⊕ (Unit)
  | _ => (bif ((Option.getD y1[b]? (0 : Int) != Option.getD y2[b]? (0 : Int))) then (.inl 0) else (.inr ()))

def k4y (y1 : List Int) (y2 : List Int) (i : Nat) : (Unit) → k2q
  | _ => ((i : Int), y1, y2)

def kcw : k2q → Unit
  | (_, _, _) => ()

theorem kl2 (y1 : List Int) (y2 : List Int)  (hn : y1.length ≤ 9223372036854775807) (he : y2.length = y1.length) :
    kw.fin ((0 : Int), y1, y2) = true ∧ kw.res ((0 : Int), y1, y2) = ((walkL (k9v y1 y2) 1 (List.range y1.length) 0 ()).1, (k4y y1 y2) (walkL (k9v y1 y2) 1 (List.range y1.length) 0 ()).2.1 (walkL (k9v y1 y2) 1 (List.range y1.length) 0 ()).2.2) := by
  have key := kw.along (k4y y1 y2) kcw (k9v y1 y2) 1 (fun _ _ => True) (List.range y1.length) () (by trivial) (by simp only [kw, k4y, List.length_range]; omega) (fun i b a hb hI => ?_) (fun a hI => ?_)
  · exact key
  · obtain ⟨⟩ := a
    obtain ⟨rfl, hlt⟩ := range_get hb
    have hw : IntKind.i64.wrap ((b : Int) + 1) = ((b + 1 : Nat) : Int) := by rw [wrap_i64 (by omega) (by omega)]; omega
    have hdec : ltI (b : Int) (y1.length : Int) = true := ltI_t (by omega)
    have hnn : leI (0 : Int) (b : Int) = true := leI_t (by omega)
    have hltd : ltN b y1.length = true := ltN_t (by omega)
    refine ⟨?_, ?_, ?_, ?_⟩
    · simp [k6w, k6s, k9t, k9g, k9j, k9u, k9c, k8l, kw, LT.nds, allT, k4y, hdec, hnn, hltd, he]
    · simp [k6w, k6s, k9t, k9g, k9j, k9u, k9c, k8l, kw, LT.each, k4y, kcw, hw, he]
    · simp only [k6w, k6s, k9t, k9g, k9j, k9u, k9c, k8l, kw, LT.fn, k4y, kcw, k9v, Int.toNat_natCast, hdec, cond_true]
    · exact fun _ _ => trivial
  · obtain ⟨⟩ := a
    simp [k6w, k6s, k9t, k9g, k9j, k9u, k9c, k8l, kw, LT.out, k4y, List.length_range]

def k48  (b : Nat) : (Int × List Int) → Nat ⊕ (Int × List Int)
  | (y1, y2) => (.inr (((IntKind.wrap IntKind.i64 (y1 + (1 : Int)))), ((List.set y2 (b) y1))))

def k1w  (i : Nat) : (Int × List Int) → k1v
  | (y1, y2) => ((i : Int), y1, y2)

def kbq : k1v → Int × List Int
  | (_, y1, y2) => (y1, y2)

theorem kk1  (y1 : Int) (y2 : List Int) (n : Nat) (hl : y2.length = n) (hn : n ≤ 9223372036854775807)  :
    ku.fin ((0 : Int), y1, y2) = true ∧ ku.res ((0 : Int), y1, y2) = ((walkL (k48) 0 (List.range n) 0 (y1, y2)).1, (k1w) (walkL (k48) 0 (List.range n) 0 (y1, y2)).2.1 (walkL (k48) 0 (List.range n) 0 (y1, y2)).2.2) := by
  have key := ku.along (k1w) kbq (k48) 0 (fun _ a => a.2.length = n) (List.range n) (y1, y2) hl (by simp only [ku, k1w, List.length_range]; omega) (fun i b a hb hI => ?_) (fun a hI => ?_)
  · exact key
  · obtain ⟨y1, y2⟩ := a
    obtain ⟨rfl, hlt⟩ := range_get hb
    have hI0 : y2.length = n := hI
    have hw : IntKind.i64.wrap ((b : Int) + 1) = ((b + 1 : Nat) : Int) := by rw [wrap_i64 (by omega) (by omega)]; omega
    have hdec : ltI (b : Int) (y2.length : Int) = true := ltI_t (by omega)
    have hnn : leI (0 : Int) (b : Int) = true := leI_t (by omega)
    have hltd : ltN b y2.length = true := ltN_t (by omega)
    refine ⟨?_, ?_, ?_, ?_⟩
    · simp [k5e, k72, k6y, k77, k75, k7a, k6i, ku, LT.nds, allT, k1w, hdec, hnn, hltd]
    · simp [k5e, k72, k6y, k77, k75, k7a, k6i, ku, LT.each, k1w, kbq, hw]
    · simp only [k5e, k72, k6y, k77, k75, k7a, k6i, ku, LT.fn, k1w, kbq, k48, Int.toNat_natCast, hdec, hnn, hltd, cond_true, Bool.cond_self]
    · intro a' hf; simp only [k48, Sum.inr.injEq] at hf; subst hf; simp [hI0]
  · obtain ⟨y1, y2⟩ := a
    have hI0 : y2.length = n := hI
    simp [k5e, k72, k6y, k77, k75, k7a, k6i, ku, LT.out, k1w, hI0, List.length_range]

def k5m  (b : Int) : (Int) → Nat ⊕ (Int)
  | y1 => (bif ((b != y1)) then (.inl 0) else (.inr ((IntKind.wrap IntKind.i64 (y1 + (1 : Int))))))

def k2r (y2 : List Int) (i : Nat) : (Int) → k1r
  | y1 => ((i : Int), y1, y2)

def kbp : k1r → Int
  | (_, y1, _) => y1

theorem kff (y2 : List Int) (y1 : Int) (hn : y2.length ≤ 9223372036854775807)  :
    kj.fin ((0 : Int), y1, y2) = true ∧ kj.res ((0 : Int), y1, y2) = ((walkL (k5m) 1 y2 0 y1).1, (k2r y2) (walkL (k5m) 1 y2 0 y1).2.1 (walkL (k5m) 1 y2 0 y1).2.2) := by
  have key := kj.along (k2r y2) kbp (k5m) 1 (fun _ _ => True) y2 y1 (by trivial) (by simp only [kj, k2r]; omega) (fun i b a hb hI => ?_) (fun a hI => ?_)
  · exact key
  · obtain y1 := a
    have hlt := (List.getElem?_eq_some_iff.1 hb).1
    have hget : ∀ d, Option.getD y2[i]? d = b := fun d => by rw [hb]; rfl
    have hw := wrap64 hlt hn
    have hdec : ltI (i : Int) (y2.length : Int) = true := ltI_t (by omega)
    have hnn : leI (0 : Int) (i : Int) = true := leI_t (by omega)
    have hltd : ltN i y2.length = true := ltN_t hlt
    refine ⟨?_, ?_, ?_, ?_⟩
    · simp [k5o, k6z, k73, k76, k5k, k7b, k71, k6e, kj, LT.nds, allT, k2r, hdec, hnn, hltd, hget]
    · simp [k5o, k6z, k73, k76, k5k, k7b, k71, k6e, kj, LT.each, k2r, kbp, hw]
    · simp only [k5o, k6z, k73, k76, k5k, k7b, k71, k6e, kj, LT.fn, k2r, kbp, k5m, Int.toNat_natCast, hdec, hnn, hltd, hget, cond_true, Bool.cond_self]
    · exact fun _ _ => trivial
  · obtain y1 := a
    simp [k5o, k6z, k73, k76, k5k, k7b, k71, k6e, kj, LT.out, k2r]

theorem knu (xs ys : List Int) (hn : leN xs.length 9223372036854775807 = true) : kds xs ys = eqL xs ys ∧ kdw xs ys = true := by
  have hn := leN_iff.1 hn
  unfold eqL
  by_cases hl : ys.length = xs.length
  · obtain ⟨w1, w2⟩ := kl2 xs ys hn hl
    have ha := any_ne (d := (0 : Int)) hl (P := fun b => Option.getD xs[b]? 0 != Option.getD ys[b]? 0) (fun b => by simp [bne, BEq.beq])
    rw [walk_stop (P := fun b => Option.getD xs[b]? 0 != Option.getD ys[b]? 0) (j := 0) (fun b => rfl), ha] at w2
    simp only [kco, kcm, kds, kdw, w1, w2, allT]
    by_cases he : xs = ys
    · subst he; simp; decide
    · simp [he, hl]
  · have hne : xs ≠ ys := fun h => hl (by rw [h])
    simp [kco, kcm, kds, kdw, allT, hne]
    omega

def kjk : List SV → List Entry → Option Out
  | [.one ⟨false, [.ref 0]⟩, .one ⟨false, [.ref 1]⟩], [.row false 2 (.int .i64) x0, .row false 2 (.int .i64) x1] => some ⟨(.one ⟨false, [(.val (.bool (eqL x0 x1)))]⟩), [(.row false 2 (CTy.int IntKind.i64) x0), (.row false 2 (CTy.int IntKind.i64) x1)], [], [leN x0.length 9223372036854775807]⟩
  | _, _ => none

def k5r : PF Try.prog := PF.alt kmn kjk (by
  intro args es o h hnd; unfold kjk at h; split at h
  · rename_i x0 x1
    cases h
    have hnd := nd_fst hnd
    have hh := knu x0 x1 hnd
    obtain ⟨e0, en⟩ := hh
    exact altok rfl (nd_one en) (by simp only [e0] <;> rfl) rfl rfl
  · cases h)

/-- Numbers that a list is marked with stay numbers. -/
def mkOk (k : Int) (n : Nat) : Bool := leI 0 k && leI (k + n) 9223372036854775807

theorem kcp {k : Int} {n : Nat} : mkOk k n = true ↔ 0 ≤ k ∧ k + n ≤ 9223372036854775807 := by simp [mkOk]

theorem kn7 (k : Int) (xs : List Int) (h : mkOk k xs.length = true) : kac k xs = k + xs.length ∧ kap k xs = upFrom k xs.length ∧ kai k xs = true := by
  obtain ⟨h0, h1⟩ := kcp.1 h
  obtain ⟨w1, w2⟩ := kk1 k xs xs.length rfl (by omega)
  rw [walk_mark (f := k48) (fun b k xs => rfl) h0 h1] at w2
  refine ⟨?_, ?_, ?_⟩
  · simp only [k9r, k9i, kac, kap, kai, w2, k1w]
  · simp only [k9r, k9i, kac, kap, kai, w2, k1w]
  · simp only [k9r, k9i, kac, kap, kai, w1, allT, cond_true]

def khj : List SV → List Entry → Option Out
  | [.one ⟨false, [.ref 0]⟩, .one ⟨false, [.val (.int .i64 x0)]⟩], [.row true 2 (.int .i64) x1] => some ⟨(.one ⟨false, [(.val (.int IntKind.i64 (x0 + (x1.length : Int))))]⟩), [(.row true 2 (CTy.int IntKind.i64) (upFrom x0 x1.length))], [], [mkOk x0 x1.length]⟩
  | _, _ => none

def k46 : PF Try.prog := PF.alt kly khj (by
  intro args es o h hnd; unfold khj at h; split at h
  · rename_i x0 x1
    cases h
    have hnd := nd_fst hnd
    have hh := kn7 x0 x1 hnd
    obtain ⟨e0, e1, en⟩ := hh
    exact altok rfl (nd_one en) (by simp only [e0] <;> rfl) (by simp only [e1] <;> rfl) rfl
  · cases h)

/-- What a marked list is found to be. -/
def heldV (k : Int) (xs : List Int) : Int := kaj k xs

theorem knk (k : Int) (n : Nat) (h : mkOk k n = true) : heldV k (upFrom k n) = k + n := by
  obtain ⟨h0, h1⟩ := kcp.1 h
  obtain ⟨w1, w2⟩ := kff (upFrom k n) k (by rw [upFrom_length]; omega)
  rw [walk_held (f := k5m) (fun b k => rfl) h0 h1] at w2
  simp only [heldV, k98, kaj, kc5, w2, k2r]
  rfl

theorem kn9 (k : Int) (xs : List Int) (h : leN xs.length 9223372036854775807 = true) : kaj k xs = heldV k xs ∧ kc5 k xs = true := by
  obtain ⟨w1, w2⟩ := kff xs k (leN_iff.1 h)
  exact ⟨rfl, by simp only [k98, kaj, kc5, w1, allT, cond_true]⟩

def khk : List SV → List Entry → Option Out
  | [.one ⟨false, [.ref 0]⟩, .one ⟨false, [.val (.int .i64 x0)]⟩], [.row false 2 (.int .i64) x1] => some ⟨(.one ⟨false, [(.val (.int IntKind.i64 (heldV x0 x1)))]⟩), [(.row false 2 (CTy.int IntKind.i64) x1)], [], [leN x1.length 9223372036854775807]⟩
  | _, _ => none

def k47 : PF Try.prog := PF.alt kmd khk (by
  intro args es o h hnd; unfold khk at h; split at h
  · rename_i x0 x1
    cases h
    have hnd := nd_fst hnd
    have hh := kn9 x0 x1 hnd
    obtain ⟨e0, en⟩ := hh
    exact altok rfl (nd_one en) (by simp only [e0] <;> rfl) rfl rfl
  · cases h)

end Go.SX

namespace Go.SX
open Go.Proofs
set_option maxRecDepth 100000

def kev (x0 : Int) (x1 : Int) (x2 : List Int) (x3 : List Int) : Bool :=
  bif x0 != x1 then false else bif !eqL x2 x3 then false else true

def kfe (x0 : Int) (x1 : Int) (x2 : List Int) : Bool :=
  allT [x0 != x1 || leN (List.length x2) (9223372036854775807 : Nat)]

def kii : List SV → List Entry → Option Out
  | [.one ⟨true, [.val (.int .i64 x0), .ref 0]⟩, .one ⟨true, [.val (.int .i64 x1), .ref 1]⟩], [.row false 2 (.int .i64) x2, .row false 2 (.int .i64) x3] => some ⟨(.one ⟨false, [(.val (.bool (kev x0 x1 x2 x3)))]⟩), [(.row false 2 (CTy.int IntKind.i64) x2), (.row false 2 (CTy.int IntKind.i64) x3)], [], [(kfe x0 x1 x2)]⟩
  | _, _ => none

def kmg : PF Try.prog := PF.ofG Try.prog [k5r, PF.lend k5r, PF.fz k5r] [] hmix 16 Try.f16 Try.func16 (fun c _ => LOk.nil c) kii (by
  intro vs es r h; unfold kii at h; split at h
  · cases h; kernel_rfl
  · cases h)

def kde (x1 : Int) (x2 : List Int) : Int :=
  x1 + (↑(List.length x2) : Int)

def kdh (x1 : Int) (x2 : List Int) : List Int :=
  upFrom x1 (List.length x2)

def kdl (x1 : Int) (x2 : List Int) : Bool :=
  allT [mkOk x1 (List.length x2)]

def kgp : List SV → List Entry → Option Out
  | [.one ⟨true, [.val (.int .i64 _x0), .ref 0]⟩, .one ⟨false, [.val (.int .i64 x1)]⟩], [.row true 2 (.int .i64) x2] => some ⟨(.one ⟨false, [(.val (.int IntKind.i64 (kde x1 x2)))]⟩), [(.row true 2 (CTy.int IntKind.i64) (kdh x1 x2))], [], [(kdl x1 x2)]⟩
  | _, _ => none

def klb : PF Try.prog := PF.ofG Try.prog [k46, PF.lend k46, PF.fz k46] [] hmix 22 Try.f22 Try.func22 (fun c _ => LOk.nil c) kgp (by
  intro vs es r h; unfold kgp at h; split at h
  · cases h; kernel_rfl
  · cases h)

def kdg (x1 : Int) (x2 : List Int) : Int :=
  bif ltI (heldV x1 x2) (0 : Int) then (-1 : Int) else heldV x1 x2

def kdm (x2 : List Int) : Bool :=
  allT [leN (List.length x2) (9223372036854775807 : Nat)]

def kh4 : List SV → List Entry → Option Out
  | [.one ⟨true, [.val (.int .i64 _x0), .ref 0]⟩, .one ⟨false, [.val (.int .i64 x1)]⟩], [.row false 2 (.int .i64) x2] => some ⟨(.one ⟨false, [(.val (.int IntKind.i64 (kdg x1 x2)))]⟩), [(.row false 2 (CTy.int IntKind.i64) x2)], [], [(kdm x2)]⟩
  | _, _ => none

def kll : PF Try.prog := PF.ofG Try.prog [k47, PF.lend k47, PF.fz k47] [] hmix 28 Try.f28 Try.func28 (fun c _ => LOk.nil c) kh4 (by
  intro vs es r h; unfold kh4 at h; split at h
  · cases h; kernel_rfl
  · cases h)

end Go.SX

namespace Go.SX
open Go.Proofs
set_option maxRecDepth 100000

def eqT (n m : Int) (ps qs : List Int) : Bool := n == m && eqL ps qs

theorem eqT_ok (n m : Int) (ps qs : List Int) (h : leN ps.length 9223372036854775807 = true) : kev n m ps qs = eqT n m ps qs ∧ kfe n m ps = true := by
  simp only [kev, kfe, allT, h, eqT, bne]
  cases n == m <;> cases eqL ps qs <;> simp

def ki0 : List SV → List Entry → Option Out
  | [.one ⟨true, [.val (.int .i64 x0), .ref 0]⟩, .one ⟨true, [.val (.int .i64 x1), .ref 1]⟩], [.row false 2 (.int .i64) x2, .row false 2 (.int .i64) x3] => some ⟨(.one ⟨false, [(.val (.bool (eqT x0 x1 x2 x3)))]⟩), [(.row false 2 (CTy.int IntKind.i64) x2), (.row false 2 (CTy.int IntKind.i64) x3)], [], [leN x2.length 9223372036854775807]⟩
  | _, _ => none

def kf8 : PF Try.prog := PF.alt kmg ki0 (by
  intro args es o h hnd; unfold ki0 at h; split at h
  · rename_i x0 x1 x2 x3
    cases h
    have hnd := nd_fst hnd
    have hh := eqT_ok x0 x1 x2 x3 hnd
    obtain ⟨e0, en⟩ := hh
    exact altok rfl (nd_one en) (by simp only [e0] <;> rfl) rfl rfl
  · cases h)

theorem kny (k : Int) (ps : List Int) (h : mkOk k ps.length = true) : kde k ps = k + ps.length ∧ kdh k ps = upFrom k ps.length ∧ kdl k ps = true := by
  simp only [kde, kdh, kdl, allT, h, cond_true, and_self]

def kgl : List SV → List Entry → Option Out
  | [.one ⟨true, [.val (.int .i64 _x0), .ref 0]⟩, .one ⟨false, [.val (.int .i64 x1)]⟩], [.row true 2 (.int .i64) x2] => some ⟨(.one ⟨false, [(.val (.int IntKind.i64 (x1 + (x2.length : Int))))]⟩), [(.row true 2 (CTy.int IntKind.i64) (upFrom x1 x2.length))], [], [mkOk x1 x2.length]⟩
  | _, _ => none

def kd5 : PF Try.prog := PF.alt klb kgl (by
  intro args es o h hnd; unfold kgl at h; split at h
  · rename_i _x0 x1 x2
    cases h
    have hnd := nd_fst hnd
    have hh := kny x1 x2 hnd
    obtain ⟨e0, e1, en⟩ := hh
    exact altok rfl (nd_one en) (by simp only [e0] <;> rfl) (by simp only [e1] <;> rfl) rfl
  · cases h)

def heldV1 (k : Int) (xs : List Int) : Int := bif ltI (heldV k xs) 0 then -1 else heldV k xs

theorem knz (k : Int) (ps : List Int) (h : leN ps.length 9223372036854775807 = true) : kdg k ps = heldV1 k ps ∧ kdm ps = true := by
  simp only [kdg, kdm, heldV1, allT, h, cond_true, and_self]

def kh6 : List SV → List Entry → Option Out
  | [.one ⟨true, [.val (.int .i64 _x0), .ref 0]⟩, .one ⟨false, [.val (.int .i64 x1)]⟩], [.row false 2 (.int .i64) x2] => some ⟨(.one ⟨false, [(.val (.int IntKind.i64 (heldV1 x1 x2)))]⟩), [(.row false 2 (CTy.int IntKind.i64) x2)], [], [leN x2.length 9223372036854775807]⟩
  | _, _ => none

def kdk : PF Try.prog := PF.alt kll kh6 (by
  intro args es o h hnd; unfold kh6 at h; split at h
  · rename_i _x0 x1 x2
    cases h
    have hnd := nd_fst hnd
    have hh := knz x1 x2 hnd
    obtain ⟨e0, en⟩ := hh
    exact altok rfl (nd_one en) (by simp only [e0] <;> rfl) rfl rfl
  · cases h)

end Go.SX

namespace Go.SX
open Go.Proofs
set_option maxRecDepth 100000

def ki4 (x0 : Int) : Bool :=
  kfa x0 (2 : Int) (8 : Int)

def ki3 : List SV → List Entry → Option Out
  | [.one ⟨false, [.val (.int .i64 x0)]⟩], [] => some ⟨(.one ⟨false, [(.val (.bool (ki4 x0)))]⟩), [], [], []⟩
  | _, _ => none

def kit : PF Try.prog := PF.ofG Try.prog [kk5] [] hmix 9 Try.f9 Try.func9 (fun c _ => LOk.nil c) ki3 (by
  intro vs es r h; unfold ki3 at h; split at h
  · cases h; kernel_rfl
  · cases h)

def k6x (x0 : Int) (x1 : Int) (x2 : Int) (x3 : Int) (x4 : Int) (x5 : Int) : Bool :=
  bif x0 != x3 then false else bif x1 != x4 then false else bif x2 != x5 then false else true

def kfd : List SV → List Entry → Option Out
  | [.one ⟨true, [.val (.int .i64 x0), .val (.int .i64 x1), .val (.int .i64 x2)]⟩, .one ⟨true, [.val (.int .i64 x3), .val (.int .i64 x4), .val (.int .i64 x5)]⟩], [] => some ⟨(.one ⟨false, [(.val (.bool (k6x x0 x1 x2 x3 x4 x5)))]⟩), [], [], []⟩
  | _, _ => none

def kf7 : PF Try.prog := PF.ofG Try.prog [] [] hmix 36 Try.f36 Try.func36 (fun c _ => LOk.nil c) kfd (by
  intro vs es r h; unfold kfd at h; split at h
  · cases h; kernel_rfl
  · cases h)

abbrev k12 := Int × List (Int × (Int × Int)) × List (Int × (Int × Int))

def k1y (y0 : Int) (y1 : List (Int × (Int × Int))) : Int × Int × Int :=
  Option.getD y1[Int.toNat y0]? ((0 : Int), (0 : Int), (0 : Int))

def k1z (y0 : Int) (y2 : List (Int × (Int × Int))) : Int × Int × Int :=
  Option.getD y2[Int.toNat y0]? ((0 : Int), (0 : Int), (0 : Int))

def k3k (y0 : Int) (y1 : List (Int × (Int × Int))) : Bool :=
  ltI y0 (↑(List.length y1) : Int)

def k3j (y0 : Int) : Bool :=
  leI (0 : Int) y0

def k4p (y0 : Int) (y1 : List (Int × (Int × Int))) : Bool :=
  ltN (Int.toNat y0) (List.length y1)

def k4u (y0 : Int) (y2 : List (Int × (Int × Int))) : Bool :=
  ltI y0 (↑(List.length y2) : Int)

def k4v (y0 : Int) (y2 : List (Int × (Int × Int))) : Bool :=
  ltN (Int.toNat y0) (List.length y2)

def k52 (y0 : Int) (y1 : List (Int × (Int × Int))) (y2 : List (Int × (Int × Int))) : Bool :=
  !k6x (Prod.fst (k1y y0 y1)) (Prod.fst (Prod.snd (k1y y0 y1)))
    (Prod.snd (Prod.snd (k1y y0 y1))) (Prod.fst (k1z y0 y2))
    (Prod.fst (Prod.snd (k1z y0 y2))) (Prod.snd (Prod.snd (k1z y0 y2)))

def k4t (y0 : Int) : Int :=
  IntKind.wrap IntKind.i64 (y0 + (1 : Int))

def kh2 : k12 → List (Nat × SV)
  | (y0, _, _) => [(5, (.one ⟨false, [(.val (.int IntKind.i64 y0))]⟩)), (0, (.one ⟨false, [(.ref 0)]⟩)), (1, (.one ⟨false, [(.ref 1)]⟩))]

def kgk : k12 → List (Nat × Entry)
  | (_, y1, y2) => [(0, (.row false 58 (CTy.pair (CTy.int IntKind.i64) (CTy.pair (CTy.int IntKind.i64) (CTy.int IntKind.i64))) y1)), (1, (.row false 58 (CTy.pair (CTy.int IntKind.i64) (CTy.pair (CTy.int IntKind.i64) (CTy.int IntKind.i64))) y2))]

def kgn : Nat → k12 → List (Nat × SV)
  | 0, (_, _, _) => [(4, (.one ⟨false, [(.val (.bool false))]⟩))]
  | _, (_, _, _) => []

def kgv : Nat → k12 → List (Nat × Entry)
  | 0, (_, y1, y2) => [(0, (.row false 58 (CTy.pair (CTy.int IntKind.i64) (CTy.pair (CTy.int IntKind.i64) (CTy.int IntKind.i64))) y1)), (1, (.row false 58 (CTy.pair (CTy.int IntKind.i64) (CTy.pair (CTy.int IntKind.i64) (CTy.int IntKind.i64))) y2))]
  | _, (_, y1, y2) => [(0, (.row false 58 (CTy.pair (CTy.int IntKind.i64) (CTy.pair (CTy.int IntKind.i64) (CTy.int IntKind.i64))) y1)), (1, (.row false 58 (CTy.pair (CTy.int IntKind.i64) (CTy.pair (CTy.int IntKind.i64) (CTy.int IntKind.i64))) y2))]

def k4b : k12 → LT k12
  | (y0, y1, y2) => .ite (k3k y0 y1) (.need [(k3j y0), (k3k y0 y1), (k4p y0 y1), (k3j y0), (k4u y0 y2), (k4v y0 y2)] (.ite (k52 y0 y1 y2) (.ext 0 [(0, 0), (1, 1)]) (.nrm ((k4t y0), y1, y2) [(0, 0), (1, 1)]))) (.ext 1 [(0, 0), (1, 1)])

def k9b (s : St) : Option k12 :=
  (match s.look 5 with
  | some ⟨none, (.one ⟨false, [(.val (.int IntKind.i64 y0))]⟩)⟩ =>
  (match s.look 0 with
  | some ⟨none, (.one ⟨false, [(.ref 0)]⟩)⟩ =>
  (match s.look 1 with
  | some ⟨none, (.one ⟨false, [(.ref 1)]⟩)⟩ =>
  (match s.ent 0 with
  | some (.row false 58 (CTy.pair (CTy.int IntKind.i64) (CTy.pair (CTy.int IntKind.i64) (CTy.int IntKind.i64))) y1) =>
  (match s.ent 1 with
  | some (.row false 58 (CTy.pair (CTy.int IntKind.i64) (CTy.pair (CTy.int IntKind.i64) (CTy.int IntKind.i64))) y2) =>
  some (y0, y1, y2)
  | _ => none)
  | _ => none)
  | _ => none)
  | _ => none)
  | _ => none)

def kd : Lp k12 where
  h := ⟨[11, 12, 13, 14, 17, 18, 19, 20, 21, 22, 23, 24, 25, 26, 4, 15, 16, 5], [0, 1], [], []⟩
  JL := kh2
  JE := kgk
  XL := kgn
  XE := kgv
  q := fun j => match j with | 0 => .ret | _ => .exit 0
  tags := [0, 1]
  lt := k4b
  fuel := fun (y0, y1, y2) => y0.natAbs + y1.length + y2.length
  fix := fun (_, y1, y2) (y0, _, _) => (y0, y1, y2)
  σ := [(0, 0), (1, 1)]
  rd := k9b

theorem kfj : LoopOk Try.prog (fun k => Nat.blt k Try.f17.ntmps) kd.F (loopAt Try.f17 0) := by
  refine Lp.ok (tbl := [kf7]) (lf := []) hmix kd (by kernel_rfl) (LOk.nil _) (fun _ => rfl) (fun j _ => by unfold kd; match j with | 0 => rfl | _ + 1 => rfl) ?_ ?_ ?_ ?_ (fun _ => rfl) ?_
  · intro x; obtain ⟨y0, y1, y2⟩ := x; kernel_rfl
  · intro x; obtain ⟨y0, y1, y2⟩ := x; kernel_rfl
  · intro s x h
    have h : k9b s = some x := h
    unfold k9b at h
    repeat' split at h
    all_goals cases h
    exact ⟨absS_cons (by assumption) rfl (absS_cons (by assumption) rfl (absS_cons (by assumption) rfl (rfl))), absE_cons rfl (by assumption) rfl (absE_cons rfl (by assumption) rfl (rfl))⟩
  · intro x; obtain ⟨y0, y1, y2⟩ := x; kernel_rfl
  · intro x z; obtain ⟨y0, y1, y2⟩ := x; exact (And.intro (And.intro trivial rfl) trivial)

def k84 (x0 : List (Int × Int × Int)) (x1 : List (Int × Int × Int)) : Bool :=
  (↑(List.length x0) : Int) != (↑(List.length x1) : Int)

def k8t (x0 : List (Int × Int × Int)) (x1 : List (Int × Int × Int)) : Int × List (Int × Int × Int) × List (Int × Int × Int) :=
  ((0 : Int), x0, x1)

def k95 (x0 : List (Int × Int × Int)) (x1 : List (Int × Int × Int)) : Bool :=
  bif k84 x0 x1 then false
  else bif Nat.beq (Prod.fst (Lp.res kd (k8t x0 x1))) (0 : Nat) then false else true

def k96 (x0 : List (Int × Int × Int)) (x1 : List (Int × Int × Int)) : Bool :=
  allT [k84 x0 x1 || Lp.fin kd (k8t x0 x1)]

def keb : List SV → List Entry → Option Out
  | [.one ⟨false, [.ref 0]⟩, .one ⟨false, [.ref 1]⟩], [.row false 58 (.pair (.int .i64) (.pair (.int .i64) (.int .i64))) x0, .row false 58 (.pair (.int .i64) (.pair (.int .i64) (.int .i64))) x1] => some ⟨(.one ⟨false, [(.val (.bool (k95 x0 x1)))]⟩), [(.row false 58 (CTy.pair (CTy.int IntKind.i64) (CTy.pair (CTy.int IntKind.i64) (CTy.int IntKind.i64))) x0), (.row false 58 (CTy.pair (CTy.int IntKind.i64) (CTy.pair (CTy.int IntKind.i64) (CTy.int IntKind.i64))) x1)], [], [(k96 x0 x1)]⟩
  | _, _ => none

def kiw : PF Try.prog := PF.ofG Try.prog [kf7] [kd.F] hmix 17 Try.f17 Try.func17 (LOk.fnT (l := [loopAt Try.f17 0]) (by kernel_rfl) (.cons kfj (.nil _))) keb (by
  intro vs es r h; unfold keb at h; split at h
  · cases h; kernel_rfl
  · cases h)

end Go.SX

namespace Go.SX
open Go.Proofs
set_option maxRecDepth 100000

def eqFls (xs ys : List (Int × Int × Int)) : Bool := decide (xs = ys)

def k3i (y1 : List (Int × (Int × Int))) (y2 : List (Int × (Int × Int))) (b : Nat) : (Unit) → Nat ⊕ (Unit)
  | _ => (bif ((!k6x (Prod.fst ((Option.getD y1[b]? ((0 : Int), (0 : Int), (0 : Int))))) (Prod.fst (Prod.snd ((Option.getD y1[b]? ((0 : Int), (0 : Int), (0 : Int)))))) (Prod.snd (Prod.snd ((Option.getD y1[b]? ((0 : Int), (0 : Int), (0 : Int)))))) (Prod.fst ((Option.getD y2[b]? ((0 : Int), (0 : Int), (0 : Int))))) (Prod.fst (Prod.snd ((Option.getD y2[b]? ((0 : Int), (0 : Int), (0 : Int)))))) (Prod.snd (Prod.snd ((Option.getD y2[b]? ((0 : Int), (0 : Int), (0 : Int)))))))) then (.inl 0) else (.inr ()))

def k21 (y1 : List (Int × (Int × Int))) (y2 : List (Int × (Int × Int))) (i : Nat) : (Unit) → k12
  | _ => ((i : Int), y1, y2)

def k9f : k12 → Unit
  | (_, _, _) => ()

theorem kh8 (y1 : List (Int × (Int × Int))) (y2 : List (Int × (Int × Int)))  (hn : y1.length ≤ 9223372036854775807) (he : y2.length = y1.length) :
    kd.fin ((0 : Int), y1, y2) = true ∧ kd.res ((0 : Int), y1, y2) = ((walkL (k3i y1 y2) 1 (List.range y1.length) 0 ()).1, (k21 y1 y2) (walkL (k3i y1 y2) 1 (List.range y1.length) 0 ()).2.1 (walkL (k3i y1 y2) 1 (List.range y1.length) 0 ()).2.2) := by
  have key := kd.along (k21 y1 y2) k9f (k3i y1 y2) 1 (fun _ _ => True) (List.range y1.length) () (by trivial) (by simp only [kd, k21, List.length_range]; omega) (fun i b a hb hI => ?_) (fun a hI => ?_)
  · exact key
  · obtain ⟨⟩ := a
    obtain ⟨rfl, hlt⟩ := range_get hb
    have hw : IntKind.i64.wrap ((b : Int) + 1) = ((b + 1 : Nat) : Int) := by rw [wrap_i64 (by omega) (by omega)]; omega
    have hdec : ltI (b : Int) (y1.length : Int) = true := ltI_t (by omega)
    have hnn : leI (0 : Int) (b : Int) = true := leI_t (by omega)
    have hltd : ltN b y1.length = true := ltN_t (by omega)
    refine ⟨?_, ?_, ?_, ?_⟩
    · simp [k1y, k1z, k3k, k3j, k4p, k4u, k4v, k52, k4t, k4b, kd, LT.nds, allT, k21, hdec, hnn, hltd, he]
    · simp [k1y, k1z, k3k, k3j, k4p, k4u, k4v, k52, k4t, k4b, kd, LT.each, k21, k9f, hw, he]
    · simp only [k1y, k1z, k3k, k3j, k4p, k4u, k4v, k52, k4t, k4b, kd, LT.fn, k21, k9f, k3i, Int.toNat_natCast, hdec, cond_true]
    · exact fun _ _ => trivial
  · obtain ⟨⟩ := a
    simp [k1y, k1z, k3k, k3j, k4p, k4u, k4v, k52, k4t, k4b, kd, LT.out, k21, List.length_range]

theorem kne (xs ys : List (Int × Int × Int)) (hn : leN xs.length 9223372036854775807 = true) : k95 xs ys = eqFls xs ys ∧ k96 xs ys = true := by
  have hn := leN_iff.1 hn
  unfold eqFls
  have h3 : ∀ a b : Int × Int × Int, (!k6x a.1 a.2.1 a.2.2 b.1 b.2.1 b.2.2) = !decide (a = b) := fun a b => by
    obtain ⟨a1, a2, a3⟩ := a; obtain ⟨b1, b2, b3⟩ := b
    simp only [k6x, Prod.mk.injEq]
    by_cases h1 : a1 = b1 <;> by_cases h2 : a2 = b2 <;> by_cases h3 : a3 = b3 <;> simp [h1, h2, h3]
  by_cases hl : ys.length = xs.length
  · obtain ⟨w1, w2⟩ := kh8 xs ys hn hl
    have ha := any_ne (d := ((0 : Int), (0 : Int), (0 : Int))) hl (P := fun b => !decide (Option.getD xs[b]? (0, 0, 0) = Option.getD ys[b]? (0, 0, 0))) (fun b => rfl)
    rw [walk_stop (P := fun b => !decide (Option.getD xs[b]? (0, 0, 0) = Option.getD ys[b]? (0, 0, 0))) (j := 0) (fun b => by simp only [k3i, h3]), ha] at w2
    simp only [k84, k8t, k95, k96, w1, w2, allT]
    by_cases he : xs = ys
    · subst he; simp; decide
    · simp [he, hl]
  · have hne : xs ≠ ys := fun h => hl (by rw [h])
    simp [k84, k8t, k95, k96, allT, hne]
    omega

def kee : List SV → List Entry → Option Out
  | [.one ⟨false, [.ref 0]⟩, .one ⟨false, [.ref 1]⟩], [.row false 58 (.pair (.int .i64) (.pair (.int .i64) (.int .i64))) x0, .row false 58 (.pair (.int .i64) (.pair (.int .i64) (.int .i64))) x1] => some ⟨(.one ⟨false, [(.val (.bool (eqFls x0 x1)))]⟩), [(.row false 58 (CTy.pair (CTy.int IntKind.i64) (CTy.pair (CTy.int IntKind.i64) (CTy.int IntKind.i64))) x0), (.row false 58 (CTy.pair (CTy.int IntKind.i64) (CTy.pair (CTy.int IntKind.i64) (CTy.int IntKind.i64))) x1)], [], [leN x0.length 9223372036854775807]⟩
  | _, _ => none

def kbj : PF Try.prog := PF.alt kiw kee (by
  intro args es o h hnd; unfold kee at h; split at h
  · rename_i x0 x1
    cases h
    have hnd := nd_fst hnd
    have hh := kne x0 x1 hnd
    obtain ⟨e0, en⟩ := hh
    exact altok rfl (nd_one en) (by simp only [e0] <;> rfl) rfl rfl
  · cases h)

end Go.SX

namespace Go.SX
open Go.Proofs
set_option maxRecDepth 100000

def khh (x0 : Int) : Bool :=
  kft x0 (1 : Int) (12 : Int)

def kho : List SV → List Entry → Option Out
  | [.one ⟨false, [.val (.int .i64 x0)]⟩], [] => some ⟨(.one ⟨false, [(.val (.bool (khh x0)))]⟩), [], [], []⟩
  | _, _ => none

def khi : PF Try.prog := PF.ofG Try.prog [kfx] [] hmix 14 Try.f14 Try.func14 (fun c _ => LOk.nil c) kho (by
  intro vs es r h; unfold kho at h; split at h
  · cases h; kernel_rfl
  · cases h)

abbrev k22 := Int × List (List Int) × List (List Int)

def k4a (y0 : Int) (y1 : List (List Int)) : List Int :=
  Option.getD y1[Int.toNat y0]? (dflt (CTy.sl (2 : Nat) (CTy.int IntKind.i64)))

def k62 (y0 : Int) (y1 : List (List Int)) : Bool :=
  ltI y0 (↑(List.length y1) : Int)

def k67 (y0 : Int) : Bool :=
  leI (0 : Int) y0

def k7w (y0 : Int) (y1 : List (List Int)) : Bool :=
  ltN (Int.toNat y0) (List.length y1)

def k8n (y0 : Int) (y2 : List (List Int)) : Bool :=
  ltI y0 (↑(List.length y2) : Int)

def k8r (y0 : Int) (y2 : List (List Int)) : Bool :=
  ltN (Int.toNat y0) (List.length y2)

def k88 (y0 : Int) (y1 : List (List Int)) : Bool :=
  leN (List.length (k4a y0 y1)) (9223372036854775807 : Nat)

def kb8 (y0 : Int) (y1 : List (List Int)) (y2 : List (List Int)) : Bool :=
  !eqL (k4a y0 y1) (Option.getD y2[Int.toNat y0]? (dflt (CTy.sl (2 : Nat) (CTy.int IntKind.i64))))

def kba (y0 : Int) : Int :=
  IntKind.wrap IntKind.i64 (y0 + (1 : Int))

def kkb : k22 → List (Nat × SV)
  | (y0, _, _) => [(5, (.one ⟨false, [(.val (.int IntKind.i64 y0))]⟩)), (0, (.one ⟨false, [(.ref 0)]⟩)), (1, (.one ⟨false, [(.ref 1)]⟩))]

def kk2 : k22 → List (Nat × Entry)
  | (_, y1, y2) => [(0, (.row false 22 (CTy.sl (2 : Nat) (CTy.int IntKind.i64)) y1)), (1, (.row false 22 (CTy.sl (2 : Nat) (CTy.int IntKind.i64)) y2))]

def kjz : Nat → k22 → List (Nat × SV)
  | 0, (_, _, _) => [(4, (.one ⟨false, [(.val (.bool false))]⟩))]
  | _, (_, _, _) => []

def kkd : Nat → k22 → List (Nat × Entry)
  | 0, (_, y1, y2) => [(0, (.row false 22 (CTy.sl (2 : Nat) (CTy.int IntKind.i64)) y1)), (1, (.row false 22 (CTy.sl (2 : Nat) (CTy.int IntKind.i64)) y2))]
  | _, (_, y1, y2) => [(0, (.row false 22 (CTy.sl (2 : Nat) (CTy.int IntKind.i64)) y1)), (1, (.row false 22 (CTy.sl (2 : Nat) (CTy.int IntKind.i64)) y2))]

def k7c : k22 → LT k22
  | (y0, y1, y2) => .ite (k62 y0 y1) (.need [(k67 y0), (k62 y0 y1), (k7w y0 y1), (k67 y0), (k8n y0 y2), (k8r y0 y2), (k88 y0 y1)] (.ite (kb8 y0 y1 y2) (.ext 0 [(0, 0), (1, 1)]) (.nrm ((kba y0), y1, y2) [(0, 0), (1, 1)]))) (.ext 1 [(0, 0), (1, 1)])

def kck (s : St) : Option k22 :=
  (match s.look 5 with
  | some ⟨none, (.one ⟨false, [(.val (.int IntKind.i64 y0))]⟩)⟩ =>
  (match s.look 0 with
  | some ⟨none, (.one ⟨false, [(.ref 0)]⟩)⟩ =>
  (match s.look 1 with
  | some ⟨none, (.one ⟨false, [(.ref 1)]⟩)⟩ =>
  (match s.ent 0 with
  | some (.row false 22 (CTy.sl (2 : Nat) (CTy.int IntKind.i64)) y1) =>
  (match s.ent 1 with
  | some (.row false 22 (CTy.sl (2 : Nat) (CTy.int IntKind.i64)) y2) =>
  some (y0, y1, y2)
  | _ => none)
  | _ => none)
  | _ => none)
  | _ => none)
  | _ => none)

def kt : Lp k22 where
  h := ⟨[11, 12, 13, 14, 17, 18, 19, 20, 21, 22, 23, 24, 25, 26, 4, 15, 16, 5], [0, 1], [], []⟩
  JL := kkb
  JE := kk2
  XL := kjz
  XE := kkd
  q := fun j => match j with | 0 => .ret | _ => .exit 0
  tags := [0, 1]
  lt := k7c
  fuel := fun (y0, y1, y2) => y0.natAbs + y1.length + y2.length
  fix := fun (_, y1, y2) (y0, _, _) => (y0, y1, y2)
  σ := [(0, 0), (1, 1)]
  rd := kck

theorem kic : LoopOk Try.prog (fun k => Nat.blt k Try.f18.ntmps) kt.F (loopAt Try.f18 0) := by
  refine Lp.ok (tbl := [k5r, PF.lend k5r, PF.fz k5r]) (lf := []) hmix kt (by kernel_rfl) (LOk.nil _) (fun _ => rfl) (fun j _ => by unfold kt; match j with | 0 => rfl | _ + 1 => rfl) ?_ ?_ ?_ ?_ (fun _ => rfl) ?_
  · intro x; obtain ⟨y0, y1, y2⟩ := x; kernel_rfl
  · intro x; obtain ⟨y0, y1, y2⟩ := x; kernel_rfl
  · intro s x h
    have h : kck s = some x := h
    unfold kck at h
    repeat' split at h
    all_goals cases h
    exact ⟨absS_cons (by assumption) rfl (absS_cons (by assumption) rfl (absS_cons (by assumption) rfl (rfl))), absE_cons rfl (by assumption) rfl (absE_cons rfl (by assumption) rfl (rfl))⟩
  · intro x; obtain ⟨y0, y1, y2⟩ := x; kernel_rfl
  · intro x z; obtain ⟨y0, y1, y2⟩ := x; exact (And.intro (And.intro trivial rfl) trivial)

def kc9 (x0 : List (List Int)) (x1 : List (List Int)) : Bool :=
  (↑(List.length x0) : Int) != (↑(List.length x1) : Int)

def ke8 (x0 : List (List Int)) (x1 : List (List Int)) : Int × List (List Int) × List (List Int) :=
  ((0 : Int), x0, x1)

def kcr (x0 : List (List Int)) (x1 : List (List Int)) : Bool :=
  bif kc9 x0 x1 then false
  else bif Nat.beq (Prod.fst (Lp.res kt (ke8 x0 x1))) (0 : Nat) then false else true

def kcz (x0 : List (List Int)) (x1 : List (List Int)) : Bool :=
  allT [kc9 x0 x1 || Lp.fin kt (ke8 x0 x1)]

def ki6 : List SV → List Entry → Option Out
  | [.one ⟨false, [.ref 0]⟩, .one ⟨false, [.ref 1]⟩], [.row false 22 (.sl 2 (.int .i64)) x0, .row false 22 (.sl 2 (.int .i64)) x1] => some ⟨(.one ⟨false, [(.val (.bool (kcr x0 x1)))]⟩), [(.row false 22 (CTy.sl (2 : TypeId) (CTy.int IntKind.i64)) x0), (.row false 22 (CTy.sl (2 : TypeId) (CTy.int IntKind.i64)) x1)], [], [(kcz x0 x1)]⟩
  | _, _ => none

def kml : PF Try.prog := PF.ofG Try.prog [k5r, PF.lend k5r, PF.fz k5r] [kt.F] hmix 18 Try.f18 Try.func18 (LOk.fnT (l := [loopAt Try.f18 0]) (by kernel_rfl) (.cons kic (.nil _))) ki6 (by
  intro vs es r h; unfold ki6 at h; split at h
  · cases h; kernel_rfl
  · cases h)

def k9a (x0 : Int) (x1 : Int) (x2 : Int) (x3 : Int) (x4 : Int) (x5 : Int) : Bool :=
  bif x0 != x3 then false else bif x1 != x4 then false else bif x2 != x5 then false else true

def kh3 : List SV → List Entry → Option Out
  | [.one ⟨true, [.val (.int .i64 x0), .val (.int .i64 x1), .val (.int .i64 x2)]⟩, .one ⟨true, [.val (.int .i64 x3), .val (.int .i64 x4), .val (.int .i64 x5)]⟩], [] => some ⟨(.one ⟨false, [(.val (.bool (k9a x0 x1 x2 x3 x4 x5)))]⟩), [], [], []⟩
  | _, _ => none

def kgq : PF Try.prog := PF.ofG Try.prog [] [] hmix 37 Try.f37 Try.func37 (fun c _ => LOk.nil c) kh3 (by
  intro vs es r h; unfold kh3 at h; split at h
  · cases h; kernel_rfl
  · cases h)

abbrev k19 := Int × List (Int × (Int × Int)) × List (Int × (Int × Int))

def k2s (y0 : Int) (y1 : List (Int × (Int × Int))) : Int × Int × Int :=
  Option.getD y1[Int.toNat y0]? ((0 : Int), (0 : Int), (0 : Int))

def k2u (y0 : Int) (y2 : List (Int × (Int × Int))) : Int × Int × Int :=
  Option.getD y2[Int.toNat y0]? ((0 : Int), (0 : Int), (0 : Int))

def k4e (y0 : Int) (y1 : List (Int × (Int × Int))) : Bool :=
  ltI y0 (↑(List.length y1) : Int)

def k4h (y0 : Int) : Bool :=
  leI (0 : Int) y0

def k5t (y0 : Int) (y1 : List (Int × (Int × Int))) : Bool :=
  ltN (Int.toNat y0) (List.length y1)

def k60 (y0 : Int) (y2 : List (Int × (Int × Int))) : Bool :=
  ltI y0 (↑(List.length y2) : Int)

def k5x (y0 : Int) (y2 : List (Int × (Int × Int))) : Bool :=
  ltN (Int.toNat y0) (List.length y2)

def k5u (y0 : Int) (y1 : List (Int × (Int × Int))) (y2 : List (Int × (Int × Int))) : Bool :=
  !k9a (Prod.fst (k2s y0 y1)) (Prod.fst (Prod.snd (k2s y0 y1)))
    (Prod.snd (Prod.snd (k2s y0 y1))) (Prod.fst (k2u y0 y2))
    (Prod.fst (Prod.snd (k2u y0 y2))) (Prod.snd (Prod.snd (k2u y0 y2)))

def k5y (y0 : Int) : Int :=
  IntKind.wrap IntKind.i64 (y0 + (1 : Int))

def kht : k19 → List (Nat × SV)
  | (y0, _, _) => [(5, (.one ⟨false, [(.val (.int IntKind.i64 y0))]⟩)), (0, (.one ⟨false, [(.ref 0)]⟩)), (1, (.one ⟨false, [(.ref 1)]⟩))]

def khy : k19 → List (Nat × Entry)
  | (_, y1, y2) => [(0, (.row false 61 (CTy.pair (CTy.int IntKind.i64) (CTy.pair (CTy.int IntKind.i64) (CTy.int IntKind.i64))) y1)), (1, (.row false 61 (CTy.pair (CTy.int IntKind.i64) (CTy.pair (CTy.int IntKind.i64) (CTy.int IntKind.i64))) y2))]

def khs : Nat → k19 → List (Nat × SV)
  | 0, (_, _, _) => [(4, (.one ⟨false, [(.val (.bool false))]⟩))]
  | _, (_, _, _) => []

def khv : Nat → k19 → List (Nat × Entry)
  | 0, (_, y1, y2) => [(0, (.row false 61 (CTy.pair (CTy.int IntKind.i64) (CTy.pair (CTy.int IntKind.i64) (CTy.int IntKind.i64))) y1)), (1, (.row false 61 (CTy.pair (CTy.int IntKind.i64) (CTy.pair (CTy.int IntKind.i64) (CTy.int IntKind.i64))) y2))]
  | _, (_, y1, y2) => [(0, (.row false 61 (CTy.pair (CTy.int IntKind.i64) (CTy.pair (CTy.int IntKind.i64) (CTy.int IntKind.i64))) y1)), (1, (.row false 61 (CTy.pair (CTy.int IntKind.i64) (CTy.pair (CTy.int IntKind.i64) (CTy.int IntKind.i64))) y2))]

def k5b : k19 → LT k19
  | (y0, y1, y2) => .ite (k4e y0 y1) (.need [(k4h y0), (k4e y0 y1), (k5t y0 y1), (k4h y0), (k60 y0 y2), (k5x y0 y2)] (.ite (k5u y0 y1 y2) (.ext 0 [(0, 0), (1, 1)]) (.nrm ((k5y y0), y1, y2) [(0, 0), (1, 1)]))) (.ext 1 [(0, 0), (1, 1)])

def kb0 (s : St) : Option k19 :=
  (match s.look 5 with
  | some ⟨none, (.one ⟨false, [(.val (.int IntKind.i64 y0))]⟩)⟩ =>
  (match s.look 0 with
  | some ⟨none, (.one ⟨false, [(.ref 0)]⟩)⟩ =>
  (match s.look 1 with
  | some ⟨none, (.one ⟨false, [(.ref 1)]⟩)⟩ =>
  (match s.ent 0 with
  | some (.row false 61 (CTy.pair (CTy.int IntKind.i64) (CTy.pair (CTy.int IntKind.i64) (CTy.int IntKind.i64))) y1) =>
  (match s.ent 1 with
  | some (.row false 61 (CTy.pair (CTy.int IntKind.i64) (CTy.pair (CTy.int IntKind.i64) (CTy.int IntKind.i64))) y2) =>
  some (y0, y1, y2)
  | _ => none)
  | _ => none)
  | _ => none)
  | _ => none)
  | _ => none)

def kh : Lp k19 where
  h := ⟨[11, 12, 13, 14, 17, 18, 19, 20, 21, 22, 23, 24, 25, 26, 4, 15, 16, 5], [0, 1], [], []⟩
  JL := kht
  JE := khy
  XL := khs
  XE := khv
  q := fun j => match j with | 0 => .ret | _ => .exit 0
  tags := [0, 1]
  lt := k5b
  fuel := fun (y0, y1, y2) => y0.natAbs + y1.length + y2.length
  fix := fun (_, y1, y2) (y0, _, _) => (y0, y1, y2)
  σ := [(0, 0), (1, 1)]
  rd := kb0

theorem kgw : LoopOk Try.prog (fun k => Nat.blt k Try.f19.ntmps) kh.F (loopAt Try.f19 0) := by
  refine Lp.ok (tbl := [kgq]) (lf := []) hmix kh (by kernel_rfl) (LOk.nil _) (fun _ => rfl) (fun j _ => by unfold kh; match j with | 0 => rfl | _ + 1 => rfl) ?_ ?_ ?_ ?_ (fun _ => rfl) ?_
  · intro x; obtain ⟨y0, y1, y2⟩ := x; kernel_rfl
  · intro x; obtain ⟨y0, y1, y2⟩ := x; kernel_rfl
  · intro s x h
    have h : kb0 s = some x := h
    unfold kb0 at h
    repeat' split at h
    all_goals cases h
    exact ⟨absS_cons (by assumption) rfl (absS_cons (by assumption) rfl (absS_cons (by assumption) rfl (rfl))), absE_cons rfl (by assumption) rfl (absE_cons rfl (by assumption) rfl (rfl))⟩
  · intro x; obtain ⟨y0, y1, y2⟩ := x; kernel_rfl
  · intro x z; obtain ⟨y0, y1, y2⟩ := x; exact (And.intro (And.intro trivial rfl) trivial)

def ka0 (x0 : List (Int × Int × Int)) (x1 : List (Int × Int × Int)) : Bool :=
  (↑(List.length x0) : Int) != (↑(List.length x1) : Int)

def ka1 (x0 : List (Int × Int × Int)) (x1 : List (Int × Int × Int)) : Int × List (Int × Int × Int) × List (Int × Int × Int) :=
  ((0 : Int), x0, x1)

def kb6 (x0 : List (Int × Int × Int)) (x1 : List (Int × Int × Int)) : Bool :=
  bif ka0 x0 x1 then false
  else bif Nat.beq (Prod.fst (Lp.res kh (ka1 x0 x1))) (0 : Nat) then false else true

def kb9 (x0 : List (Int × Int × Int)) (x1 : List (Int × Int × Int)) : Bool :=
  allT [ka0 x0 x1 || Lp.fin kh (ka1 x0 x1)]

def kg1 : List SV → List Entry → Option Out
  | [.one ⟨false, [.ref 0]⟩, .one ⟨false, [.ref 1]⟩], [.row false 61 (.pair (.int .i64) (.pair (.int .i64) (.int .i64))) x0, .row false 61 (.pair (.int .i64) (.pair (.int .i64) (.int .i64))) x1] => some ⟨(.one ⟨false, [(.val (.bool (kb6 x0 x1)))]⟩), [(.row false 61 (CTy.pair (CTy.int IntKind.i64) (CTy.pair (CTy.int IntKind.i64) (CTy.int IntKind.i64))) x0), (.row false 61 (CTy.pair (CTy.int IntKind.i64) (CTy.pair (CTy.int IntKind.i64) (CTy.int IntKind.i64))) x1)], [], [(kb9 x0 x1)]⟩
  | _, _ => none

def kkn : PF Try.prog := PF.ofG Try.prog [kgq] [kh.F] hmix 19 Try.f19 Try.func19 (LOk.fnT (l := [loopAt Try.f19 0]) (by kernel_rfl) (.cons kgw (.nil _))) kg1 (by
  intro vs es r h; unfold kg1 at h; split at h
  · cases h; kernel_rfl
  · cases h)

def kdz (x0 : Int) (x1 : Int) (x2 : Int) (x3 : Int) : Bool :=
  bif x0 != x2 then false else bif x1 != x3 then false else true

def klr : List SV → List Entry → Option Out
  | [.one ⟨true, [.val (.int .i64 x0), .val (.int .i64 x1)]⟩, .one ⟨true, [.val (.int .i64 x2), .val (.int .i64 x3)]⟩], [] => some ⟨(.one ⟨false, [(.val (.bool (kdz x0 x1 x2 x3)))]⟩), [], [], []⟩
  | _, _ => none

def klp : PF Try.prog := PF.ofG Try.prog [] [] hmix 38 Try.f38 Try.func38 (fun c _ => LOk.nil c) klr (by
  intro vs es r h; unfold klr at h; split at h
  · cases h; kernel_rfl
  · cases h)

abbrev k38 := Int × List (Int × Int) × List (Int × Int)

def k6v (y0 : Int) (y1 : List (Int × Int)) : Int × Int :=
  Option.getD y1[Int.toNat y0]? ((0 : Int), (0 : Int))

def k6u (y0 : Int) (y2 : List (Int × Int)) : Int × Int :=
  Option.getD y2[Int.toNat y0]? ((0 : Int), (0 : Int))

def k7l (y0 : Int) (y1 : List (Int × Int)) : Bool :=
  ltI y0 (↑(List.length y1) : Int)

def k7m (y0 : Int) : Bool :=
  leI (0 : Int) y0

def kao (y0 : Int) (y1 : List (Int × Int)) : Bool :=
  ltN (Int.toNat y0) (List.length y1)

def kab (y0 : Int) (y2 : List (Int × Int)) : Bool :=
  ltI y0 (↑(List.length y2) : Int)

def kat (y0 : Int) (y2 : List (Int × Int)) : Bool :=
  ltN (Int.toNat y0) (List.length y2)

def kaw (y0 : Int) (y1 : List (Int × Int)) (y2 : List (Int × Int)) : Bool :=
  !kdz (Prod.fst (k6v y0 y1)) (Prod.snd (k6v y0 y1)) (Prod.fst (k6u y0 y2))
    (Prod.snd (k6u y0 y2))

def ka3 (y0 : Int) : Int :=
  IntKind.wrap IntKind.i64 (y0 + (1 : Int))

def kl6 : k38 → List (Nat × SV)
  | (y0, _, _) => [(5, (.one ⟨false, [(.val (.int IntKind.i64 y0))]⟩)), (0, (.one ⟨false, [(.ref 0)]⟩)), (1, (.one ⟨false, [(.ref 1)]⟩))]

def klg : k38 → List (Nat × Entry)
  | (_, y1, y2) => [(0, (.row false 64 (CTy.pair (CTy.int IntKind.i64) (CTy.int IntKind.i64)) y1)), (1, (.row false 64 (CTy.pair (CTy.int IntKind.i64) (CTy.int IntKind.i64)) y2))]

def klh : Nat → k38 → List (Nat × SV)
  | 0, (_, _, _) => [(4, (.one ⟨false, [(.val (.bool false))]⟩))]
  | _, (_, _, _) => []

def klm : Nat → k38 → List (Nat × Entry)
  | 0, (_, y1, y2) => [(0, (.row false 64 (CTy.pair (CTy.int IntKind.i64) (CTy.int IntKind.i64)) y1)), (1, (.row false 64 (CTy.pair (CTy.int IntKind.i64) (CTy.int IntKind.i64)) y2))]
  | _, (_, y1, y2) => [(0, (.row false 64 (CTy.pair (CTy.int IntKind.i64) (CTy.int IntKind.i64)) y1)), (1, (.row false 64 (CTy.pair (CTy.int IntKind.i64) (CTy.int IntKind.i64)) y2))]

def k9s : k38 → LT k38
  | (y0, y1, y2) => .ite (k7l y0 y1) (.need [(k7m y0), (k7l y0 y1), (kao y0 y1), (k7m y0), (kab y0 y2), (kat y0 y2)] (.ite (kaw y0 y1 y2) (.ext 0 [(0, 0), (1, 1)]) (.nrm ((ka3 y0), y1, y2) [(0, 0), (1, 1)]))) (.ext 1 [(0, 0), (1, 1)])

def kdi (s : St) : Option k38 :=
  (match s.look 5 with
  | some ⟨none, (.one ⟨false, [(.val (.int IntKind.i64 y0))]⟩)⟩ =>
  (match s.look 0 with
  | some ⟨none, (.one ⟨false, [(.ref 0)]⟩)⟩ =>
  (match s.look 1 with
  | some ⟨none, (.one ⟨false, [(.ref 1)]⟩)⟩ =>
  (match s.ent 0 with
  | some (.row false 64 (CTy.pair (CTy.int IntKind.i64) (CTy.int IntKind.i64)) y1) =>
  (match s.ent 1 with
  | some (.row false 64 (CTy.pair (CTy.int IntKind.i64) (CTy.int IntKind.i64)) y2) =>
  some (y0, y1, y2)
  | _ => none)
  | _ => none)
  | _ => none)
  | _ => none)
  | _ => none)

def k13 : Lp k38 where
  h := ⟨[11, 12, 13, 14, 17, 18, 19, 20, 21, 22, 23, 24, 25, 26, 4, 15, 16, 5], [0, 1], [], []⟩
  JL := kl6
  JE := klg
  XL := klh
  XE := klm
  q := fun j => match j with | 0 => .ret | _ => .exit 0
  tags := [0, 1]
  lt := k9s
  fuel := fun (y0, y1, y2) => y0.natAbs + y1.length + y2.length
  fix := fun (_, y1, y2) (y0, _, _) => (y0, y1, y2)
  σ := [(0, 0), (1, 1)]
  rd := kdi

theorem kjy : LoopOk Try.prog (fun k => Nat.blt k Try.f20.ntmps) k13.F (loopAt Try.f20 0) := by
  refine Lp.ok (tbl := [klp]) (lf := []) hmix k13 (by kernel_rfl) (LOk.nil _) (fun _ => rfl) (fun j _ => by unfold k13; match j with | 0 => rfl | _ + 1 => rfl) ?_ ?_ ?_ ?_ (fun _ => rfl) ?_
  · intro x; obtain ⟨y0, y1, y2⟩ := x; kernel_rfl
  · intro x; obtain ⟨y0, y1, y2⟩ := x; kernel_rfl
  · intro s x h
    have h : kdi s = some x := h
    unfold kdi at h
    repeat' split at h
    all_goals cases h
    exact ⟨absS_cons (by assumption) rfl (absS_cons (by assumption) rfl (absS_cons (by assumption) rfl (rfl))), absE_cons rfl (by assumption) rfl (absE_cons rfl (by assumption) rfl (rfl))⟩
  · intro x; obtain ⟨y0, y1, y2⟩ := x; kernel_rfl
  · intro x z; obtain ⟨y0, y1, y2⟩ := x; exact (And.intro (And.intro trivial rfl) trivial)

def kdt (x0 : List (Int × Int)) (x1 : List (Int × Int)) : Bool :=
  (↑(List.length x0) : Int) != (↑(List.length x1) : Int)

def kdq (x0 : List (Int × Int)) (x1 : List (Int × Int)) : Int × List (Int × Int) × List (Int × Int) :=
  ((0 : Int), x0, x1)

def kej (x0 : List (Int × Int)) (x1 : List (Int × Int)) : Bool :=
  bif kdt x0 x1 then false else bif Nat.beq (Prod.fst (Lp.res k13 (kdq x0 x1))) (0 : Nat) then false else true

def ker (x0 : List (Int × Int)) (x1 : List (Int × Int)) : Bool :=
  allT [kdt x0 x1 || Lp.fin k13 (kdq x0 x1)]

def kkk : List SV → List Entry → Option Out
  | [.one ⟨false, [.ref 0]⟩, .one ⟨false, [.ref 1]⟩], [.row false 64 (.pair (.int .i64) (.int .i64)) x0, .row false 64 (.pair (.int .i64) (.int .i64)) x1] => some ⟨(.one ⟨false, [(.val (.bool (kej x0 x1)))]⟩), [(.row false 64 (CTy.pair (CTy.int IntKind.i64) (CTy.int IntKind.i64)) x0), (.row false 64 (CTy.pair (CTy.int IntKind.i64) (CTy.int IntKind.i64)) x1)], [], [(ker x0 x1)]⟩
  | _, _ => none

def kmt : PF Try.prog := PF.ofG Try.prog [klp] [k13.F] hmix 20 Try.f20 Try.func20 (LOk.fnT (l := [loopAt Try.f20 0]) (by kernel_rfl) (.cons kjy (.nil _))) kkk (by
  intro vs es r h; unfold kkk at h; split at h
  · cases h; kernel_rfl
  · cases h)

def ke2 (x0 : Int) (x1 : Int) (x2 : Int) (x3 : Int) : Bool :=
  bif x0 != x2 then false else bif x1 != x3 then false else true

def kls : List SV → List Entry → Option Out
  | [.one ⟨true, [.val (.int .i64 x0), .val (.int .i64 x1)]⟩, .one ⟨true, [.val (.int .i64 x2), .val (.int .i64 x3)]⟩], [] => some ⟨(.one ⟨false, [(.val (.bool (ke2 x0 x1 x2 x3)))]⟩), [], [], []⟩
  | _, _ => none

def klu : PF Try.prog := PF.ofG Try.prog [] [] hmix 39 Try.f39 Try.func39 (fun c _ => LOk.nil c) kls (by
  intro vs es r h; unfold kls at h; split at h
  · cases h; kernel_rfl
  · cases h)

abbrev k3a := Int × List (Int × Int) × List (Int × Int)

def k6t (y0 : Int) (y1 : List (Int × Int)) : Int × Int :=
  Option.getD y1[Int.toNat y0]? ((0 : Int), (0 : Int))

def k6r (y0 : Int) (y2 : List (Int × Int)) : Int × Int :=
  Option.getD y2[Int.toNat y0]? ((0 : Int), (0 : Int))

def k7p (y0 : Int) (y1 : List (Int × Int)) : Bool :=
  ltI y0 (↑(List.length y1) : Int)

def k7k (y0 : Int) : Bool :=
  leI (0 : Int) y0

def kaf (y0 : Int) (y1 : List (Int × Int)) : Bool :=
  ltN (Int.toNat y0) (List.length y1)

def ka5 (y0 : Int) (y2 : List (Int × Int)) : Bool :=
  ltI y0 (↑(List.length y2) : Int)

def kam (y0 : Int) (y2 : List (Int × Int)) : Bool :=
  ltN (Int.toNat y0) (List.length y2)

def kas (y0 : Int) (y1 : List (Int × Int)) (y2 : List (Int × Int)) : Bool :=
  !ke2 (Prod.fst (k6t y0 y1)) (Prod.snd (k6t y0 y1)) (Prod.fst (k6r y0 y2))
    (Prod.snd (k6r y0 y2))

def ka7 (y0 : Int) : Int :=
  IntKind.wrap IntKind.i64 (y0 + (1 : Int))

def klc : k3a → List (Nat × SV)
  | (y0, _, _) => [(5, (.one ⟨false, [(.val (.int IntKind.i64 y0))]⟩)), (0, (.one ⟨false, [(.ref 0)]⟩)), (1, (.one ⟨false, [(.ref 1)]⟩))]

def kkw : k3a → List (Nat × Entry)
  | (_, y1, y2) => [(0, (.row false 67 (CTy.pair (CTy.int IntKind.i64) (CTy.int IntKind.i64)) y1)), (1, (.row false 67 (CTy.pair (CTy.int IntKind.i64) (CTy.int IntKind.i64)) y2))]

def kky : Nat → k3a → List (Nat × SV)
  | 0, (_, _, _) => [(4, (.one ⟨false, [(.val (.bool false))]⟩))]
  | _, (_, _, _) => []

def kla : Nat → k3a → List (Nat × Entry)
  | 0, (_, y1, y2) => [(0, (.row false 67 (CTy.pair (CTy.int IntKind.i64) (CTy.int IntKind.i64)) y1)), (1, (.row false 67 (CTy.pair (CTy.int IntKind.i64) (CTy.int IntKind.i64)) y2))]
  | _, (_, y1, y2) => [(0, (.row false 67 (CTy.pair (CTy.int IntKind.i64) (CTy.int IntKind.i64)) y1)), (1, (.row false 67 (CTy.pair (CTy.int IntKind.i64) (CTy.int IntKind.i64)) y2))]

def k9x : k3a → LT k3a
  | (y0, y1, y2) => .ite (k7p y0 y1) (.need [(k7k y0), (k7p y0 y1), (kaf y0 y1), (k7k y0), (ka5 y0 y2), (kam y0 y2)] (.ite (kas y0 y1 y2) (.ext 0 [(0, 0), (1, 1)]) (.nrm ((ka7 y0), y1, y2) [(0, 0), (1, 1)]))) (.ext 1 [(0, 0), (1, 1)])

def kd8 (s : St) : Option k3a :=
  (match s.look 5 with
  | some ⟨none, (.one ⟨false, [(.val (.int IntKind.i64 y0))]⟩)⟩ =>
  (match s.look 0 with
  | some ⟨none, (.one ⟨false, [(.ref 0)]⟩)⟩ =>
  (match s.look 1 with
  | some ⟨none, (.one ⟨false, [(.ref 1)]⟩)⟩ =>
  (match s.ent 0 with
  | some (.row false 67 (CTy.pair (CTy.int IntKind.i64) (CTy.int IntKind.i64)) y1) =>
  (match s.ent 1 with
  | some (.row false 67 (CTy.pair (CTy.int IntKind.i64) (CTy.int IntKind.i64)) y2) =>
  some (y0, y1, y2)
  | _ => none)
  | _ => none)
  | _ => none)
  | _ => none)
  | _ => none)

def k15 : Lp k3a where
  h := ⟨[11, 12, 13, 14, 17, 18, 19, 20, 21, 22, 23, 24, 25, 26, 4, 15, 16, 5], [0, 1], [], []⟩
  JL := klc
  JE := kkw
  XL := kky
  XE := kla
  q := fun j => match j with | 0 => .ret | _ => .exit 0
  tags := [0, 1]
  lt := k9x
  fuel := fun (y0, y1, y2) => y0.natAbs + y1.length + y2.length
  fix := fun (_, y1, y2) (y0, _, _) => (y0, y1, y2)
  σ := [(0, 0), (1, 1)]
  rd := kd8

theorem kjr : LoopOk Try.prog (fun k => Nat.blt k Try.f21.ntmps) k15.F (loopAt Try.f21 0) := by
  refine Lp.ok (tbl := [klu]) (lf := []) hmix k15 (by kernel_rfl) (LOk.nil _) (fun _ => rfl) (fun j _ => by unfold k15; match j with | 0 => rfl | _ + 1 => rfl) ?_ ?_ ?_ ?_ (fun _ => rfl) ?_
  · intro x; obtain ⟨y0, y1, y2⟩ := x; kernel_rfl
  · intro x; obtain ⟨y0, y1, y2⟩ := x; kernel_rfl
  · intro s x h
    have h : kd8 s = some x := h
    unfold kd8 at h
    repeat' split at h
    all_goals cases h
    exact ⟨absS_cons (by assumption) rfl (absS_cons (by assumption) rfl (absS_cons (by assumption) rfl (rfl))), absE_cons rfl (by assumption) rfl (absE_cons rfl (by assumption) rfl (rfl))⟩
  · intro x; obtain ⟨y0, y1, y2⟩ := x; kernel_rfl
  · intro x z; obtain ⟨y0, y1, y2⟩ := x; exact (And.intro (And.intro trivial rfl) trivial)

def kdp (x0 : List (Int × Int)) (x1 : List (Int × Int)) : Bool :=
  (↑(List.length x0) : Int) != (↑(List.length x1) : Int)

def kdr (x0 : List (Int × Int)) (x1 : List (Int × Int)) : Int × List (Int × Int) × List (Int × Int) :=
  ((0 : Int), x0, x1)

def kep (x0 : List (Int × Int)) (x1 : List (Int × Int)) : Bool :=
  bif kdp x0 x1 then false else bif Nat.beq (Prod.fst (Lp.res k15 (kdr x0 x1))) (0 : Nat) then false else true

def keo (x0 : List (Int × Int)) (x1 : List (Int × Int)) : Bool :=
  allT [kdp x0 x1 || Lp.fin k15 (kdr x0 x1)]

def kkg : List SV → List Entry → Option Out
  | [.one ⟨false, [.ref 0]⟩, .one ⟨false, [.ref 1]⟩], [.row false 67 (.pair (.int .i64) (.int .i64)) x0, .row false 67 (.pair (.int .i64) (.int .i64)) x1] => some ⟨(.one ⟨false, [(.val (.bool (kep x0 x1)))]⟩), [(.row false 67 (CTy.pair (CTy.int IntKind.i64) (CTy.int IntKind.i64)) x0), (.row false 67 (CTy.pair (CTy.int IntKind.i64) (CTy.int IntKind.i64)) x1)], [], [(keo x0 x1)]⟩
  | _, _ => none

def kmv : PF Try.prog := PF.ofG Try.prog [klu] [k15.F] hmix 21 Try.f21 Try.func21 (LOk.fnT (l := [loopAt Try.f21 0]) (by kernel_rfl) (.cons kjr (.nil _))) kkg (by
  intro vs es r h; unfold kkg at h; split at h
  · cases h; kernel_rfl
  · cases h)

end Go.SX

namespace Go.SX
open Go.Proofs
set_option maxRecDepth 100000

def eqPr (xs ys : List (Int × Int)) : Bool := decide (xs = ys)
def k4d (y1 : List (Int × (Int × Int))) (y2 : List (Int × (Int × Int))) (b : Nat) : (Unit) → Nat ⊕ (Unit)
  | _ => (bif ((!k9a (Prod.fst ((Option.getD y1[b]? ((0 : Int), (0 : Int), (0 : Int))))) (Prod.fst (Prod.snd ((Option.getD y1[b]? ((0 : Int), (0 : Int), (0 : Int)))))) (Prod.snd (Prod.snd ((Option.getD y1[b]? ((0 : Int), (0 : Int), (0 : Int)))))) (Prod.fst ((Option.getD y2[b]? ((0 : Int), (0 : Int), (0 : Int))))) (Prod.fst (Prod.snd ((Option.getD y2[b]? ((0 : Int), (0 : Int), (0 : Int)))))) (Prod.snd (Prod.snd ((Option.getD y2[b]? ((0 : Int), (0 : Int), (0 : Int)))))))) then (.inl 0) else (.inr ()))

def k2t (y1 : List (Int × (Int × Int))) (y2 : List (Int × (Int × Int))) (i : Nat) : (Unit) → k19
  | _ => ((i : Int), y1, y2)

def kb5 : k19 → Unit
  | (_, _, _) => ()

theorem kiq (y1 : List (Int × (Int × Int))) (y2 : List (Int × (Int × Int)))  (hn : y1.length ≤ 9223372036854775807) (he : y2.length = y1.length) :
    kh.fin ((0 : Int), y1, y2) = true ∧ kh.res ((0 : Int), y1, y2) = ((walkL (k4d y1 y2) 1 (List.range y1.length) 0 ()).1, (k2t y1 y2) (walkL (k4d y1 y2) 1 (List.range y1.length) 0 ()).2.1 (walkL (k4d y1 y2) 1 (List.range y1.length) 0 ()).2.2) := by
  have key := kh.along (k2t y1 y2) kb5 (k4d y1 y2) 1 (fun _ _ => True) (List.range y1.length) () (by trivial) (by simp only [kh, k2t, List.length_range]; omega) (fun i b a hb hI => ?_) (fun a hI => ?_)
  · exact key
  · obtain ⟨⟩ := a
    obtain ⟨rfl, hlt⟩ := range_get hb
    have hw : IntKind.i64.wrap ((b : Int) + 1) = ((b + 1 : Nat) : Int) := by rw [wrap_i64 (by omega) (by omega)]; omega
    have hdec : ltI (b : Int) (y1.length : Int) = true := ltI_t (by omega)
    have hnn : leI (0 : Int) (b : Int) = true := leI_t (by omega)
    have hltd : ltN b y1.length = true := ltN_t (by omega)
    refine ⟨?_, ?_, ?_, ?_⟩
    · simp [k2s, k2u, k4e, k4h, k5t, k60, k5x, k5u, k5y, k5b, kh, LT.nds, allT, k2t, hdec, hnn, hltd, he]
    · simp [k2s, k2u, k4e, k4h, k5t, k60, k5x, k5u, k5y, k5b, kh, LT.each, k2t, kb5, hw, he]
    · simp only [k2s, k2u, k4e, k4h, k5t, k60, k5x, k5u, k5y, k5b, kh, LT.fn, k2t, kb5, k4d, Int.toNat_natCast, hdec, cond_true]
    · exact fun _ _ => trivial
  · obtain ⟨⟩ := a
    simp [k2s, k2u, k4e, k4h, k5t, k60, k5x, k5u, k5y, k5b, kh, LT.out, k2t, List.length_range]

theorem ko1 (xs ys : List (Int × Int × Int)) (hn : leN xs.length 9223372036854775807 = true) : kb6 xs ys = eqFls xs ys ∧ kb9 xs ys = true := by
  have hn := leN_iff.1 hn
  unfold eqFls
  have h3 : ∀ a b : Int × Int × Int, (!k9a a.1 a.2.1 a.2.2 b.1 b.2.1 b.2.2) = !decide (a = b) := fun a b => by
    obtain ⟨a1, a2, a3⟩ := a; obtain ⟨b1, b2, b3⟩ := b
    simp only [k9a, Prod.mk.injEq]
    by_cases h1 : a1 = b1 <;> by_cases h2 : a2 = b2 <;> by_cases h3 : a3 = b3 <;> simp [h1, h2, h3]
  by_cases hl : ys.length = xs.length
  · obtain ⟨w1, w2⟩ := kiq xs ys hn hl
    have ha := any_ne (d := ((0 : Int), (0 : Int), (0 : Int))) hl (P := fun b => !decide (Option.getD xs[b]? (0, 0, 0) = Option.getD ys[b]? (0, 0, 0))) (fun b => rfl)
    rw [walk_stop (P := fun b => !decide (Option.getD xs[b]? (0, 0, 0) = Option.getD ys[b]? (0, 0, 0))) (j := 0) (fun b => by simp only [k4d, h3]), ha] at w2
    simp only [ka0, ka1, kb6, kb9, w1, w2, allT]
    by_cases he : xs = ys
    · subst he; simp; decide
    · simp [he, hl]
  · have hne : xs ≠ ys := fun h => hl (by rw [h])
    simp [ka0, ka1, kb6, kb9, allT, hne]
    omega

def kfu : List SV → List Entry → Option Out
  | [.one ⟨false, [.ref 0]⟩, .one ⟨false, [.ref 1]⟩], [.row false 61 (.pair (.int .i64) (.pair (.int .i64) (.int .i64))) x0, .row false 61 (.pair (.int .i64) (.pair (.int .i64) (.int .i64))) x1] => some ⟨(.one ⟨false, [(.val (.bool (eqFls x0 x1)))]⟩), [(.row false 61 (CTy.pair (CTy.int IntKind.i64) (CTy.pair (CTy.int IntKind.i64) (CTy.int IntKind.i64))) x0), (.row false 61 (CTy.pair (CTy.int IntKind.i64) (CTy.pair (CTy.int IntKind.i64) (CTy.int IntKind.i64))) x1)], [], [leN x0.length 9223372036854775807]⟩
  | _, _ => none

def kcl : PF Try.prog := PF.alt kkn kfu (by
  intro args es o h hnd; unfold kfu at h; split at h
  · rename_i x0 x1
    cases h
    have hnd := nd_fst hnd
    have hh := ko1 x0 x1 hnd
    obtain ⟨e0, en⟩ := hh
    exact altok rfl (nd_one en) (by simp only [e0] <;> rfl) rfl rfl
  · cases h)

def k7i (y1 : List (Int × Int)) (y2 : List (Int × Int)) (b : Nat) : (Unit) → Nat ⊕ (Unit)
  | _ => (bif ((!kdz (Prod.fst ((Option.getD y1[b]? ((0 : Int), (0 : Int))))) (Prod.snd ((Option.getD y1[b]? ((0 : Int), (0 : Int))))) (Prod.fst ((Option.getD y2[b]? ((0 : Int), (0 : Int))))) (Prod.snd ((Option.getD y2[b]? ((0 : Int), (0 : Int))))))) then (.inl 0) else (.inr ()))

def k5l (y1 : List (Int × Int)) (y2 : List (Int × Int)) (i : Nat) : (Unit) → k38
  | _ => ((i : Int), y1, y2)

def kd6 : k38 → Unit
  | (_, _, _) => ()

theorem km4 (y1 : List (Int × Int)) (y2 : List (Int × Int))  (hn : y1.length ≤ 9223372036854775807) (he : y2.length = y1.length) :
    k13.fin ((0 : Int), y1, y2) = true ∧ k13.res ((0 : Int), y1, y2) = ((walkL (k7i y1 y2) 1 (List.range y1.length) 0 ()).1, (k5l y1 y2) (walkL (k7i y1 y2) 1 (List.range y1.length) 0 ()).2.1 (walkL (k7i y1 y2) 1 (List.range y1.length) 0 ()).2.2) := by
  have key := k13.along (k5l y1 y2) kd6 (k7i y1 y2) 1 (fun _ _ => True) (List.range y1.length) () (by trivial) (by simp only [k13, k5l, List.length_range]; omega) (fun i b a hb hI => ?_) (fun a hI => ?_)
  · exact key
  · obtain ⟨⟩ := a
    obtain ⟨rfl, hlt⟩ := range_get hb
    have hw : IntKind.i64.wrap ((b : Int) + 1) = ((b + 1 : Nat) : Int) := by rw [wrap_i64 (by omega) (by omega)]; omega
    have hdec : ltI (b : Int) (y1.length : Int) = true := ltI_t (by omega)
    have hnn : leI (0 : Int) (b : Int) = true := leI_t (by omega)
    have hltd : ltN b y1.length = true := ltN_t (by omega)
    refine ⟨?_, ?_, ?_, ?_⟩
    · simp [k6v, k6u, k7l, k7m, kao, kab, kat, kaw, ka3, k9s, k13, LT.nds, allT, k5l, hdec, hnn, hltd, he]
    · simp [k6v, k6u, k7l, k7m, kao, kab, kat, kaw, ka3, k9s, k13, LT.each, k5l, kd6, hw, he]
    · simp only [k6v, k6u, k7l, k7m, kao, kab, kat, kaw, ka3, k9s, k13, LT.fn, k5l, kd6, k7i, Int.toNat_natCast, hdec, cond_true]
    · exact fun _ _ => trivial
  · obtain ⟨⟩ := a
    simp [k6v, k6u, k7l, k7m, kao, kab, kat, kaw, ka3, k9s, k13, LT.out, k5l, List.length_range]

theorem ko4 (xs ys : List (Int × Int)) (hn : leN xs.length 9223372036854775807 = true) : kej xs ys = eqPr xs ys ∧ ker xs ys = true := by
  have hn := leN_iff.1 hn
  unfold eqPr
  have h3 : ∀ a b : Int × Int, (!kdz a.1 a.2 b.1 b.2) = !decide (a = b) := fun a b => by
    obtain ⟨a1, a2⟩ := a; obtain ⟨b1, b2⟩ := b
    simp only [kdz, Prod.mk.injEq]
    by_cases h1 : a1 = b1 <;> by_cases h2 : a2 = b2 <;> simp [h1, h2]
  by_cases hl : ys.length = xs.length
  · obtain ⟨w1, w2⟩ := km4 xs ys hn hl
    have ha := any_ne (d := ((0 : Int), (0 : Int))) hl (P := fun b => !decide (Option.getD xs[b]? (0, 0) = Option.getD ys[b]? (0, 0))) (fun b => rfl)
    rw [walk_stop (P := fun b => !decide (Option.getD xs[b]? (0, 0) = Option.getD ys[b]? (0, 0))) (j := 0) (fun b => by simp only [k7i, h3]), ha] at w2
    simp only [kdt, kdq, kej, ker, w1, w2, allT]
    by_cases he : xs = ys
    · subst he; simp; decide
    · simp [he, hl]
  · have hne : xs ≠ ys := fun h => hl (by rw [h])
    simp [kdt, kdq, kej, ker, allT, hne]
    omega

def kkq : List SV → List Entry → Option Out
  | [.one ⟨false, [.ref 0]⟩, .one ⟨false, [.ref 1]⟩], [.row false 64 (.pair (.int .i64) (.int .i64)) x0, .row false 64 (.pair (.int .i64) (.int .i64)) x1] => some ⟨(.one ⟨false, [(.val (.bool (eqPr x0 x1)))]⟩), [(.row false 64 (CTy.pair (CTy.int IntKind.i64) (CTy.int IntKind.i64)) x0), (.row false 64 (CTy.pair (CTy.int IntKind.i64) (CTy.int IntKind.i64)) x1)], [], [leN x0.length 9223372036854775807]⟩
  | _, _ => none

def khf : PF Try.prog := PF.alt kmt kkq (by
  intro args es o h hnd; unfold kkq at h; split at h
  · rename_i x0 x1
    cases h
    have hnd := nd_fst hnd
    have hh := ko4 x0 x1 hnd
    obtain ⟨e0, en⟩ := hh
    exact altok rfl (nd_one en) (by simp only [e0] <;> rfl) rfl rfl
  · cases h)

def k7o (y1 : List (Int × Int)) (y2 : List (Int × Int)) (b : Nat) : (Unit) → Nat ⊕ (Unit)
  | _ => (bif ((!ke2 (Prod.fst ((Option.getD y1[b]? ((0 : Int), (0 : Int))))) (Prod.snd ((Option.getD y1[b]? ((0 : Int), (0 : Int))))) (Prod.fst ((Option.getD y2[b]? ((0 : Int), (0 : Int))))) (Prod.snd ((Option.getD y2[b]? ((0 : Int), (0 : Int))))))) then (.inl 0) else (.inr ()))

def k5g (y1 : List (Int × Int)) (y2 : List (Int × Int)) (i : Nat) : (Unit) → k3a
  | _ => ((i : Int), y1, y2)

def kda : k3a → Unit
  | (_, _, _) => ()

theorem km9 (y1 : List (Int × Int)) (y2 : List (Int × Int))  (hn : y1.length ≤ 9223372036854775807) (he : y2.length = y1.length) :
    k15.fin ((0 : Int), y1, y2) = true ∧ k15.res ((0 : Int), y1, y2) = ((walkL (k7o y1 y2) 1 (List.range y1.length) 0 ()).1, (k5g y1 y2) (walkL (k7o y1 y2) 1 (List.range y1.length) 0 ()).2.1 (walkL (k7o y1 y2) 1 (List.range y1.length) 0 ()).2.2) := by
  have key := k15.along (k5g y1 y2) kda (k7o y1 y2) 1 (fun _ _ => True) (List.range y1.length) () (by trivial) (by simp only [k15, k5g, List.length_range]; omega) (fun i b a hb hI => ?_) (fun a hI => ?_)
  · exact key
  · obtain ⟨⟩ := a
    obtain ⟨rfl, hlt⟩ := range_get hb
    have hw : IntKind.i64.wrap ((b : Int) + 1) = ((b + 1 : Nat) : Int) := by rw [wrap_i64 (by omega) (by omega)]; omega
    have hdec : ltI (b : Int) (y1.length : Int) = true := ltI_t (by omega)
    have hnn : leI (0 : Int) (b : Int) = true := leI_t (by omega)
    have hltd : ltN b y1.length = true := ltN_t (by omega)
    refine ⟨?_, ?_, ?_, ?_⟩
    · simp [k6t, k6r, k7p, k7k, kaf, ka5, kam, kas, ka7, k9x, k15, LT.nds, allT, k5g, hdec, hnn, hltd, he]
    · simp [k6t, k6r, k7p, k7k, kaf, ka5, kam, kas, ka7, k9x, k15, LT.each, k5g, kda, hw, he]
    · simp only [k6t, k6r, k7p, k7k, kaf, ka5, kam, kas, ka7, k9x, k15, LT.fn, k5g, kda, k7o, Int.toNat_natCast, hdec, cond_true]
    · exact fun _ _ => trivial
  · obtain ⟨⟩ := a
    simp [k6t, k6r, k7p, k7k, kaf, ka5, kam, kas, ka7, k9x, k15, LT.out, k5g, List.length_range]

theorem ko0 (xs ys : List (Int × Int)) (hn : leN xs.length 9223372036854775807 = true) : kep xs ys = eqPr xs ys ∧ keo xs ys = true := by
  have hn := leN_iff.1 hn
  unfold eqPr
  have h3 : ∀ a b : Int × Int, (!ke2 a.1 a.2 b.1 b.2) = !decide (a = b) := fun a b => by
    obtain ⟨a1, a2⟩ := a; obtain ⟨b1, b2⟩ := b
    simp only [ke2, Prod.mk.injEq]
    by_cases h1 : a1 = b1 <;> by_cases h2 : a2 = b2 <;> simp [h1, h2]
  by_cases hl : ys.length = xs.length
  · obtain ⟨w1, w2⟩ := km9 xs ys hn hl
    have ha := any_ne (d := ((0 : Int), (0 : Int))) hl (P := fun b => !decide (Option.getD xs[b]? (0, 0) = Option.getD ys[b]? (0, 0))) (fun b => rfl)
    rw [walk_stop (P := fun b => !decide (Option.getD xs[b]? (0, 0) = Option.getD ys[b]? (0, 0))) (j := 0) (fun b => by simp only [k7o, h3]), ha] at w2
    simp only [kdp, kdr, kep, keo, w1, w2, allT]
    by_cases he : xs = ys
    · subst he; simp; decide
    · simp [he, hl]
  · have hne : xs ≠ ys := fun h => hl (by rw [h])
    simp [kdp, kdr, kep, keo, allT, hne]
    omega

def kkm : List SV → List Entry → Option Out
  | [.one ⟨false, [.ref 0]⟩, .one ⟨false, [.ref 1]⟩], [.row false 67 (.pair (.int .i64) (.int .i64)) x0, .row false 67 (.pair (.int .i64) (.int .i64)) x1] => some ⟨(.one ⟨false, [(.val (.bool (eqPr x0 x1)))]⟩), [(.row false 67 (CTy.pair (CTy.int IntKind.i64) (CTy.int IntKind.i64)) x0), (.row false 67 (CTy.pair (CTy.int IntKind.i64) (CTy.int IntKind.i64)) x1)], [], [leN x0.length 9223372036854775807]⟩
  | _, _ => none

def khe : PF Try.prog := PF.alt kmv kkm (by
  intro args es o h hnd; unfold kkm at h; split at h
  · rename_i x0 x1
    cases h
    have hnd := nd_fst hnd
    have hh := ko0 x0 x1 hnd
    obtain ⟨e0, en⟩ := hh
    exact altok rfl (nd_one en) (by simp only [e0] <;> rfl) rfl rfl
  · cases h)

def ssOk (m : Nat) (rs : List (List Int)) : Bool := leN rs.length m && rs.all fun x => leN x.length m
def eqSS (xs ys : List (List Int)) : Bool := decide (xs = ys)

theorem ss_iff {m : Nat} {rs : List (List Int)} : ssOk m rs = true ↔ rs.length ≤ m ∧ ∀ x ∈ rs, x.length ≤ m := by
  simp only [ssOk, Bool.and_eq_true, leN_iff, List.all_eq_true]

def k8s (y1 : List (List Int)) (y2 : List (List Int)) (b : Nat) : (Unit) → Nat ⊕ (Unit)
  | _ => (bif ((!eqL ((Option.getD y1[b]? (dflt (CTy.sl (2 : Nat) (CTy.int IntKind.i64))))) (Option.getD y2[b]? (dflt (CTy.sl (2 : Nat) (CTy.int IntKind.i64)))))) then (.inl 0) else (.inr ()))

def k49 (y1 : List (List Int)) (y2 : List (List Int)) (i : Nat) : (Unit) → k22
  | _ => ((i : Int), y1, y2)

def kci : k22 → Unit
  | (_, _, _) => ()

theorem kkp (y1 : List (List Int)) (y2 : List (List Int))  (hn : y1.length ≤ 9223372036854775807) (he : y2.length = y1.length) (hA : ∀ x ∈ y1, x.length ≤ 9223372036854775807) :
    kt.fin ((0 : Int), y1, y2) = true ∧ kt.res ((0 : Int), y1, y2) = ((walkL (k8s y1 y2) 1 (List.range y1.length) 0 ()).1, (k49 y1 y2) (walkL (k8s y1 y2) 1 (List.range y1.length) 0 ()).2.1 (walkL (k8s y1 y2) 1 (List.range y1.length) 0 ()).2.2) := by
  have key := kt.along (k49 y1 y2) kci (k8s y1 y2) 1 (fun _ _ => True) (List.range y1.length) () (by trivial) (by simp only [kt, k49, List.length_range]; omega) (fun i b a hb hI => ?_) (fun a hI => ?_)
  · exact key
  · obtain ⟨⟩ := a
    obtain ⟨rfl, hlt⟩ := range_get hb
    have hw : IntKind.i64.wrap ((b : Int) + 1) = ((b + 1 : Nat) : Int) := by rw [wrap_i64 (by omega) (by omega)]; omega
    have hdec : ltI (b : Int) (y1.length : Int) = true := ltI_t (by omega)
    have hnn : leI (0 : Int) (b : Int) = true := leI_t (by omega)
    have hltd : ltN b y1.length = true := ltN_t (by omega)
    refine ⟨?_, ?_, ?_, ?_⟩
    · have h6 : leN (k4a (b : Int) y1).length 9223372036854775807 = true := leN_t (by
        simp only [k4a, Int.toNat_natCast]
        cases hq : y1[b]? with
        | none => exact Nat.zero_le _
        | some x => exact hA x (List.mem_of_getElem? hq))
      simp [k62, k67, k7w, k8n, k8r, k88, k7c, kt, LT.nds, allT, k49, hdec, hnn, hltd, he, h6]
    · simp [k4a, k62, k67, k7w, k8n, k8r, k88, kb8, kba, k7c, kt, LT.each, k49, kci, hw]
    · simp only [k4a, k62, k67, k7w, k8n, k8r, k88, kb8, kba, k7c, kt, LT.fn, k49, kci, k8s, Int.toNat_natCast, hdec, cond_true]
    · exact fun _ _ => trivial
  · obtain ⟨⟩ := a
    simp [k4a, k62, k67, k7w, k8n, k8r, k88, kb8, kba, k7c, kt, LT.out, k49, List.length_range]

theorem ko3 (xs ys : List (List Int)) (h : ssOk 9223372036854775807 xs = true) : kcr xs ys = eqSS xs ys ∧ kcz xs ys = true := by
  obtain ⟨hn, hA⟩ := ss_iff.1 h
  unfold eqSS
  by_cases hl : ys.length = xs.length
  · obtain ⟨w1, w2⟩ := kkp xs ys hn hl hA
    have ha := any_ne (d := ([] : List Int)) hl (P := fun b => !decide (Option.getD xs[b]? [] = Option.getD ys[b]? [])) (fun b => rfl)
    rw [walk_stop (P := fun b => !decide (Option.getD xs[b]? [] = Option.getD ys[b]? [])) (j := 0) (fun b => rfl), ha] at w2
    simp only [kcr, kcz, kc9, ke8, w1, w2, allT]
    by_cases he : xs = ys
    · subst he; simp; decide
    · simp [he, hl]
  · have hne : xs ≠ ys := fun h => hl (by rw [h])
    simp [kcr, kcz, kc9, allT, hne]
    omega

def kij : List SV → List Entry → Option Out
  | [.one ⟨false, [.ref 0]⟩, .one ⟨false, [.ref 1]⟩], [.row false 22 (.sl 2 (.int .i64)) x0, .row false 22 (.sl 2 (.int .i64)) x1] => some ⟨(.one ⟨false, [(.val (.bool (eqSS x0 x1)))]⟩), [(.row false 22 (CTy.sl (2 : TypeId) (CTy.int IntKind.i64)) x0), (.row false 22 (CTy.sl (2 : TypeId) (CTy.int IntKind.i64)) x1)], [], [ssOk 9223372036854775807 x0]⟩
  | _, _ => none

def keu : PF Try.prog := PF.alt kml kij (by
  intro args es o h hnd; unfold kij at h; split at h
  · rename_i x0 x1
    cases h
    have hnd := nd_fst hnd
    have hh := ko3 x0 x1 hnd
    obtain ⟨e0, en⟩ := hh
    exact altok rfl (nd_one en) (by simp only [e0] <;> rfl) rfl rfl
  · cases h)

end Go.SX

namespace Go.SX
open Go.Proofs
set_option maxRecDepth 100000

def kg2 (x0 : Int) (x1 : Int) (x2 : Int) (x3 : Int) (x4 : Int) (x5 : Int) (x6 : List Int) (x7 : List (Int × Int × Int)) (x8 : List (List Int)) (x9 : List (Int × Int × Int)) (x10 : List (Int × Int)) (x11 : List (Int × Int)) (x12 : List Int) (x13 : List (Int × Int × Int)) (x14 : List (List Int)) (x15 : List (Int × Int × Int)) (x16 : List (Int × Int)) (x17 : List (Int × Int)) : Bool :=
  bif !eqT x0 x3 x6 x12 then false
  else
  bif !eqFls x7 x13 then false
  else
    bif !eqSS x8 x14 then false
    else
      bif !eqFls x9 x15 then false
      else bif x1 != x4 then false else bif !eqPr x10 x16 then false else bif !eqPr x11 x17 then false else bif x2 != x5 then false else true

def kg0 (x0 : Int) (x1 : Int) (x3 : Int) (x4 : Int) (x6 : List Int) (x7 : List (Int × Int × Int)) (x8 : List (List Int)) (x9 : List (Int × Int × Int)) (x10 : List (Int × Int)) (x11 : List (Int × Int)) (x12 : List Int) (x13 : List (Int × Int × Int)) (x14 : List (List Int)) (x15 : List (Int × Int × Int)) (x16 : List (Int × Int)) : Bool :=
  allT
  [leN (List.length x6) (9223372036854775807 : Nat), !eqT x0 x3 x6 x12 || leN (List.length x7) (9223372036854775807 : Nat),
    !eqT x0 x3 x6 x12 || (!eqFls x7 x13 || ssOk (9223372036854775807 : Nat) x8),
    !eqT x0 x3 x6 x12 || (!eqFls x7 x13 || (!eqSS x8 x14 || leN (List.length x9) (9223372036854775807 : Nat))),
    !eqT x0 x3 x6 x12 || (!eqFls x7 x13 || (!eqSS x8 x14 || (!eqFls x9 x15 || (x1 != x4 || leN (List.length x10) (9223372036854775807 : Nat))))),
    !eqT x0 x3 x6 x12 ||
      (!eqFls x7 x13 || (!eqSS x8 x14 || (!eqFls x9 x15 || (x1 != x4 || (!eqPr x10 x16 || leN (List.length x11) (9223372036854775807 : Nat))))))]

def klq : List SV → List Entry → Option Out
  | [.one ⟨true, [.val (.int .i64 x0), .ref 0, .ref 1, .ref 2, .ref 3, .val (.int .i64 x1), .ref 4, .ref 5, .val (.int .i64 x2)]⟩, .one ⟨true, [.val (.int .i64 x3), .ref 6, .ref 7, .ref 8, .ref 9, .val (.int .i64 x4), .ref 10, .ref 11, .val (.int .i64 x5)]⟩], [.row false 2 (.int .i64) x6, .row false 58 (.pair (.int .i64) (.pair (.int .i64) (.int .i64))) x7, .row false 22 (.sl 2 (.int .i64)) x8, .row false 61 (.pair (.int .i64) (.pair (.int .i64) (.int .i64))) x9, .row false 64 (.pair (.int .i64) (.int .i64)) x10, .row false 67 (.pair (.int .i64) (.int .i64)) x11, .row false 2 (.int .i64) x12, .row false 58 (.pair (.int .i64) (.pair (.int .i64) (.int .i64))) x13, .row false 22 (.sl 2 (.int .i64)) x14, .row false 61 (.pair (.int .i64) (.pair (.int .i64) (.int .i64))) x15, .row false 64 (.pair (.int .i64) (.int .i64)) x16, .row false 67 (.pair (.int .i64) (.int .i64)) x17] => some ⟨(.one ⟨false, [(.val (.bool (kg2 x0 x1 x2 x3 x4 x5 x6 x7 x8 x9 x10 x11 x12 x13 x14 x15 x16 x17)))]⟩), [(.row false 2 (CTy.int IntKind.i64) x6), (.row false 58 (CTy.pair (CTy.int IntKind.i64) (CTy.pair (CTy.int IntKind.i64) (CTy.int IntKind.i64))) x7), (.row false 22 (CTy.sl (2 : TypeId) (CTy.int IntKind.i64)) x8), (.row false 61 (CTy.pair (CTy.int IntKind.i64) (CTy.pair (CTy.int IntKind.i64) (CTy.int IntKind.i64))) x9), (.row false 64 (CTy.pair (CTy.int IntKind.i64) (CTy.int IntKind.i64)) x10), (.row false 67 (CTy.pair (CTy.int IntKind.i64) (CTy.int IntKind.i64)) x11), (.row false 2 (CTy.int IntKind.i64) x12), (.row false 58 (CTy.pair (CTy.int IntKind.i64) (CTy.pair (CTy.int IntKind.i64) (CTy.int IntKind.i64))) x13), (.row false 22 (CTy.sl (2 : TypeId) (CTy.int IntKind.i64)) x14), (.row false 61 (CTy.pair (CTy.int IntKind.i64) (CTy.pair (CTy.int IntKind.i64) (CTy.int IntKind.i64))) x15), (.row false 64 (CTy.pair (CTy.int IntKind.i64) (CTy.int IntKind.i64)) x16), (.row false 67 (CTy.pair (CTy.int IntKind.i64) (CTy.int IntKind.i64)) x17)], [], [(kg0 x0 x1 x3 x4 x6 x7 x8 x9 x10 x11 x12 x13 x14 x15 x16)]⟩
  | _, _ => none

def kid : PF Try.prog := PF.ofG Try.prog [kf8, PF.lend kf8, PF.fz kf8, kbj, PF.lend kbj, PF.fz kbj, keu, PF.lend keu, PF.fz keu, kcl, PF.lend kcl, PF.fz kcl, khf, PF.lend khf, PF.fz khf, khe, PF.lend khe, PF.fz khe] [] hmix 6 Try.f6 Try.func6 (fun c _ => LOk.nil c) klq (by
  intro vs es r h; unfold klq at h; split at h
  · cases h; kernel_rfl
  · cases h)

end Go.SX

namespace Go.SX
open Go.Proofs
set_option maxRecDepth 100000

/-- How long a ride's lists may be. -/
def rideN (m : Nat) (ps : List Int) (fs : List (Int × Int × Int)) (rs : List (List Int)) (lf : List (Int × Int × Int)) (pl ls : List (Int × Int)) : Bool :=
  leN ps.length m && (leN fs.length m && (ssOk m rs && (leN lf.length m && (leN pl.length m && leN ls.length m))))

theorem kfv {m : Nat} {ps : List Int} {fs : List (Int × Int × Int)} {rs : List (List Int)} {lf : List (Int × Int × Int)} {pl ls : List (Int × Int)} :
    rideN m ps fs rs lf pl ls = true ↔ ps.length ≤ m ∧ fs.length ≤ m ∧ (rs.length ≤ m ∧ ∀ x ∈ rs, x.length ≤ m) ∧ lf.length ≤ m ∧ pl.length ≤ m ∧ ls.length ≤ m := by
  simp only [rideN, Bool.and_eq_true, leN_iff, ss_iff]

theorem knn {m k : Nat} {ps : List Int} {fs : List (Int × Int × Int)} {rs : List (List Int)} {lf : List (Int × Int × Int)} {pl ls : List (Int × Int)} (h : rideN m ps fs rs lf pl ls = true) (hk : m ≤ k) : rideN k ps fs rs lf pl ls = true := by
  obtain ⟨h1, h2, ⟨h3, h4⟩, h5, h6, h7⟩ := kfv.1 h
  exact kfv.2 ⟨by omega, by omega, ⟨by omega, fun x hx => by have := h4 x hx; omega⟩, by omega, by omega, by omega⟩

end Go.SX

namespace Go.SX
open Go.Proofs
set_option maxRecDepth 100000

abbrev ko := Int × Int × List (Int × (Int × Int))

def k2d (y0 : Int) (y2 : List (Int × (Int × Int))) : Int × Int :=
  Prod.snd (Option.getD y2[Int.toNat y0]? ((0 : Int), (0 : Int), (0 : Int)))

def k18 (y0 : Int) (y1 : Int) (y2 : List (Int × (Int × Int))) : List (Int × Int × Int) :=
  List.set y2 (Int.toNat y0) (y1, Prod.fst (k2d y0 y2), Prod.snd (k2d y0 y2))

def k2f (y0 : Int) (y1 : Int) (y2 : List (Int × (Int × Int))) : Int × Int × Int :=
  Option.getD (k18 y0 y1 y2)[Int.toNat y0]? ((0 : Int), (0 : Int), (0 : Int))

def k2e (y1 : Int) : Int :=
  IntKind.wrap IntKind.i64 (y1 + (1 : Int))

def k16 (y0 : Int) (y1 : Int) (y2 : List (Int × (Int × Int))) : List (Int × Int × Int) :=
  List.set (k18 y0 y1 y2) (Int.toNat y0)
  (Prod.fst (k2f y0 y1 y2), k2e y1, Prod.snd (Prod.snd (k2f y0 y1 y2)))

def k2a (y1 : Int) : Int :=
  IntKind.wrap IntKind.i64 (k2e y1 + (1 : Int))

def k2g (y0 : Int) (y1 : Int) (y2 : List (Int × (Int × Int))) : Int × Int × Int :=
  Option.getD (k16 y0 y1 y2)[Int.toNat y0]? ((0 : Int), (0 : Int), (0 : Int))

def k2p (y0 : Int) (y2 : List (Int × (Int × Int))) : Bool :=
  ltI y0 (↑(List.length y2) : Int)

def k1q (y0 : Int) : Bool :=
  leI (0 : Int) y0

def k3x (y0 : Int) (y2 : List (Int × (Int × Int))) : Bool :=
  ltN (Int.toNat y0) (List.length y2)

def k3s (y0 : Int) (y1 : Int) (y2 : List (Int × (Int × Int))) : Bool :=
  ltI y0 (↑(List.length (k18 y0 y1 y2)) : Int)

def k3w (y0 : Int) (y1 : Int) (y2 : List (Int × (Int × Int))) : Bool :=
  ltN (Int.toNat y0) (List.length (k18 y0 y1 y2))

def k41 (y0 : Int) (y1 : Int) (y2 : List (Int × (Int × Int))) : Bool :=
  ltI y0 (↑(List.length (k16 y0 y1 y2)) : Int)

def k3y (y0 : Int) (y1 : Int) (y2 : List (Int × (Int × Int))) : Bool :=
  ltN (Int.toNat y0) (List.length (k16 y0 y1 y2))

def k3t (y0 : Int) : Int :=
  IntKind.wrap IntKind.i64 (y0 + (1 : Int))

def k43 (y1 : Int) : Int :=
  IntKind.wrap IntKind.i64 (k2a y1 + (1 : Int))

def k40 (y0 : Int) (y1 : Int) (y2 : List (Int × (Int × Int))) : List (Int × (Int × Int)) :=
  List.set (k16 y0 y1 y2) (Int.toNat y0)
  (Prod.fst (k2g y0 y1 y2), Prod.fst (Prod.snd (k2g y0 y1 y2)), k2a y1)

def kfg : ko → List (Nat × SV)
  | (y0, y1, _) => [(5, (.one ⟨false, [(.val (.int IntKind.i64 y0))]⟩)), (0, (.one ⟨false, [(.ref 0)]⟩)), (1, (.one ⟨false, [(.val (.int IntKind.i64 y1))]⟩))]

def kfk : ko → List (Nat × Entry)
  | (_, _, y2) => [(0, (.row true 58 (CTy.pair (CTy.int IntKind.i64) (CTy.pair (CTy.int IntKind.i64) (CTy.int IntKind.i64))) y2))]

def kfo : Nat → ko → List (Nat × SV)
  | _, (_, y1, _) => [(1, (.one ⟨false, [(.val (.int IntKind.i64 y1))]⟩))]

def kfl : Nat → ko → List (Nat × Entry)
  | _, (_, _, y2) => [(0, (.row true 58 (CTy.pair (CTy.int IntKind.i64) (CTy.pair (CTy.int IntKind.i64) (CTy.int IntKind.i64))) y2))]

def k3l : ko → LT ko
  | (y0, y1, y2) => .ite (k2p y0 y2) (.need [(k1q y0), (k2p y0 y2), (k3x y0 y2)] (.need [(k1q y0), (k3s y0 y1 y2), (k3w y0 y1 y2)] (.need [(k1q y0), (k41 y0 y1 y2), (k3y y0 y1 y2)] (.nrm ((k3t y0), (k43 y1), (k40 y0 y1 y2)) [(0, 0)])))) (.ext 0 [(0, 0)])

def k7h (s : St) : Option ko :=
  (match s.look 5 with
  | some ⟨none, (.one ⟨false, [(.val (.int IntKind.i64 y0))]⟩)⟩ =>
  (match s.look 0 with
  | some ⟨none, (.one ⟨false, [(.ref 0)]⟩)⟩ =>
  (match s.look 1 with
  | some ⟨none, (.one ⟨false, [(.val (.int IntKind.i64 y1))]⟩)⟩ =>
  (match s.ent 0 with
  | some (.row true 58 (CTy.pair (CTy.int IntKind.i64) (CTy.pair (CTy.int IntKind.i64) (CTy.int IntKind.i64))) y2) =>
  some (y0, y1, y2)
  | _ => none)
  | _ => none)
  | _ => none)
  | _ => none)

def kb : Lp ko where
  h := ⟨[6, 7, 8, 9, 12, 13, 14, 15, 16, 17, 18, 1, 19, 20, 21, 22, 23, 24, 25, 26, 27, 28, 29, 30, 31, 32, 10, 11, 5], [0], [], []⟩
  JL := kfg
  JE := kfk
  XL := kfo
  XE := kfl
  q := fun j => match j with | _ => .exit 0
  tags := [0]
  lt := k3l
  fuel := fun (y0, y1, y2) => y0.natAbs + y1.natAbs + y2.length
  fix := fun (_, _, _) (y0, y1, y2) => (y0, y1, y2)
  σ := [(0, 0)]
  rd := k7h

theorem kem : LoopOk Try.prog (fun k => Nat.blt k Try.f23.ntmps) kb.F (loopAt Try.f23 0) := by
  refine Lp.ok (tbl := []) (lf := []) hmix kb (by kernel_rfl) (LOk.nil _) (fun _ => rfl) (fun _ _ => rfl) ?_ ?_ ?_ ?_ (fun _ => rfl) ?_
  · intro x; obtain ⟨y0, y1, y2⟩ := x; kernel_rfl
  · intro x; obtain ⟨y0, y1, y2⟩ := x; kernel_rfl
  · intro s x h
    have h : k7h s = some x := h
    unfold k7h at h
    repeat' split at h
    all_goals cases h
    exact ⟨absS_cons (by assumption) rfl (absS_cons (by assumption) rfl (absS_cons (by assumption) rfl (rfl))), absE_cons rfl (by assumption) rfl (rfl)⟩
  · intro x; obtain ⟨y0, y1, y2⟩ := x; kernel_rfl
  · intro x z; obtain ⟨y0, y1, y2⟩ := x; exact (And.intro rfl trivial)

def k4k (x0 : Int) (x1 : List (Int × Int × Int)) : Int × Int × List (Int × Int × Int) :=
  ((0 : Int), x0, x1)

def k6p (x0 : Int) (x1 : List (Int × Int × Int)) : Int × List (Int × Int × Int) :=
  Prod.snd (Prod.snd (Lp.res kb (k4k x0 x1)))

def kb3 (x0 : Int) (x1 : List (Int × Int × Int)) : Int :=
  Prod.fst (k6p x0 x1)

def kaz (x0 : Int) (x1 : List (Int × Int × Int)) : List (Int × (Int × Int)) :=
  Prod.snd (k6p x0 x1)

def kay (x0 : Int) (x1 : List (Int × Int × Int)) : Bool :=
  allT [Lp.fin kb (k4k x0 x1)]

def kd3 : List SV → List Entry → Option Out
  | [.one ⟨false, [.ref 0]⟩, .one ⟨false, [.val (.int .i64 x0)]⟩], [.row true 58 (.pair (.int .i64) (.pair (.int .i64) (.int .i64))) x1] => some ⟨(.one ⟨false, [(.val (.int IntKind.i64 (kb3 x0 x1)))]⟩), [(.row true 58 (CTy.pair (CTy.int IntKind.i64) (CTy.pair (CTy.int IntKind.i64) (CTy.int IntKind.i64))) (kaz x0 x1))], [], [(kay x0 x1)]⟩
  | _, _ => none

def khu : PF Try.prog := PF.ofG Try.prog [] [kb.F] hmix 23 Try.f23 Try.func23 (LOk.fnT (l := [loopAt Try.f23 0]) (by kernel_rfl) (.cons kem (.nil _))) kd3 (by
  intro vs es r h; unfold kd3 at h; split at h
  · cases h; kernel_rfl
  · cases h)

abbrev k1i := Int × Int × List (List Int)

def k58 (y0 : Int) (y2 : List (List Int)) : Bool :=
  ltI y0 (↑(List.length y2) : Int)

def k6h (y0 : Int) : Bool :=
  leI (0 : Int) y0

def k6m (y0 : Int) (y2 : List (List Int)) : Bool :=
  ltN (Int.toNat y0) (List.length y2)

def k5a (y0 : Int) (y1 : Int) (y2 : List (List Int)) : Bool :=
  mkOk y1 (List.length (Option.getD y2[Int.toNat y0]? (dflt (CTy.sl (2 : Nat) (CTy.int IntKind.i64)))))

def k6n (y0 : Int) : Int :=
  IntKind.wrap IntKind.i64 (y0 + (1 : Int))

def k6l (y0 : Int) (y1 : Int) (y2 : List (List Int)) : Int :=
  y1 + (↑(List.length (Option.getD y2[Int.toNat y0]? (dflt (CTy.sl (2 : Nat) (CTy.int IntKind.i64))))) : Int)

def k6j (y0 : Int) (y1 : Int) (y2 : List (List Int)) : List (List Int) :=
  List.set y2 (Int.toNat y0) (upFrom y1 (List.length (Option.getD y2[Int.toNat y0]? (dflt (CTy.sl (2 : Nat) (CTy.int IntKind.i64))))))

def ki9 : k1i → List (Nat × SV)
  | (y0, y1, _) => [(5, (.one ⟨false, [(.val (.int IntKind.i64 y0))]⟩)), (0, (.one ⟨false, [(.ref 0)]⟩)), (1, (.one ⟨false, [(.val (.int IntKind.i64 y1))]⟩))]

def ki2 : k1i → List (Nat × Entry)
  | (_, _, y2) => [(0, (.tree 22 (CTy.sl (2 : Nat) (CTy.int IntKind.i64)) y2 none))]

def kiv : Nat → k1i → List (Nat × SV)
  | _, (_, y1, _) => [(1, (.one ⟨false, [(.val (.int IntKind.i64 y1))]⟩))]

def kis : Nat → k1i → List (Nat × Entry)
  | _, (_, _, y2) => [(0, (.tree 22 (CTy.sl (2 : Nat) (CTy.int IntKind.i64)) y2 none))]

def k61 : k1i → LT k1i
  | (y0, y1, y2) => .ite (k58 y0 y2) (.need [(k6h y0), (k58 y0 y2), (k6m y0 y2), (k5a y0 y1 y2)] (.nrm ((k6n y0), (k6l y0 y1 y2), (k6j y0 y1 y2)) [(0, 0)])) (.ext 0 [(0, 0)])

def kbc (s : St) : Option k1i :=
  (match s.look 5 with
  | some ⟨none, (.one ⟨false, [(.val (.int IntKind.i64 y0))]⟩)⟩ =>
  (match s.look 0 with
  | some ⟨none, (.one ⟨false, [(.ref 0)]⟩)⟩ =>
  (match s.look 1 with
  | some ⟨none, (.one ⟨false, [(.val (.int IntKind.i64 y1))]⟩)⟩ =>
  (match s.ent 0 with
  | some (.tree 22 (CTy.sl (2 : Nat) (CTy.int IntKind.i64)) y2 none) =>
  some (y0, y1, y2)
  | _ => none)
  | _ => none)
  | _ => none)
  | _ => none)

def kn : Lp k1i where
  h := ⟨[6, 7, 8, 9, 12, 13, 14, 15, 16, 17, 1, 10, 11, 5], [0], [], []⟩
  JL := ki9
  JE := ki2
  XL := kiv
  XE := kis
  q := fun j => match j with | _ => .exit 0
  tags := [0]
  lt := k61
  fuel := fun (y0, y1, y2) => y0.natAbs + y1.natAbs + y2.length
  fix := fun (_, _, _) (y0, y1, y2) => (y0, y1, y2)
  σ := [(0, 0)]
  rd := kbc

theorem kh9 : LoopOk Try.prog (fun k => Nat.blt k Try.f24.ntmps) kn.F (loopAt Try.f24 0) := by
  refine Lp.ok (tbl := [PF.trees Try.prog, k46, PF.lend k46, PF.fz k46]) (lf := []) hmix kn (by kernel_rfl) (LOk.nil _) (fun _ => rfl) (fun _ _ => rfl) ?_ ?_ ?_ ?_ (fun _ => rfl) ?_
  · intro x; obtain ⟨y0, y1, y2⟩ := x; kernel_rfl
  · intro x; obtain ⟨y0, y1, y2⟩ := x; kernel_rfl
  · intro s x h
    have h : kbc s = some x := h
    unfold kbc at h
    repeat' split at h
    all_goals cases h
    exact ⟨absS_cons (by assumption) rfl (absS_cons (by assumption) rfl (absS_cons (by assumption) rfl (rfl))), absE_cons rfl (by assumption) rfl (rfl)⟩
  · intro x; obtain ⟨y0, y1, y2⟩ := x; kernel_rfl
  · intro x z; obtain ⟨y0, y1, y2⟩ := x; exact (And.intro rfl trivial)

def k8d (x0 : Int) (x1 : List (List Int)) : Int × Int × List (List Int) :=
  ((0 : Int), x0, x1)

def k8e (x0 : Int) (x1 : List (List Int)) : Int × List (List Int) :=
  Prod.snd (Prod.snd (Lp.res kn (k8d x0 x1)))

def k9z (x0 : Int) (x1 : List (List Int)) : Int :=
  Prod.fst (k8e x0 x1)

def k9p (x0 : Int) (x1 : List (List Int)) : List (List Int) :=
  Prod.snd (k8e x0 x1)

def k9k (x0 : Int) (x1 : List (List Int)) : Bool :=
  allT [Lp.fin kn (k8d x0 x1)]

def kgm : List SV → List Entry → Option Out
  | [.one ⟨false, [.ref 0]⟩, .one ⟨false, [.val (.int .i64 x0)]⟩], [.tree 22 (.sl 2 (.int .i64)) x1 none] => some ⟨(.one ⟨false, [(.val (.int IntKind.i64 (k9z x0 x1)))]⟩), [(.tree 22 (CTy.sl (2 : Nat) (CTy.int IntKind.i64)) (k9p x0 x1) none)], [], [(k9k x0 x1)]⟩
  | _, _ => none

def klk : PF Try.prog := PF.ofG Try.prog [PF.trees Try.prog, k46, PF.lend k46, PF.fz k46] [kn.F] hmix 24 Try.f24 Try.func24 (LOk.fnT (l := [loopAt Try.f24 0]) (by kernel_rfl) (.cons kh9 (.nil _))) kgm (by
  intro vs es r h; unfold kgm at h; split at h
  · cases h; kernel_rfl
  · cases h)

abbrev k11 := Int × Int × List (Int × (Int × Int))

def k30 (y0 : Int) (y2 : List (Int × (Int × Int))) : Int × Int :=
  Prod.snd (Option.getD y2[Int.toNat y0]? ((0 : Int), (0 : Int), (0 : Int)))

def k1g (y0 : Int) (y1 : Int) (y2 : List (Int × (Int × Int))) : List (Int × Int × Int) :=
  List.set y2 (Int.toNat y0) (y1, Prod.fst (k30 y0 y2), Prod.snd (k30 y0 y2))

def k2z (y0 : Int) (y1 : Int) (y2 : List (Int × (Int × Int))) : Int × Int × Int :=
  Option.getD (k1g y0 y1 y2)[Int.toNat y0]? ((0 : Int), (0 : Int), (0 : Int))

def k2v (y1 : Int) : Int :=
  IntKind.wrap IntKind.i64 (y1 + (1 : Int))

def k1h (y0 : Int) (y1 : Int) (y2 : List (Int × (Int × Int))) : List (Int × Int × Int) :=
  List.set (k1g y0 y1 y2) (Int.toNat y0)
  (Prod.fst (k2z y0 y1 y2), k2v y1, Prod.snd (Prod.snd (k2z y0 y1 y2)))

def k2x (y1 : Int) : Int :=
  IntKind.wrap IntKind.i64 (k2v y1 + (1 : Int))

def k2y (y0 : Int) (y1 : Int) (y2 : List (Int × (Int × Int))) : Int × Int × Int :=
  Option.getD (k1h y0 y1 y2)[Int.toNat y0]? ((0 : Int), (0 : Int), (0 : Int))

def k3e (y0 : Int) (y2 : List (Int × (Int × Int))) : Bool :=
  ltI y0 (↑(List.length y2) : Int)

def k2n (y0 : Int) : Bool :=
  leI (0 : Int) y0

def k4s (y0 : Int) (y2 : List (Int × (Int × Int))) : Bool :=
  ltN (Int.toNat y0) (List.length y2)

def k4q (y0 : Int) (y1 : Int) (y2 : List (Int × (Int × Int))) : Bool :=
  ltI y0 (↑(List.length (k1g y0 y1 y2)) : Int)

def k4n (y0 : Int) (y1 : Int) (y2 : List (Int × (Int × Int))) : Bool :=
  ltN (Int.toNat y0) (List.length (k1g y0 y1 y2))

def k4w (y0 : Int) (y1 : Int) (y2 : List (Int × (Int × Int))) : Bool :=
  ltI y0 (↑(List.length (k1h y0 y1 y2)) : Int)

def k50 (y0 : Int) (y1 : Int) (y2 : List (Int × (Int × Int))) : Bool :=
  ltN (Int.toNat y0) (List.length (k1h y0 y1 y2))

def k4r (y0 : Int) : Int :=
  IntKind.wrap IntKind.i64 (y0 + (1 : Int))

def k56 (y1 : Int) : Int :=
  IntKind.wrap IntKind.i64 (k2x y1 + (1 : Int))

def k54 (y0 : Int) (y1 : Int) (y2 : List (Int × (Int × Int))) : List (Int × (Int × Int)) :=
  List.set (k1h y0 y1 y2) (Int.toNat y0)
  (Prod.fst (k2y y0 y1 y2), Prod.fst (Prod.snd (k2y y0 y1 y2)), k2x y1)

def kgf : k11 → List (Nat × SV)
  | (y0, y1, _) => [(5, (.one ⟨false, [(.val (.int IntKind.i64 y0))]⟩)), (0, (.one ⟨false, [(.ref 0)]⟩)), (1, (.one ⟨false, [(.val (.int IntKind.i64 y1))]⟩))]

def kgi : k11 → List (Nat × Entry)
  | (_, _, y2) => [(0, (.row true 61 (CTy.pair (CTy.int IntKind.i64) (CTy.pair (CTy.int IntKind.i64) (CTy.int IntKind.i64))) y2))]

def kgy : Nat → k11 → List (Nat × SV)
  | _, (_, y1, _) => [(1, (.one ⟨false, [(.val (.int IntKind.i64 y1))]⟩))]

def kgx : Nat → k11 → List (Nat × Entry)
  | _, (_, _, y2) => [(0, (.row true 61 (CTy.pair (CTy.int IntKind.i64) (CTy.pair (CTy.int IntKind.i64) (CTy.int IntKind.i64))) y2))]

def k4g : k11 → LT k11
  | (y0, y1, y2) => .ite (k3e y0 y2) (.need [(k2n y0), (k3e y0 y2), (k4s y0 y2)] (.need [(k2n y0), (k4q y0 y1 y2), (k4n y0 y1 y2)] (.need [(k2n y0), (k4w y0 y1 y2), (k50 y0 y1 y2)] (.nrm ((k4r y0), (k56 y1), (k54 y0 y1 y2)) [(0, 0)])))) (.ext 0 [(0, 0)])

def k99 (s : St) : Option k11 :=
  (match s.look 5 with
  | some ⟨none, (.one ⟨false, [(.val (.int IntKind.i64 y0))]⟩)⟩ =>
  (match s.look 0 with
  | some ⟨none, (.one ⟨false, [(.ref 0)]⟩)⟩ =>
  (match s.look 1 with
  | some ⟨none, (.one ⟨false, [(.val (.int IntKind.i64 y1))]⟩)⟩ =>
  (match s.ent 0 with
  | some (.row true 61 (CTy.pair (CTy.int IntKind.i64) (CTy.pair (CTy.int IntKind.i64) (CTy.int IntKind.i64))) y2) =>
  some (y0, y1, y2)
  | _ => none)
  | _ => none)
  | _ => none)
  | _ => none)

def ke : Lp k11 where
  h := ⟨[6, 7, 8, 9, 12, 13, 14, 15, 16, 17, 18, 1, 19, 20, 21, 22, 23, 24, 25, 26, 27, 28, 29, 30, 31, 32, 10, 11, 5], [0], [], []⟩
  JL := kgf
  JE := kgi
  XL := kgy
  XE := kgx
  q := fun j => match j with | _ => .exit 0
  tags := [0]
  lt := k4g
  fuel := fun (y0, y1, y2) => y0.natAbs + y1.natAbs + y2.length
  fix := fun (_, _, _) (y0, y1, y2) => (y0, y1, y2)
  σ := [(0, 0)]
  rd := k99

theorem kfm : LoopOk Try.prog (fun k => Nat.blt k Try.f25.ntmps) ke.F (loopAt Try.f25 0) := by
  refine Lp.ok (tbl := []) (lf := []) hmix ke (by kernel_rfl) (LOk.nil _) (fun _ => rfl) (fun _ _ => rfl) ?_ ?_ ?_ ?_ (fun _ => rfl) ?_
  · intro x; obtain ⟨y0, y1, y2⟩ := x; kernel_rfl
  · intro x; obtain ⟨y0, y1, y2⟩ := x; kernel_rfl
  · intro s x h
    have h : k99 s = some x := h
    unfold k99 at h
    repeat' split at h
    all_goals cases h
    exact ⟨absS_cons (by assumption) rfl (absS_cons (by assumption) rfl (absS_cons (by assumption) rfl (rfl))), absE_cons rfl (by assumption) rfl (rfl)⟩
  · intro x; obtain ⟨y0, y1, y2⟩ := x; kernel_rfl
  · intro x z; obtain ⟨y0, y1, y2⟩ := x; exact (And.intro rfl trivial)

def k5z (x0 : Int) (x1 : List (Int × Int × Int)) : Int × Int × List (Int × Int × Int) :=
  ((0 : Int), x0, x1)

def k7t (x0 : Int) (x1 : List (Int × Int × Int)) : Int × List (Int × Int × Int) :=
  Prod.snd (Prod.snd (Lp.res ke (k5z x0 x1)))

def kbs (x0 : Int) (x1 : List (Int × Int × Int)) : Int :=
  Prod.fst (k7t x0 x1)

def kbm (x0 : Int) (x1 : List (Int × Int × Int)) : List (Int × (Int × Int)) :=
  Prod.snd (k7t x0 x1)

def kbr (x0 : Int) (x1 : List (Int × Int × Int)) : Bool :=
  allT [Lp.fin ke (k5z x0 x1)]

def kef : List SV → List Entry → Option Out
  | [.one ⟨false, [.ref 0]⟩, .one ⟨false, [.val (.int .i64 x0)]⟩], [.row true 61 (.pair (.int .i64) (.pair (.int .i64) (.int .i64))) x1] => some ⟨(.one ⟨false, [(.val (.int IntKind.i64 (kbs x0 x1)))]⟩), [(.row true 61 (CTy.pair (CTy.int IntKind.i64) (CTy.pair (CTy.int IntKind.i64) (CTy.int IntKind.i64))) (kbm x0 x1))], [], [(kbr x0 x1)]⟩
  | _, _ => none

def kj6 : PF Try.prog := PF.ofG Try.prog [] [ke.F] hmix 25 Try.f25 Try.func25 (LOk.fnT (l := [loopAt Try.f25 0]) (by kernel_rfl) (.cons kfm (.nil _))) kef (by
  intro vs es r h; unfold kef at h; split at h
  · cases h; kernel_rfl
  · cases h)

abbrev k24 := Int × Int × List (Int × Int)

def k37 (y0 : Int) (y1 : Int) (y2 : List (Int × Int)) : List (Int × Int) :=
  List.set y2 (Int.toNat y0) (y1, Prod.snd (Option.getD y2[Int.toNat y0]? ((0 : Int), (0 : Int))))

def k5f (y1 : Int) : Int :=
  IntKind.wrap IntKind.i64 (y1 + (1 : Int))

def k65 (y0 : Int) (y2 : List (Int × Int)) : Bool :=
  ltI y0 (↑(List.length y2) : Int)

def k64 (y0 : Int) : Bool :=
  leI (0 : Int) y0

def k8c (y0 : Int) (y2 : List (Int × Int)) : Bool :=
  ltN (Int.toNat y0) (List.length y2)

def k8a (y0 : Int) (y1 : Int) (y2 : List (Int × Int)) : Bool :=
  ltI y0 (↑(List.length (k37 y0 y1 y2)) : Int)

def k7u (y0 : Int) (y1 : Int) (y2 : List (Int × Int)) : Bool :=
  ltN (Int.toNat y0) (List.length (k37 y0 y1 y2))

def k7v (y0 : Int) : Int :=
  IntKind.wrap IntKind.i64 (y0 + (1 : Int))

def k8i (y1 : Int) : Int :=
  IntKind.wrap IntKind.i64 (k5f y1 + (1 : Int))

def k8m (y0 : Int) (y1 : Int) (y2 : List (Int × Int)) : List (Int × Int) :=
  List.set (k37 y0 y1 y2) (Int.toNat y0)
  (Prod.fst (Option.getD (k37 y0 y1 y2)[Int.toNat y0]? ((0 : Int), (0 : Int))), k5f y1)

def kjs : k24 → List (Nat × SV)
  | (y0, y1, _) => [(5, (.one ⟨false, [(.val (.int IntKind.i64 y0))]⟩)), (0, (.one ⟨false, [(.ref 0)]⟩)), (1, (.one ⟨false, [(.val (.int IntKind.i64 y1))]⟩))]

def kk4 : k24 → List (Nat × Entry)
  | (_, _, y2) => [(0, (.row true 64 (CTy.pair (CTy.int IntKind.i64) (CTy.int IntKind.i64)) y2))]

def kk6 : Nat → k24 → List (Nat × SV)
  | _, (_, y1, _) => [(1, (.one ⟨false, [(.val (.int IntKind.i64 y1))]⟩))]

def kjv : Nat → k24 → List (Nat × Entry)
  | _, (_, _, y2) => [(0, (.row true 64 (CTy.pair (CTy.int IntKind.i64) (CTy.int IntKind.i64)) y2))]

def k79 : k24 → LT k24
  | (y0, y1, y2) => .ite (k65 y0 y2) (.need [(k64 y0), (k65 y0 y2), (k8c y0 y2)] (.need [(k64 y0), (k8a y0 y1 y2), (k7u y0 y1 y2)] (.nrm ((k7v y0), (k8i y1), (k8m y0 y1 y2)) [(0, 0)]))) (.ext 0 [(0, 0)])

def kcd (s : St) : Option k24 :=
  (match s.look 5 with
  | some ⟨none, (.one ⟨false, [(.val (.int IntKind.i64 y0))]⟩)⟩ =>
  (match s.look 0 with
  | some ⟨none, (.one ⟨false, [(.ref 0)]⟩)⟩ =>
  (match s.look 1 with
  | some ⟨none, (.one ⟨false, [(.val (.int IntKind.i64 y1))]⟩)⟩ =>
  (match s.ent 0 with
  | some (.row true 64 (CTy.pair (CTy.int IntKind.i64) (CTy.int IntKind.i64)) y2) =>
  some (y0, y1, y2)
  | _ => none)
  | _ => none)
  | _ => none)
  | _ => none)

def kx : Lp k24 where
  h := ⟨[6, 7, 8, 9, 12, 13, 14, 15, 16, 17, 18, 1, 19, 20, 21, 22, 23, 24, 25, 10, 11, 5], [0], [], []⟩
  JL := kjs
  JE := kk4
  XL := kk6
  XE := kjv
  q := fun j => match j with | _ => .exit 0
  tags := [0]
  lt := k79
  fuel := fun (y0, y1, y2) => y0.natAbs + y1.natAbs + y2.length
  fix := fun (_, _, _) (y0, y1, y2) => (y0, y1, y2)
  σ := [(0, 0)]
  rd := kcd

theorem ki8 : LoopOk Try.prog (fun k => Nat.blt k Try.f26.ntmps) kx.F (loopAt Try.f26 0) := by
  refine Lp.ok (tbl := []) (lf := []) hmix kx (by kernel_rfl) (LOk.nil _) (fun _ => rfl) (fun _ _ => rfl) ?_ ?_ ?_ ?_ (fun _ => rfl) ?_
  · intro x; obtain ⟨y0, y1, y2⟩ := x; kernel_rfl
  · intro x; obtain ⟨y0, y1, y2⟩ := x; kernel_rfl
  · intro s x h
    have h : kcd s = some x := h
    unfold kcd at h
    repeat' split at h
    all_goals cases h
    exact ⟨absS_cons (by assumption) rfl (absS_cons (by assumption) rfl (absS_cons (by assumption) rfl (rfl))), absE_cons rfl (by assumption) rfl (rfl)⟩
  · intro x; obtain ⟨y0, y1, y2⟩ := x; kernel_rfl
  · intro x z; obtain ⟨y0, y1, y2⟩ := x; exact (And.intro rfl trivial)

def ka2 (x0 : Int) (x1 : List (Int × Int)) : Int × Int × List (Int × Int) :=
  ((0 : Int), x0, x1)

def kc7 (x0 : Int) (x1 : List (Int × Int)) : Int × List (Int × Int) :=
  Prod.snd (Prod.snd (Lp.res kx (ka2 x0 x1)))

def kf4 (x0 : Int) (x1 : List (Int × Int)) : Int :=
  Prod.fst (kc7 x0 x1)

def kew (x0 : Int) (x1 : List (Int × Int)) : List (Int × Int) :=
  Prod.snd (kc7 x0 x1)

def kf5 (x0 : Int) (x1 : List (Int × Int)) : Bool :=
  allT [Lp.fin kx (ka2 x0 x1)]

def kin : List SV → List Entry → Option Out
  | [.one ⟨false, [.ref 0]⟩, .one ⟨false, [.val (.int .i64 x0)]⟩], [.row true 64 (.pair (.int .i64) (.int .i64)) x1] => some ⟨(.one ⟨false, [(.val (.int IntKind.i64 (kf4 x0 x1)))]⟩), [(.row true 64 (CTy.pair (CTy.int IntKind.i64) (CTy.int IntKind.i64)) (kew x0 x1))], [], [(kf5 x0 x1)]⟩
  | _, _ => none

def kmf : PF Try.prog := PF.ofG Try.prog [] [kx.F] hmix 26 Try.f26 Try.func26 (LOk.fnT (l := [loopAt Try.f26 0]) (by kernel_rfl) (.cons ki8 (.nil _))) kin (by
  intro vs es r h; unfold kin at h; split at h
  · cases h; kernel_rfl
  · cases h)

abbrev k23 := Int × Int × List (Int × Int)

def k32 (y0 : Int) (y1 : Int) (y2 : List (Int × Int)) : List (Int × Int) :=
  List.set y2 (Int.toNat y0) (y1, Prod.snd (Option.getD y2[Int.toNat y0]? ((0 : Int), (0 : Int))))

def k5n (y1 : Int) : Int :=
  IntKind.wrap IntKind.i64 (y1 + (1 : Int))

def k6b (y0 : Int) (y2 : List (Int × Int)) : Bool :=
  ltI y0 (↑(List.length y2) : Int)

def k66 (y0 : Int) : Bool :=
  leI (0 : Int) y0

def k8h (y0 : Int) (y2 : List (Int × Int)) : Bool :=
  ltN (Int.toNat y0) (List.length y2)

def k7q (y0 : Int) (y1 : Int) (y2 : List (Int × Int)) : Bool :=
  ltI y0 (↑(List.length (k32 y0 y1 y2)) : Int)

def k7y (y0 : Int) (y1 : Int) (y2 : List (Int × Int)) : Bool :=
  ltN (Int.toNat y0) (List.length (k32 y0 y1 y2))

def k86 (y0 : Int) : Int :=
  IntKind.wrap IntKind.i64 (y0 + (1 : Int))

def k83 (y1 : Int) : Int :=
  IntKind.wrap IntKind.i64 (k5n y1 + (1 : Int))

def k8g (y0 : Int) (y1 : Int) (y2 : List (Int × Int)) : List (Int × Int) :=
  List.set (k32 y0 y1 y2) (Int.toNat y0)
  (Prod.fst (Option.getD (k32 y0 y1 y2)[Int.toNat y0]? ((0 : Int), (0 : Int))), k5n y1)

def kju : k23 → List (Nat × SV)
  | (y0, y1, _) => [(5, (.one ⟨false, [(.val (.int IntKind.i64 y0))]⟩)), (0, (.one ⟨false, [(.ref 0)]⟩)), (1, (.one ⟨false, [(.val (.int IntKind.i64 y1))]⟩))]

def kjx : k23 → List (Nat × Entry)
  | (_, _, y2) => [(0, (.row true 67 (CTy.pair (CTy.int IntKind.i64) (CTy.int IntKind.i64)) y2))]

def kjt : Nat → k23 → List (Nat × SV)
  | _, (_, y1, _) => [(1, (.one ⟨false, [(.val (.int IntKind.i64 y1))]⟩))]

def kka : Nat → k23 → List (Nat × Entry)
  | _, (_, _, y2) => [(0, (.row true 67 (CTy.pair (CTy.int IntKind.i64) (CTy.int IntKind.i64)) y2))]

def k74 : k23 → LT k23
  | (y0, y1, y2) => .ite (k6b y0 y2) (.need [(k66 y0), (k6b y0 y2), (k8h y0 y2)] (.need [(k66 y0), (k7q y0 y1 y2), (k7y y0 y1 y2)] (.nrm ((k86 y0), (k83 y1), (k8g y0 y1 y2)) [(0, 0)]))) (.ext 0 [(0, 0)])

def kcg (s : St) : Option k23 :=
  (match s.look 5 with
  | some ⟨none, (.one ⟨false, [(.val (.int IntKind.i64 y0))]⟩)⟩ =>
  (match s.look 0 with
  | some ⟨none, (.one ⟨false, [(.ref 0)]⟩)⟩ =>
  (match s.look 1 with
  | some ⟨none, (.one ⟨false, [(.val (.int IntKind.i64 y1))]⟩)⟩ =>
  (match s.ent 0 with
  | some (.row true 67 (CTy.pair (CTy.int IntKind.i64) (CTy.int IntKind.i64)) y2) =>
  some (y0, y1, y2)
  | _ => none)
  | _ => none)
  | _ => none)
  | _ => none)

def ky : Lp k23 where
  h := ⟨[6, 7, 8, 9, 12, 13, 14, 15, 16, 17, 18, 1, 19, 20, 21, 22, 23, 24, 25, 10, 11, 5], [0], [], []⟩
  JL := kju
  JE := kjx
  XL := kjt
  XE := kka
  q := fun j => match j with | _ => .exit 0
  tags := [0]
  lt := k74
  fuel := fun (y0, y1, y2) => y0.natAbs + y1.natAbs + y2.length
  fix := fun (_, _, _) (y0, y1, y2) => (y0, y1, y2)
  σ := [(0, 0)]
  rd := kcg

theorem kih : LoopOk Try.prog (fun k => Nat.blt k Try.f27.ntmps) ky.F (loopAt Try.f27 0) := by
  refine Lp.ok (tbl := []) (lf := []) hmix ky (by kernel_rfl) (LOk.nil _) (fun _ => rfl) (fun _ _ => rfl) ?_ ?_ ?_ ?_ (fun _ => rfl) ?_
  · intro x; obtain ⟨y0, y1, y2⟩ := x; kernel_rfl
  · intro x; obtain ⟨y0, y1, y2⟩ := x; kernel_rfl
  · intro s x h
    have h : kcg s = some x := h
    unfold kcg at h
    repeat' split at h
    all_goals cases h
    exact ⟨absS_cons (by assumption) rfl (absS_cons (by assumption) rfl (absS_cons (by assumption) rfl (rfl))), absE_cons rfl (by assumption) rfl (rfl)⟩
  · intro x; obtain ⟨y0, y1, y2⟩ := x; kernel_rfl
  · intro x z; obtain ⟨y0, y1, y2⟩ := x; exact (And.intro rfl trivial)

def ka8 (x0 : Int) (x1 : List (Int × Int)) : Int × Int × List (Int × Int) :=
  ((0 : Int), x0, x1)

def kc6 (x0 : Int) (x1 : List (Int × Int)) : Int × List (Int × Int) :=
  Prod.snd (Prod.snd (Lp.res ky (ka8 x0 x1)))

def kfc (x0 : Int) (x1 : List (Int × Int)) : Int :=
  Prod.fst (kc6 x0 x1)

def kez (x0 : Int) (x1 : List (Int × Int)) : List (Int × Int) :=
  Prod.snd (kc6 x0 x1)

def kf9 (x0 : Int) (x1 : List (Int × Int)) : Bool :=
  allT [Lp.fin ky (ka8 x0 x1)]

def kim : List SV → List Entry → Option Out
  | [.one ⟨false, [.ref 0]⟩, .one ⟨false, [.val (.int .i64 x0)]⟩], [.row true 67 (.pair (.int .i64) (.int .i64)) x1] => some ⟨(.one ⟨false, [(.val (.int IntKind.i64 (kfc x0 x1)))]⟩), [(.row true 67 (CTy.pair (CTy.int IntKind.i64) (CTy.int IntKind.i64)) (kez x0 x1))], [], [(kf9 x0 x1)]⟩
  | _, _ => none

def kmj : PF Try.prog := PF.ofG Try.prog [] [ky.F] hmix 27 Try.f27 Try.func27 (LOk.fnT (l := [loopAt Try.f27 0]) (by kernel_rfl) (.cons kih (.nil _))) kim (by
  intro vs es r h; unfold kim at h; split at h
  · cases h; kernel_rfl
  · cases h)

abbrev kq := Int × Int × List (Int × (Int × Int))

def k1k (y0 : Int) (y2 : List (Int × (Int × Int))) : Int × Int × Int :=
  Option.getD y2[Int.toNat y0]? ((0 : Int), (0 : Int), (0 : Int))

def k2c (y1 : Int) : Int :=
  IntKind.wrap IntKind.i64 (y1 + (1 : Int))

def k2b (y1 : Int) : Int :=
  IntKind.wrap IntKind.i64 (k2c y1 + (1 : Int))

def k1b (y0 : Int) (y2 : List (Int × (Int × Int))) : Bool :=
  ltI y0 (↑(List.length y2) : Int)

def k1u (y0 : Int) : Bool :=
  leI (0 : Int) y0

def k1t (y0 : Int) (y2 : List (Int × (Int × Int))) : Bool :=
  ltN (Int.toNat y0) (List.length y2)

def k44 (y0 : Int) (y1 : Int) (y2 : List (Int × (Int × Int))) : Bool :=
  Prod.fst (k1k y0 y2) != y1

def kr  : Int :=
  (-1 : Int)

def k3u (y0 : Int) (y1 : Int) (y2 : List (Int × (Int × Int))) : Bool :=
  Prod.fst (Prod.snd (k1k y0 y2)) != k2c y1

def k3z (y0 : Int) (y1 : Int) (y2 : List (Int × (Int × Int))) : Bool :=
  Prod.snd (Prod.snd (k1k y0 y2)) != k2b y1

def k42 (y0 : Int) : Int :=
  IntKind.wrap IntKind.i64 (y0 + (1 : Int))

def k3v (y1 : Int) : Int :=
  IntKind.wrap IntKind.i64 (k2b y1 + (1 : Int))

def kfq : kq → List (Nat × SV)
  | (y0, y1, _) => [(5, (.one ⟨false, [(.val (.int IntKind.i64 y0))]⟩)), (0, (.one ⟨false, [(.ref 0)]⟩)), (1, (.one ⟨false, [(.val (.int IntKind.i64 y1))]⟩))]

def kfp : kq → List (Nat × Entry)
  | (_, _, y2) => [(0, (.row false 58 (CTy.pair (CTy.int IntKind.i64) (CTy.pair (CTy.int IntKind.i64) (CTy.int IntKind.i64))) y2))]

def kfn : Nat → kq → List (Nat × SV)
  | 0, (_, _, _) => [(4, (.one ⟨false, [(.val (.int IntKind.i64 (kr)))]⟩))]
  | 1, (_, _, _) => [(4, (.one ⟨false, [(.val (.int IntKind.i64 (kr)))]⟩))]
  | 2, (_, _, _) => [(4, (.one ⟨false, [(.val (.int IntKind.i64 (kr)))]⟩))]
  | _, (_, y1, _) => [(1, (.one ⟨false, [(.val (.int IntKind.i64 y1))]⟩))]

def kfi : Nat → kq → List (Nat × Entry)
  | 0, (_, _, y2) => [(0, (.row false 58 (CTy.pair (CTy.int IntKind.i64) (CTy.pair (CTy.int IntKind.i64) (CTy.int IntKind.i64))) y2))]
  | 1, (_, _, y2) => [(0, (.row false 58 (CTy.pair (CTy.int IntKind.i64) (CTy.pair (CTy.int IntKind.i64) (CTy.int IntKind.i64))) y2))]
  | 2, (_, _, y2) => [(0, (.row false 58 (CTy.pair (CTy.int IntKind.i64) (CTy.pair (CTy.int IntKind.i64) (CTy.int IntKind.i64))) y2))]
  | _, (_, _, y2) => [(0, (.row false 58 (CTy.pair (CTy.int IntKind.i64) (CTy.pair (CTy.int IntKind.i64) (CTy.int IntKind.i64))) y2))]

def k3m : kq → LT kq
  | (y0, y1, y2) => .ite (k1b y0 y2) (.need [(k1u y0), (k1b y0 y2), (k1t y0 y2)] (.ite (k44 y0 y1 y2) (.ext 0 [(0, 0)]) (.need [(k1u y0), (k1b y0 y2), (k1t y0 y2)] (.ite (k3u y0 y1 y2) (.ext 1 [(0, 0)]) (.need [(k1u y0), (k1b y0 y2), (k1t y0 y2)] (.ite (k3z y0 y1 y2) (.ext 2 [(0, 0)]) (.nrm ((k42 y0), (k3v y1), y2) [(0, 0)]))))))) (.ext 3 [(0, 0)])

def k7e (s : St) : Option kq :=
  (match s.look 5 with
  | some ⟨none, (.one ⟨false, [(.val (.int IntKind.i64 y0))]⟩)⟩ =>
  (match s.look 0 with
  | some ⟨none, (.one ⟨false, [(.ref 0)]⟩)⟩ =>
  (match s.look 1 with
  | some ⟨none, (.one ⟨false, [(.val (.int IntKind.i64 y1))]⟩)⟩ =>
  (match s.ent 0 with
  | some (.row false 58 (CTy.pair (CTy.int IntKind.i64) (CTy.pair (CTy.int IntKind.i64) (CTy.int IntKind.i64))) y2) =>
  some (y0, y1, y2)
  | _ => none)
  | _ => none)
  | _ => none)
  | _ => none)

def k7 : Lp kq where
  h := ⟨[6, 7, 8, 9, 12, 13, 14, 15, 16, 17, 18, 4, 19, 20, 1, 21, 22, 23, 24, 25, 26, 27, 28, 29, 30, 31, 32, 33, 34, 35, 36, 37, 38, 10, 11, 5], [0], [], []⟩
  JL := kfq
  JE := kfp
  XL := kfn
  XE := kfi
  q := fun j => match j with | 0 => .ret | 1 => .ret | 2 => .ret | _ => .exit 0
  tags := [0, 1, 2, 3]
  lt := k3m
  fuel := fun (y0, y1, y2) => y0.natAbs + y1.natAbs + y2.length
  fix := fun (_, _, y2) (y0, y1, _) => (y0, y1, y2)
  σ := [(0, 0)]
  rd := k7e

theorem kek : LoopOk Try.prog (fun k => Nat.blt k Try.f29.ntmps) k7.F (loopAt Try.f29 0) := by
  refine Lp.ok (tbl := []) (lf := []) hmix k7 (by kernel_rfl) (LOk.nil _) (fun _ => rfl) (fun j _ => by unfold k7; match j with | 0 => rfl | 1 => rfl | 2 => rfl | _ + 3 => rfl) ?_ ?_ ?_ ?_ (fun _ => rfl) ?_
  · intro x; obtain ⟨y0, y1, y2⟩ := x; kernel_rfl
  · intro x; obtain ⟨y0, y1, y2⟩ := x; kernel_rfl
  · intro s x h
    have h : k7e s = some x := h
    unfold k7e at h
    repeat' split at h
    all_goals cases h
    exact ⟨absS_cons (by assumption) rfl (absS_cons (by assumption) rfl (absS_cons (by assumption) rfl (rfl))), absE_cons rfl (by assumption) rfl (rfl)⟩
  · intro x; obtain ⟨y0, y1, y2⟩ := x; kernel_rfl
  · intro x z; obtain ⟨y0, y1, y2⟩ := x; exact (And.intro (And.intro trivial (And.intro trivial (And.intro trivial rfl))) trivial)

def k2k (x0 : Int) (x1 : List (Int × Int × Int)) : Int × Int × List (Int × Int × Int) :=
  ((0 : Int), x0, x1)

def k7d (x0 : Int) (x1 : List (Int × Int × Int)) : Int :=
  bif Nat.beq (Prod.fst (Lp.res k7 (k2k x0 x1))) (0 : Nat) then kr
  else
  bif Nat.beq (Prod.fst (Lp.res k7 (k2k x0 x1))) (1 : Nat) then kr
  else
    bif Nat.beq (Prod.fst (Lp.res k7 (k2k x0 x1))) (2 : Nat) then kr
    else Prod.fst (Prod.snd (Prod.snd (Lp.res k7 (k2k x0 x1))))

def kb4 (x0 : Int) (x1 : List (Int × Int × Int)) : Bool :=
  allT [Lp.fin k7 (k2k x0 x1)]

def kd2 : List SV → List Entry → Option Out
  | [.one ⟨false, [.ref 0]⟩, .one ⟨false, [.val (.int .i64 x0)]⟩], [.row false 58 (.pair (.int .i64) (.pair (.int .i64) (.int .i64))) x1] => some ⟨(.one ⟨false, [(.val (.int IntKind.i64 (k7d x0 x1)))]⟩), [(.row false 58 (CTy.pair (CTy.int IntKind.i64) (CTy.pair (CTy.int IntKind.i64) (CTy.int IntKind.i64))) x1)], [], [(kb4 x0 x1)]⟩
  | _, _ => none

def khw : PF Try.prog := PF.ofG Try.prog [] [k7.F] hmix 29 Try.f29 Try.func29 (LOk.fnT (l := [loopAt Try.f29 0]) (by kernel_rfl) (.cons kek (.nil _))) kd2 (by
  intro vs es r h; unfold kd2 at h; split at h
  · cases h; kernel_rfl
  · cases h)

abbrev k1j := Int × Int × List (List Int)

def k1m (y0 : Int) (y2 : List (List Int)) : List Int :=
  Option.getD y2[Int.toNat y0]? (dflt (CTy.sl (2 : Nat) (CTy.int IntKind.i64)))

def k57 (y0 : Int) (y2 : List (List Int)) : Bool :=
  ltI y0 (↑(List.length y2) : Int)

def k90 (y0 : Int) : Bool :=
  leI (0 : Int) y0

def k94 (y0 : Int) (y2 : List (List Int)) : Bool :=
  ltN (Int.toNat y0) (List.length y2)

def k93 (y0 : Int) (y2 : List (List Int)) : Bool :=
  leN (List.length (k1m y0 y2)) (9223372036854775807 : Nat)

def k6k (y0 : Int) (y1 : Int) (y2 : List (List Int)) : Bool :=
  ltI (heldV y1 (k1m y0 y2)) (0 : Int)

def k6g  : Int :=
  (-1 : Int)

def k97 (y0 : Int) : Int :=
  IntKind.wrap IntKind.i64 (y0 + (1 : Int))

def k6f (y0 : Int) (y1 : Int) (y2 : List (List Int)) : Int :=
  heldV y1 (k1m y0 y2)

def kig : k1j → List (Nat × SV)
  | (y0, y1, _) => [(5, (.one ⟨false, [(.val (.int IntKind.i64 y0))]⟩)), (0, (.one ⟨false, [(.ref 0)]⟩)), (1, (.one ⟨false, [(.val (.int IntKind.i64 y1))]⟩))]

def kik : k1j → List (Nat × Entry)
  | (_, _, y2) => [(0, (.row false 22 (CTy.sl (2 : Nat) (CTy.int IntKind.i64)) y2))]

def kib : Nat → k1j → List (Nat × SV)
  | 0, (_, _, _) => [(4, (.one ⟨false, [(.val (.int IntKind.i64 (k6g)))]⟩))]
  | _, (_, y1, _) => [(1, (.one ⟨false, [(.val (.int IntKind.i64 y1))]⟩))]

def kia : Nat → k1j → List (Nat × Entry)
  | 0, (_, _, y2) => [(0, (.row false 22 (CTy.sl (2 : Nat) (CTy.int IntKind.i64)) y2))]
  | _, (_, _, y2) => [(0, (.row false 22 (CTy.sl (2 : Nat) (CTy.int IntKind.i64)) y2))]

def k5w : k1j → LT k1j
  | (y0, y1, y2) => .ite (k57 y0 y2) (.need [(k90 y0), (k57 y0 y2), (k94 y0 y2), (k93 y0 y2)] (.ite (k6k y0 y1 y2) (.ext 0 [(0, 0)]) (.nrm ((k97 y0), (k6f y0 y1 y2), y2) [(0, 0)]))) (.ext 1 [(0, 0)])

def kbf (s : St) : Option k1j :=
  (match s.look 5 with
  | some ⟨none, (.one ⟨false, [(.val (.int IntKind.i64 y0))]⟩)⟩ =>
  (match s.look 0 with
  | some ⟨none, (.one ⟨false, [(.ref 0)]⟩)⟩ =>
  (match s.look 1 with
  | some ⟨none, (.one ⟨false, [(.val (.int IntKind.i64 y1))]⟩)⟩ =>
  (match s.ent 0 with
  | some (.row false 22 (CTy.sl (2 : Nat) (CTy.int IntKind.i64)) y2) =>
  some (y0, y1, y2)
  | _ => none)
  | _ => none)
  | _ => none)
  | _ => none)

def kf : Lp k1j where
  h := ⟨[6, 7, 8, 9, 12, 13, 14, 15, 16, 17, 1, 18, 19, 4, 10, 11, 5], [0], [], []⟩
  JL := kig
  JE := kik
  XL := kib
  XE := kia
  q := fun j => match j with | 0 => .ret | _ => .exit 0
  tags := [0, 1]
  lt := k5w
  fuel := fun (y0, y1, y2) => y0.natAbs + y1.natAbs + y2.length
  fix := fun (_, _, y2) (y0, y1, _) => (y0, y1, y2)
  σ := [(0, 0)]
  rd := kbf

theorem khb : LoopOk Try.prog (fun k => Nat.blt k Try.f30.ntmps) kf.F (loopAt Try.f30 0) := by
  refine Lp.ok (tbl := [k47, PF.lend k47, PF.fz k47]) (lf := []) hmix kf (by kernel_rfl) (LOk.nil _) (fun _ => rfl) (fun j _ => by unfold kf; match j with | 0 => rfl | _ + 1 => rfl) ?_ ?_ ?_ ?_ (fun _ => rfl) ?_
  · intro x; obtain ⟨y0, y1, y2⟩ := x; kernel_rfl
  · intro x; obtain ⟨y0, y1, y2⟩ := x; kernel_rfl
  · intro s x h
    have h : kbf s = some x := h
    unfold kbf at h
    repeat' split at h
    all_goals cases h
    exact ⟨absS_cons (by assumption) rfl (absS_cons (by assumption) rfl (absS_cons (by assumption) rfl (rfl))), absE_cons rfl (by assumption) rfl (rfl)⟩
  · intro x; obtain ⟨y0, y1, y2⟩ := x; kernel_rfl
  · intro x z; obtain ⟨y0, y1, y2⟩ := x; exact (And.intro (And.intro trivial rfl) trivial)

def kb7 (x0 : Int) (x1 : List (List Int)) : Int × Int × List (List Int) :=
  ((0 : Int), x0, x1)

def kdn (x0 : Int) (x1 : List (List Int)) : Int :=
  bif Nat.beq (Prod.fst (Lp.res kf (kb7 x0 x1))) (0 : Nat) then k6g
  else Prod.fst (Prod.snd (Prod.snd (Lp.res kf (kb7 x0 x1))))

def kdj (x0 : Int) (x1 : List (List Int)) : Bool :=
  allT [Lp.fin kf (kb7 x0 x1)]

def kgu : List SV → List Entry → Option Out
  | [.one ⟨false, [.ref 0]⟩, .one ⟨false, [.val (.int .i64 x0)]⟩], [.row false 22 (.sl 2 (.int .i64)) x1] => some ⟨(.one ⟨false, [(.val (.int IntKind.i64 (kdn x0 x1)))]⟩), [(.row false 22 (CTy.sl (2 : TypeId) (CTy.int IntKind.i64)) x1)], [], [(kdj x0 x1)]⟩
  | _, _ => none

def kl0 : PF Try.prog := PF.ofG Try.prog [k47, PF.lend k47, PF.fz k47] [kf.F] hmix 30 Try.f30 Try.func30 (LOk.fnT (l := [loopAt Try.f30 0]) (by kernel_rfl) (.cons khb (.nil _))) kgu (by
  intro vs es r h; unfold kgu at h; split at h
  · cases h; kernel_rfl
  · cases h)

abbrev kz := Int × Int × List (Int × (Int × Int))

def k20 (y0 : Int) (y2 : List (Int × (Int × Int))) : Int × Int × Int :=
  Option.getD y2[Int.toNat y0]? ((0 : Int), (0 : Int), (0 : Int))

def k31 (y1 : Int) : Int :=
  IntKind.wrap IntKind.i64 (y1 + (1 : Int))

def k2w (y1 : Int) : Int :=
  IntKind.wrap IntKind.i64 (k31 y1 + (1 : Int))

def k1p (y0 : Int) (y2 : List (Int × (Int × Int))) : Bool :=
  ltI y0 (↑(List.length y2) : Int)

def k2j (y0 : Int) : Bool :=
  leI (0 : Int) y0

def k2l (y0 : Int) (y2 : List (Int × (Int × Int))) : Bool :=
  ltN (Int.toNat y0) (List.length y2)

def k53 (y0 : Int) (y1 : Int) (y2 : List (Int × (Int × Int))) : Bool :=
  Prod.fst (k20 y0 y2) != y1

def k10  : Int :=
  (-1 : Int)

def k4z (y0 : Int) (y1 : Int) (y2 : List (Int × (Int × Int))) : Bool :=
  Prod.fst (Prod.snd (k20 y0 y2)) != k31 y1

def k55 (y0 : Int) (y1 : Int) (y2 : List (Int × (Int × Int))) : Bool :=
  Prod.snd (Prod.snd (k20 y0 y2)) != k2w y1

def k51 (y0 : Int) : Int :=
  IntKind.wrap IntKind.i64 (y0 + (1 : Int))

def k4o (y1 : Int) : Int :=
  IntKind.wrap IntKind.i64 (k2w y1 + (1 : Int))

def kgs : kz → List (Nat × SV)
  | (y0, y1, _) => [(5, (.one ⟨false, [(.val (.int IntKind.i64 y0))]⟩)), (0, (.one ⟨false, [(.ref 0)]⟩)), (1, (.one ⟨false, [(.val (.int IntKind.i64 y1))]⟩))]

def kge : kz → List (Nat × Entry)
  | (_, _, y2) => [(0, (.row false 61 (CTy.pair (CTy.int IntKind.i64) (CTy.pair (CTy.int IntKind.i64) (CTy.int IntKind.i64))) y2))]

def kgj : Nat → kz → List (Nat × SV)
  | 0, (_, _, _) => [(4, (.one ⟨false, [(.val (.int IntKind.i64 (k10)))]⟩))]
  | 1, (_, _, _) => [(4, (.one ⟨false, [(.val (.int IntKind.i64 (k10)))]⟩))]
  | 2, (_, _, _) => [(4, (.one ⟨false, [(.val (.int IntKind.i64 (k10)))]⟩))]
  | _, (_, y1, _) => [(1, (.one ⟨false, [(.val (.int IntKind.i64 y1))]⟩))]

def kgr : Nat → kz → List (Nat × Entry)
  | 0, (_, _, y2) => [(0, (.row false 61 (CTy.pair (CTy.int IntKind.i64) (CTy.pair (CTy.int IntKind.i64) (CTy.int IntKind.i64))) y2))]
  | 1, (_, _, y2) => [(0, (.row false 61 (CTy.pair (CTy.int IntKind.i64) (CTy.pair (CTy.int IntKind.i64) (CTy.int IntKind.i64))) y2))]
  | 2, (_, _, y2) => [(0, (.row false 61 (CTy.pair (CTy.int IntKind.i64) (CTy.pair (CTy.int IntKind.i64) (CTy.int IntKind.i64))) y2))]
  | _, (_, _, y2) => [(0, (.row false 61 (CTy.pair (CTy.int IntKind.i64) (CTy.pair (CTy.int IntKind.i64) (CTy.int IntKind.i64))) y2))]

def k4f : kz → LT kz
  | (y0, y1, y2) => .ite (k1p y0 y2) (.need [(k2j y0), (k1p y0 y2), (k2l y0 y2)] (.ite (k53 y0 y1 y2) (.ext 0 [(0, 0)]) (.need [(k2j y0), (k1p y0 y2), (k2l y0 y2)] (.ite (k4z y0 y1 y2) (.ext 1 [(0, 0)]) (.need [(k2j y0), (k1p y0 y2), (k2l y0 y2)] (.ite (k55 y0 y1 y2) (.ext 2 [(0, 0)]) (.nrm ((k51 y0), (k4o y1), y2) [(0, 0)]))))))) (.ext 3 [(0, 0)])

def k9d (s : St) : Option kz :=
  (match s.look 5 with
  | some ⟨none, (.one ⟨false, [(.val (.int IntKind.i64 y0))]⟩)⟩ =>
  (match s.look 0 with
  | some ⟨none, (.one ⟨false, [(.ref 0)]⟩)⟩ =>
  (match s.look 1 with
  | some ⟨none, (.one ⟨false, [(.val (.int IntKind.i64 y1))]⟩)⟩ =>
  (match s.ent 0 with
  | some (.row false 61 (CTy.pair (CTy.int IntKind.i64) (CTy.pair (CTy.int IntKind.i64) (CTy.int IntKind.i64))) y2) =>
  some (y0, y1, y2)
  | _ => none)
  | _ => none)
  | _ => none)
  | _ => none)

def k8 : Lp kz where
  h := ⟨[6, 7, 8, 9, 12, 13, 14, 15, 16, 17, 18, 4, 19, 20, 1, 21, 22, 23, 24, 25, 26, 27, 28, 29, 30, 31, 32, 33, 34, 35, 36, 37, 38, 10, 11, 5], [0], [], []⟩
  JL := kgs
  JE := kge
  XL := kgj
  XE := kgr
  q := fun j => match j with | 0 => .ret | 1 => .ret | 2 => .ret | _ => .exit 0
  tags := [0, 1, 2, 3]
  lt := k4f
  fuel := fun (y0, y1, y2) => y0.natAbs + y1.natAbs + y2.length
  fix := fun (_, _, y2) (y0, y1, _) => (y0, y1, y2)
  σ := [(0, 0)]
  rd := k9d

theorem kfh : LoopOk Try.prog (fun k => Nat.blt k Try.f31.ntmps) k8.F (loopAt Try.f31 0) := by
  refine Lp.ok (tbl := []) (lf := []) hmix k8 (by kernel_rfl) (LOk.nil _) (fun _ => rfl) (fun j _ => by unfold k8; match j with | 0 => rfl | 1 => rfl | 2 => rfl | _ + 3 => rfl) ?_ ?_ ?_ ?_ (fun _ => rfl) ?_
  · intro x; obtain ⟨y0, y1, y2⟩ := x; kernel_rfl
  · intro x; obtain ⟨y0, y1, y2⟩ := x; kernel_rfl
  · intro s x h
    have h : k9d s = some x := h
    unfold k9d at h
    repeat' split at h
    all_goals cases h
    exact ⟨absS_cons (by assumption) rfl (absS_cons (by assumption) rfl (absS_cons (by assumption) rfl (rfl))), absE_cons rfl (by assumption) rfl (rfl)⟩
  · intro x; obtain ⟨y0, y1, y2⟩ := x; kernel_rfl
  · intro x z; obtain ⟨y0, y1, y2⟩ := x; exact (And.intro (And.intro trivial (And.intro trivial (And.intro trivial rfl))) trivial)

def k33 (x0 : Int) (x1 : List (Int × Int × Int)) : Int × Int × List (Int × Int × Int) :=
  ((0 : Int), x0, x1)

def k92 (x0 : Int) (x1 : List (Int × Int × Int)) : Int :=
  bif Nat.beq (Prod.fst (Lp.res k8 (k33 x0 x1))) (0 : Nat) then k10
  else
  bif Nat.beq (Prod.fst (Lp.res k8 (k33 x0 x1))) (1 : Nat) then k10
  else
    bif Nat.beq (Prod.fst (Lp.res k8 (k33 x0 x1))) (2 : Nat) then k10
    else Prod.fst (Prod.snd (Prod.snd (Lp.res k8 (k33 x0 x1))))

def kbo (x0 : Int) (x1 : List (Int × Int × Int)) : Bool :=
  allT [Lp.fin k8 (k33 x0 x1)]

def ked : List SV → List Entry → Option Out
  | [.one ⟨false, [.ref 0]⟩, .one ⟨false, [.val (.int .i64 x0)]⟩], [.row false 61 (.pair (.int .i64) (.pair (.int .i64) (.int .i64))) x1] => some ⟨(.one ⟨false, [(.val (.int IntKind.i64 (k92 x0 x1)))]⟩), [(.row false 61 (CTy.pair (CTy.int IntKind.i64) (CTy.pair (CTy.int IntKind.i64) (CTy.int IntKind.i64))) x1)], [], [(kbo x0 x1)]⟩
  | _, _ => none

def kiz : PF Try.prog := PF.ofG Try.prog [] [k8.F] hmix 31 Try.f31 Try.func31 (LOk.fnT (l := [loopAt Try.f31 0]) (by kernel_rfl) (.cons kfh (.nil _))) ked (by
  intro vs es r h; unfold ked at h; split at h
  · cases h; kernel_rfl
  · cases h)

abbrev k25 := Int × Int × List (Int × Int)

def k5p (y0 : Int) (y2 : List (Int × Int)) : Int × Int :=
  Option.getD y2[Int.toNat y0]? ((0 : Int), (0 : Int))

def k5i (y1 : Int) : Int :=
  IntKind.wrap IntKind.i64 (y1 + (1 : Int))

def k4x (y0 : Int) (y2 : List (Int × Int)) : Bool :=
  ltI y0 (↑(List.length y2) : Int)

def k69 (y0 : Int) : Bool :=
  leI (0 : Int) y0

def k6a (y0 : Int) (y2 : List (Int × Int)) : Bool :=
  ltN (Int.toNat y0) (List.length y2)

def k82 (y0 : Int) (y1 : Int) (y2 : List (Int × Int)) : Bool :=
  Prod.fst (k5p y0 y2) != y1

def k3o  : Int :=
  (-1 : Int)

def k7r (y0 : Int) (y1 : Int) (y2 : List (Int × Int)) : Bool :=
  Prod.snd (k5p y0 y2) != k5i y1

def k7z (y0 : Int) : Int :=
  IntKind.wrap IntKind.i64 (y0 + (1 : Int))

def k8p (y1 : Int) : Int :=
  IntKind.wrap IntKind.i64 (k5i y1 + (1 : Int))

def kjw : k25 → List (Nat × SV)
  | (y0, y1, _) => [(5, (.one ⟨false, [(.val (.int IntKind.i64 y0))]⟩)), (0, (.one ⟨false, [(.ref 0)]⟩)), (1, (.one ⟨false, [(.val (.int IntKind.i64 y1))]⟩))]

def kjp : k25 → List (Nat × Entry)
  | (_, _, y2) => [(0, (.row false 64 (CTy.pair (CTy.int IntKind.i64) (CTy.int IntKind.i64)) y2))]

def kkc : Nat → k25 → List (Nat × SV)
  | 0, (_, _, _) => [(4, (.one ⟨false, [(.val (.int IntKind.i64 (k3o)))]⟩))]
  | 1, (_, _, _) => [(4, (.one ⟨false, [(.val (.int IntKind.i64 (k3o)))]⟩))]
  | _, (_, y1, _) => [(1, (.one ⟨false, [(.val (.int IntKind.i64 y1))]⟩))]

def kk0 : Nat → k25 → List (Nat × Entry)
  | 0, (_, _, y2) => [(0, (.row false 64 (CTy.pair (CTy.int IntKind.i64) (CTy.int IntKind.i64)) y2))]
  | 1, (_, _, y2) => [(0, (.row false 64 (CTy.pair (CTy.int IntKind.i64) (CTy.int IntKind.i64)) y2))]
  | _, (_, _, y2) => [(0, (.row false 64 (CTy.pair (CTy.int IntKind.i64) (CTy.int IntKind.i64)) y2))]

def k70 : k25 → LT k25
  | (y0, y1, y2) => .ite (k4x y0 y2) (.need [(k69 y0), (k4x y0 y2), (k6a y0 y2)] (.ite (k82 y0 y1 y2) (.ext 0 [(0, 0)]) (.need [(k69 y0), (k4x y0 y2), (k6a y0 y2)] (.ite (k7r y0 y1 y2) (.ext 1 [(0, 0)]) (.nrm ((k7z y0), (k8p y1), y2) [(0, 0)]))))) (.ext 2 [(0, 0)])

def kcb (s : St) : Option k25 :=
  (match s.look 5 with
  | some ⟨none, (.one ⟨false, [(.val (.int IntKind.i64 y0))]⟩)⟩ =>
  (match s.look 0 with
  | some ⟨none, (.one ⟨false, [(.ref 0)]⟩)⟩ =>
  (match s.look 1 with
  | some ⟨none, (.one ⟨false, [(.val (.int IntKind.i64 y1))]⟩)⟩ =>
  (match s.ent 0 with
  | some (.row false 64 (CTy.pair (CTy.int IntKind.i64) (CTy.int IntKind.i64)) y2) =>
  some (y0, y1, y2)
  | _ => none)
  | _ => none)
  | _ => none)
  | _ => none)

def ki : Lp k25 where
  h := ⟨[6, 7, 8, 9, 12, 13, 14, 15, 16, 17, 18, 4, 19, 20, 1, 21, 22, 23, 24, 25, 26, 27, 28, 29, 10, 11, 5], [0], [], []⟩
  JL := kjw
  JE := kjp
  XL := kkc
  XE := kk0
  q := fun j => match j with | 0 => .ret | 1 => .ret | _ => .exit 0
  tags := [0, 1, 2]
  lt := k70
  fuel := fun (y0, y1, y2) => y0.natAbs + y1.natAbs + y2.length
  fix := fun (_, _, y2) (y0, y1, _) => (y0, y1, y2)
  σ := [(0, 0)]
  rd := kcb

theorem kie : LoopOk Try.prog (fun k => Nat.blt k Try.f32.ntmps) ki.F (loopAt Try.f32 0) := by
  refine Lp.ok (tbl := []) (lf := []) hmix ki (by kernel_rfl) (LOk.nil _) (fun _ => rfl) (fun j _ => by unfold ki; match j with | 0 => rfl | 1 => rfl | _ + 2 => rfl) ?_ ?_ ?_ ?_ (fun _ => rfl) ?_
  · intro x; obtain ⟨y0, y1, y2⟩ := x; kernel_rfl
  · intro x; obtain ⟨y0, y1, y2⟩ := x; kernel_rfl
  · intro s x h
    have h : kcb s = some x := h
    unfold kcb at h
    repeat' split at h
    all_goals cases h
    exact ⟨absS_cons (by assumption) rfl (absS_cons (by assumption) rfl (absS_cons (by assumption) rfl (rfl))), absE_cons rfl (by assumption) rfl (rfl)⟩
  · intro x; obtain ⟨y0, y1, y2⟩ := x; kernel_rfl
  · intro x z; obtain ⟨y0, y1, y2⟩ := x; exact (And.intro (And.intro trivial (And.intro trivial rfl)) trivial)

def k7j (x0 : Int) (x1 : List (Int × Int)) : Int × Int × List (Int × Int) :=
  ((0 : Int), x0, x1)

def kcq (x0 : Int) (x1 : List (Int × Int)) : Int :=
  bif Nat.beq (Prod.fst (Lp.res ki (k7j x0 x1))) (0 : Nat) then k3o
  else
  bif Nat.beq (Prod.fst (Lp.res ki (k7j x0 x1))) (1 : Nat) then k3o
  else Prod.fst (Prod.snd (Prod.snd (Lp.res ki (k7j x0 x1))))

def kfb (x0 : Int) (x1 : List (Int × Int)) : Bool :=
  allT [Lp.fin ki (k7j x0 x1)]

def kip : List SV → List Entry → Option Out
  | [.one ⟨false, [.ref 0]⟩, .one ⟨false, [.val (.int .i64 x0)]⟩], [.row false 64 (.pair (.int .i64) (.int .i64)) x1] => some ⟨(.one ⟨false, [(.val (.int IntKind.i64 (kcq x0 x1)))]⟩), [(.row false 64 (CTy.pair (CTy.int IntKind.i64) (CTy.int IntKind.i64)) x1)], [], [(kfb x0 x1)]⟩
  | _, _ => none

def kmh : PF Try.prog := PF.ofG Try.prog [] [ki.F] hmix 32 Try.f32 Try.func32 (LOk.fnT (l := [loopAt Try.f32 0]) (by kernel_rfl) (.cons kie (.nil _))) kip (by
  intro vs es r h; unfold kip at h; split at h
  · cases h; kernel_rfl
  · cases h)

abbrev k26 := Int × Int × List (Int × Int)

def k5j (y0 : Int) (y2 : List (Int × Int)) : Int × Int :=
  Option.getD y2[Int.toNat y0]? ((0 : Int), (0 : Int))

def k5c (y1 : Int) : Int :=
  IntKind.wrap IntKind.i64 (y1 + (1 : Int))

def k4j (y0 : Int) (y2 : List (Int × Int)) : Bool :=
  ltI y0 (↑(List.length y2) : Int)

def k68 (y0 : Int) : Bool :=
  leI (0 : Int) y0

def k63 (y0 : Int) (y2 : List (Int × Int)) : Bool :=
  ltN (Int.toNat y0) (List.length y2)

def k8k (y0 : Int) (y1 : Int) (y2 : List (Int × Int)) : Bool :=
  Prod.fst (k5j y0 y2) != y1

def k3q  : Int :=
  (-1 : Int)

def k89 (y0 : Int) (y1 : Int) (y2 : List (Int × Int)) : Bool :=
  Prod.snd (k5j y0 y2) != k5c y1

def k8o (y0 : Int) : Int :=
  IntKind.wrap IntKind.i64 (y0 + (1 : Int))

def k87 (y1 : Int) : Int :=
  IntKind.wrap IntKind.i64 (k5c y1 + (1 : Int))

def kk3 : k26 → List (Nat × SV)
  | (y0, y1, _) => [(5, (.one ⟨false, [(.val (.int IntKind.i64 y0))]⟩)), (0, (.one ⟨false, [(.ref 0)]⟩)), (1, (.one ⟨false, [(.val (.int IntKind.i64 y1))]⟩))]

def kk9 : k26 → List (Nat × Entry)
  | (_, _, y2) => [(0, (.row false 67 (CTy.pair (CTy.int IntKind.i64) (CTy.int IntKind.i64)) y2))]

def kjq : Nat → k26 → List (Nat × SV)
  | 0, (_, _, _) => [(4, (.one ⟨false, [(.val (.int IntKind.i64 (k3q)))]⟩))]
  | 1, (_, _, _) => [(4, (.one ⟨false, [(.val (.int IntKind.i64 (k3q)))]⟩))]
  | _, (_, y1, _) => [(1, (.one ⟨false, [(.val (.int IntKind.i64 y1))]⟩))]

def kk7 : Nat → k26 → List (Nat × Entry)
  | 0, (_, _, y2) => [(0, (.row false 67 (CTy.pair (CTy.int IntKind.i64) (CTy.int IntKind.i64)) y2))]
  | 1, (_, _, y2) => [(0, (.row false 67 (CTy.pair (CTy.int IntKind.i64) (CTy.int IntKind.i64)) y2))]
  | _, (_, _, y2) => [(0, (.row false 67 (CTy.pair (CTy.int IntKind.i64) (CTy.int IntKind.i64)) y2))]

def k78 : k26 → LT k26
  | (y0, y1, y2) => .ite (k4j y0 y2) (.need [(k68 y0), (k4j y0 y2), (k63 y0 y2)] (.ite (k8k y0 y1 y2) (.ext 0 [(0, 0)]) (.need [(k68 y0), (k4j y0 y2), (k63 y0 y2)] (.ite (k89 y0 y1 y2) (.ext 1 [(0, 0)]) (.nrm ((k8o y0), (k87 y1), y2) [(0, 0)]))))) (.ext 2 [(0, 0)])

def kce (s : St) : Option k26 :=
  (match s.look 5 with
  | some ⟨none, (.one ⟨false, [(.val (.int IntKind.i64 y0))]⟩)⟩ =>
  (match s.look 0 with
  | some ⟨none, (.one ⟨false, [(.ref 0)]⟩)⟩ =>
  (match s.look 1 with
  | some ⟨none, (.one ⟨false, [(.val (.int IntKind.i64 y1))]⟩)⟩ =>
  (match s.ent 0 with
  | some (.row false 67 (CTy.pair (CTy.int IntKind.i64) (CTy.int IntKind.i64)) y2) =>
  some (y0, y1, y2)
  | _ => none)
  | _ => none)
  | _ => none)
  | _ => none)

def kk : Lp k26 where
  h := ⟨[6, 7, 8, 9, 12, 13, 14, 15, 16, 17, 18, 4, 19, 20, 1, 21, 22, 23, 24, 25, 26, 27, 28, 29, 10, 11, 5], [0], [], []⟩
  JL := kk3
  JE := kk9
  XL := kjq
  XE := kk7
  q := fun j => match j with | 0 => .ret | 1 => .ret | _ => .exit 0
  tags := [0, 1, 2]
  lt := k78
  fuel := fun (y0, y1, y2) => y0.natAbs + y1.natAbs + y2.length
  fix := fun (_, _, y2) (y0, y1, _) => (y0, y1, y2)
  σ := [(0, 0)]
  rd := kce

theorem ki5 : LoopOk Try.prog (fun k => Nat.blt k Try.f33.ntmps) kk.F (loopAt Try.f33 0) := by
  refine Lp.ok (tbl := []) (lf := []) hmix kk (by kernel_rfl) (LOk.nil _) (fun _ => rfl) (fun j _ => by unfold kk; match j with | 0 => rfl | 1 => rfl | _ + 2 => rfl) ?_ ?_ ?_ ?_ (fun _ => rfl) ?_
  · intro x; obtain ⟨y0, y1, y2⟩ := x; kernel_rfl
  · intro x; obtain ⟨y0, y1, y2⟩ := x; kernel_rfl
  · intro s x h
    have h : kce s = some x := h
    unfold kce at h
    repeat' split at h
    all_goals cases h
    exact ⟨absS_cons (by assumption) rfl (absS_cons (by assumption) rfl (absS_cons (by assumption) rfl (rfl))), absE_cons rfl (by assumption) rfl (rfl)⟩
  · intro x; obtain ⟨y0, y1, y2⟩ := x; kernel_rfl
  · intro x z; obtain ⟨y0, y1, y2⟩ := x; exact (And.intro (And.intro trivial (And.intro trivial rfl)) trivial)

def k7n (x0 : Int) (x1 : List (Int × Int)) : Int × Int × List (Int × Int) :=
  ((0 : Int), x0, x1)

def kcu (x0 : Int) (x1 : List (Int × Int)) : Int :=
  bif Nat.beq (Prod.fst (Lp.res kk (k7n x0 x1))) (0 : Nat) then k3q
  else
  bif Nat.beq (Prod.fst (Lp.res kk (k7n x0 x1))) (1 : Nat) then k3q
  else Prod.fst (Prod.snd (Prod.snd (Lp.res kk (k7n x0 x1))))

def kf0 (x0 : Int) (x1 : List (Int × Int)) : Bool :=
  allT [Lp.fin kk (k7n x0 x1)]

def ki7 : List SV → List Entry → Option Out
  | [.one ⟨false, [.ref 0]⟩, .one ⟨false, [.val (.int .i64 x0)]⟩], [.row false 67 (.pair (.int .i64) (.int .i64)) x1] => some ⟨(.one ⟨false, [(.val (.int IntKind.i64 (kcu x0 x1)))]⟩), [(.row false 67 (CTy.pair (CTy.int IntKind.i64) (CTy.int IntKind.i64)) x1)], [], [(kf0 x0 x1)]⟩
  | _, _ => none

def kmk : PF Try.prog := PF.ofG Try.prog [] [kk.F] hmix 33 Try.f33 Try.func33 (LOk.fnT (l := [loopAt Try.f33 0]) (by kernel_rfl) (.cons ki5 (.nil _))) ki7 (by
  intro vs es r h; unfold ki7 at h; split at h
  · cases h; kernel_rfl
  · cases h)

end Go.SX

namespace Go.SX
open Go.Proofs
set_option maxRecDepth 100000

def upG {α : Type} (d : Nat) (mk : Int → α) (k : Int) (n : Nat) : List α := (List.range n).map fun (i : Nat) => mk (k + d * (i : Int))

theorem ke4 {α : Type} (d : Nat) (mk : Int → α) (k : Int) (n : Nat) : (upG d mk k n).length = n := by simp [upG]

theorem knm {α : Type} (d : Nat) (mk : Int → α) (k : Int) (n : Nat) : upG d mk k (n + 1) = mk k :: upG d mk (k + d) n := by
  unfold upG
  rw [List.range_succ_eq_map, List.map_cons, List.map_map]
  congr 1
  · simp
  · refine List.map_congr_left fun i _ => ?_
    simp only [Function.comp]
    congr 1
    simp [Int.mul_add]; omega

theorem kil {α : Type} {d : Nat} {mk : Int → α} {f : Nat → Int × List α → Nat ⊕ (Int × List α)} {e : Nat}
    (hf : ∀ (b : Nat) (k : Int) (xs : List α), b < xs.length → 0 ≤ k → k + d ≤ 9223372036854775807 → f b (k, xs) = .inr (k + d, xs.set b (mk k))) :
    ∀ (ys pre : List α) (k : Int), 0 ≤ k → k + d * (ys.length : Int) ≤ 9223372036854775807 →
      walkL f e (List.range' pre.length ys.length) pre.length (k, pre ++ ys) = (e, pre.length + ys.length, (k + d * (ys.length : Int), pre ++ upG d mk k ys.length))
  | [], pre, k, _, _ => by simp [walkL, upG]
  | y :: ys, pre, k, h0, h1 => by
    have hd : (d : Int) * (((y :: ys).length : Nat) : Int) = d + d * (ys.length : Int) := by simp [Int.mul_add]; omega
    rw [hd] at h1
    have hp : 0 ≤ (d : Int) * (ys.length : Int) := Int.mul_nonneg (by omega) (by omega)
    have hs : (pre ++ y :: ys).set pre.length (mk k) = (pre ++ [mk k]) ++ ys := by rw [List.set_append_right _ _ (Nat.le_refl _)]; simp
    have ih := kil (e := e) hf ys (pre ++ [mk k]) (k + d) (by omega) (by omega)
    rw [List.length_cons, List.range'_succ]
    simp only [walkL, hf pre.length k (pre ++ y :: ys) (by simp) h0 (by omega), hs]
    rw [List.length_append, List.length_singleton] at ih
    rw [ih, knm]
    simp [Int.mul_add]
    omega

theorem ki1 {α : Type} {d : Nat} {mk : Int → α} {f : α → Int → Nat ⊕ Int} {e : Nat} (hf : ∀ (k : Int), 0 ≤ k → k + d ≤ 9223372036854775807 → f (mk k) k = .inr (k + d)) :
    ∀ (n : Nat) (k : Int) (i : Nat), 0 ≤ k → k + d * (n : Int) ≤ 9223372036854775807 → walkL f e (upG d mk k n) i k = (e, i + n, k + d * (n : Int))
  | 0, k, i, _, _ => by simp [walkL, upG]
  | n + 1, k, i, h0, h1 => by
    have hd : (d : Int) * ((n + 1 : Nat) : Int) = d + d * (n : Int) := by simp [Int.mul_add]; omega
    rw [hd] at h1
    have hp : 0 ≤ (d : Int) * (n : Int) := Int.mul_nonneg (by omega) (by omega)
    rw [knm]
    simp only [walkL, hf k h0 (by omega)]
    rw [ki1 hf n (k + d) (i + 1) (by omega) (by omega), hd]
    simp only [Prod.mk.injEq, true_and]
    omega

def mkOk3 (d : Nat) (k : Int) (n : Nat) : Bool := leI 0 k && leI (k + d * (n : Int)) 9223372036854775807
theorem k91 {d : Nat} {k : Int} {n : Nat} : mkOk3 d k n = true ↔ 0 ≤ k ∧ k + d * (n : Int) ≤ 9223372036854775807 := by simp [mkOk3]

def mkB (k : Int) : Int × Int × Int := (k, k + 1, k + 2)
def mkI (k : Int) : Int × Int := (k, k + 1)

def k1a  (b : Nat) : (Int × List (Int × (Int × Int))) → Nat ⊕ (Int × List (Int × (Int × Int)))
  | (y1, y2) => (.inr (((IntKind.wrap IntKind.i64 ((IntKind.wrap IntKind.i64 ((IntKind.wrap IntKind.i64 (y1 + (1 : Int))) + (1 : Int))) + (1 : Int)))), ((List.set ((List.set ((List.set y2 (b) (y1, Prod.fst ((Prod.snd (Option.getD y2[b]? ((0 : Int), (0 : Int), (0 : Int))))), Prod.snd ((Prod.snd (Option.getD y2[b]? ((0 : Int), (0 : Int), (0 : Int)))))))) (b) (Prod.fst ((Option.getD ((List.set y2 (b) (y1, Prod.fst ((Prod.snd (Option.getD y2[b]? ((0 : Int), (0 : Int), (0 : Int))))), Prod.snd ((Prod.snd (Option.getD y2[b]? ((0 : Int), (0 : Int), (0 : Int))))))))[b]? ((0 : Int), (0 : Int), (0 : Int)))), (IntKind.wrap IntKind.i64 (y1 + (1 : Int))), Prod.snd (Prod.snd ((Option.getD ((List.set y2 (b) (y1, Prod.fst ((Prod.snd (Option.getD y2[b]? ((0 : Int), (0 : Int), (0 : Int))))), Prod.snd ((Prod.snd (Option.getD y2[b]? ((0 : Int), (0 : Int), (0 : Int))))))))[b]? ((0 : Int), (0 : Int), (0 : Int)))))))) (b) (Prod.fst ((Option.getD ((List.set ((List.set y2 (b) (y1, Prod.fst ((Prod.snd (Option.getD y2[b]? ((0 : Int), (0 : Int), (0 : Int))))), Prod.snd ((Prod.snd (Option.getD y2[b]? ((0 : Int), (0 : Int), (0 : Int)))))))) (b) (Prod.fst ((Option.getD ((List.set y2 (b) (y1, Prod.fst ((Prod.snd (Option.getD y2[b]? ((0 : Int), (0 : Int), (0 : Int))))), Prod.snd ((Prod.snd (Option.getD y2[b]? ((0 : Int), (0 : Int), (0 : Int))))))))[b]? ((0 : Int), (0 : Int), (0 : Int)))), (IntKind.wrap IntKind.i64 (y1 + (1 : Int))), Prod.snd (Prod.snd ((Option.getD ((List.set y2 (b) (y1, Prod.fst ((Prod.snd (Option.getD y2[b]? ((0 : Int), (0 : Int), (0 : Int))))), Prod.snd ((Prod.snd (Option.getD y2[b]? ((0 : Int), (0 : Int), (0 : Int))))))))[b]? ((0 : Int), (0 : Int), (0 : Int))))))))[b]? ((0 : Int), (0 : Int), (0 : Int)))), Prod.fst (Prod.snd ((Option.getD ((List.set ((List.set y2 (b) (y1, Prod.fst ((Prod.snd (Option.getD y2[b]? ((0 : Int), (0 : Int), (0 : Int))))), Prod.snd ((Prod.snd (Option.getD y2[b]? ((0 : Int), (0 : Int), (0 : Int)))))))) (b) (Prod.fst ((Option.getD ((List.set y2 (b) (y1, Prod.fst ((Prod.snd (Option.getD y2[b]? ((0 : Int), (0 : Int), (0 : Int))))), Prod.snd ((Prod.snd (Option.getD y2[b]? ((0 : Int), (0 : Int), (0 : Int))))))))[b]? ((0 : Int), (0 : Int), (0 : Int)))), (IntKind.wrap IntKind.i64 (y1 + (1 : Int))), Prod.snd (Prod.snd ((Option.getD ((List.set y2 (b) (y1, Prod.fst ((Prod.snd (Option.getD y2[b]? ((0 : Int), (0 : Int), (0 : Int))))), Prod.snd ((Prod.snd (Option.getD y2[b]? ((0 : Int), (0 : Int), (0 : Int))))))))[b]? ((0 : Int), (0 : Int), (0 : Int))))))))[b]? ((0 : Int), (0 : Int), (0 : Int))))), (IntKind.wrap IntKind.i64 ((IntKind.wrap IntKind.i64 (y1 + (1 : Int))) + (1 : Int))))))))

def kv  (i : Nat) : (Int × List (Int × (Int × Int))) → ko
  | (y1, y2) => ((i : Int), y1, y2)

def k7f : ko → Int × List (Int × (Int × Int))
  | (_, y1, y2) => (y1, y2)

theorem kgc  (y1 : Int) (y2 : List (Int × (Int × Int))) (n : Nat) (hl : y2.length = n) (hn : n ≤ 9223372036854775807)  :
    kb.fin ((0 : Int), y1, y2) = true ∧ kb.res ((0 : Int), y1, y2) = ((walkL (k1a) 0 (List.range n) 0 (y1, y2)).1, (kv) (walkL (k1a) 0 (List.range n) 0 (y1, y2)).2.1 (walkL (k1a) 0 (List.range n) 0 (y1, y2)).2.2) := by
  have key := kb.along (kv) k7f (k1a) 0 (fun _ a => a.2.length = n) (List.range n) (y1, y2) hl (by simp only [kb, kv, List.length_range]; omega) (fun i b a hb hI => ?_) (fun a hI => ?_)
  · exact key
  · obtain ⟨y1, y2⟩ := a
    obtain ⟨rfl, hlt⟩ := range_get hb
    have hI0 : y2.length = n := hI
    have hw : IntKind.i64.wrap ((b : Int) + 1) = ((b + 1 : Nat) : Int) := by rw [wrap_i64 (by omega) (by omega)]; omega
    have hdec : ltI (b : Int) (y2.length : Int) = true := ltI_t (by omega)
    have hnn : leI (0 : Int) (b : Int) = true := leI_t (by omega)
    have hltd : ltN b y2.length = true := ltN_t (by omega)
    refine ⟨?_, ?_, ?_, ?_⟩
    · simp [k2d, k18, k2f, k2e, k16, k2a, k2g, k2p, k1q, k3x, k3s, k3w, k41, k3y, k3t, k43, k40, k3l, kb, LT.nds, allT, kv, hdec, hnn, hltd]
    · simp [k2d, k18, k2f, k2e, k16, k2a, k2g, k2p, k1q, k3x, k3s, k3w, k41, k3y, k3t, k43, k40, k3l, kb, LT.each, kv, k7f, hw]
    · simp only [k2d, k18, k2f, k2e, k16, k2a, k2g, k2p, k1q, k3x, k3s, k3w, k41, k3y, k3t, k43, k40, k3l, kb, LT.fn, kv, k7f, k1a, Int.toNat_natCast, hdec, hnn, hltd, cond_true, Bool.cond_self]
    · intro a' hf; simp only [k1a, Sum.inr.injEq] at hf; subst hf; simp [hI0]
  · obtain ⟨y1, y2⟩ := a
    have hI0 : y2.length = n := hI
    simp [k2d, k18, k2f, k2e, k16, k2a, k2g, k2p, k1q, k3x, k3s, k3w, k41, k3y, k3t, k43, k40, k3l, kb, LT.out, kv, hI0, List.length_range]

theorem km2 (b : Nat) (k : Int) (xs : List (Int × Int × Int)) (hb : b < xs.length) (h0 : 0 ≤ k) (h1 : k + (3 : Nat) ≤ 9223372036854775807) : k1a b (k, xs) = .inr (k + (3 : Nat), xs.set b (mkB k)) := by
  have w1 : IntKind.i64.wrap (k + 1) = k + 1 := wrap_i64 (by omega) (by omega)
  have w2 : IntKind.i64.wrap (k + 1 + 1) = k + 2 := by rw [wrap_i64 (by omega) (by omega)]; omega
  have w3 : IntKind.i64.wrap (k + 2 + 1) = k + 3 := by rw [wrap_i64 (by omega) (by omega)]; omega
  simp [k1a, mkB, w1, w2, w3, List.set_set, List.getElem?_set, hb]

theorem kku (k : Int) (xs : List (Int × Int × Int)) (h : (mkOk3 3 k xs.length && leN xs.length 9223372036854775807) = true) : kb3 k xs = k + 3 * (xs.length : Int) ∧ kaz k xs = upG 3 mkB k xs.length ∧ kay k xs = true := by
  simp only [Bool.and_eq_true, leN_iff] at h
  obtain ⟨h0, h2⟩ := k91.1 h.1
  obtain ⟨w1, w2⟩ := kgc k xs xs.length rfl h.2
  have hw := kil (e := 0) km2 xs [] k h0 h2
  rw [List.length_nil, List.nil_append, ← List.range_eq_range'] at hw
  rw [hw] at w2
  refine ⟨?_, ?_, ?_⟩
  · simp only [kb3, k4k, k6p, w2, kv]; rfl
  · simp only [kaz, k4k, k6p, w2, kv]; rfl
  · simp only [kay, k4k, w1, allT, cond_true]
def kd1 : List SV → List Entry → Option Out
  | [.one ⟨false, [.ref 0]⟩, .one ⟨false, [.val (.int .i64 x0)]⟩], [.row true 58 (.pair (.int .i64) (.pair (.int .i64) (.int .i64))) x1] => some ⟨(.one ⟨false, [(.val (.int IntKind.i64 (x0 + 3 * (x1.length : Int))))]⟩), [(.row true 58 (CTy.pair (CTy.int IntKind.i64) (CTy.pair (CTy.int IntKind.i64) (CTy.int IntKind.i64))) (upG 3 mkB x0 x1.length))], [], [mkOk3 3 x0 x1.length && leN x1.length 9223372036854775807]⟩
  | _, _ => none

def kb2 : PF Try.prog := PF.alt khu kd1 (by
  intro args es o h hnd; unfold kd1 at h; split at h
  · rename_i x0 x1
    cases h
    have hnd := nd_fst hnd
    have hh := kku x0 x1 hnd
    obtain ⟨e0, e1, en⟩ := hh
    exact altok rfl (nd_one en) (by simp only [e0] <;> rfl) (by simp only [e1] <;> rfl) rfl
  · cases h)

def k1s  (b : Int × (Int × Int)) : (Int) → Nat ⊕ (Int)
  | y1 => (bif ((Prod.fst ((b)) != y1)) then (.inl 0) else (bif ((Prod.fst (Prod.snd ((b))) != (IntKind.wrap IntKind.i64 (y1 + (1 : Int))))) then (.inl 1) else (bif ((Prod.snd (Prod.snd ((b))) != (IntKind.wrap IntKind.i64 ((IntKind.wrap IntKind.i64 (y1 + (1 : Int))) + (1 : Int))))) then (.inl 2) else (.inr ((IntKind.wrap IntKind.i64 ((IntKind.wrap IntKind.i64 ((IntKind.wrap IntKind.i64 (y1 + (1 : Int))) + (1 : Int))) + (1 : Int))))))))

def k17 (y2 : List (Int × (Int × Int))) (i : Nat) : (Int) → kq
  | y1 => ((i : Int), y1, y2)

def k7g : kq → Int
  | (_, y1, _) => y1

theorem kbx (y2 : List (Int × (Int × Int))) (y1 : Int) (hn : y2.length ≤ 9223372036854775807)  :
    k7.fin ((0 : Int), y1, y2) = true ∧ k7.res ((0 : Int), y1, y2) = ((walkL (k1s) 3 y2 0 y1).1, (k17 y2) (walkL (k1s) 3 y2 0 y1).2.1 (walkL (k1s) 3 y2 0 y1).2.2) := by
  have key := k7.along (k17 y2) k7g (k1s) 3 (fun _ _ => True) y2 y1 (by trivial) (by simp only [k7, k17]; omega) (fun i b a hb hI => ?_) (fun a hI => ?_)
  · exact key
  · obtain y1 := a
    have hlt := (List.getElem?_eq_some_iff.1 hb).1
    have hget : ∀ d, Option.getD y2[i]? d = b := fun d => by rw [hb]; rfl
    have hw := wrap64 hlt hn
    have hdec : ltI (i : Int) (y2.length : Int) = true := ltI_t (by omega)
    have hnn : leI (0 : Int) (i : Int) = true := leI_t (by omega)
    have hltd : ltN i y2.length = true := ltN_t hlt
    refine ⟨?_, ?_, ?_, ?_⟩
    · simp [k1k, k2c, k2b, k1b, k1u, k1t, k44, kr, k3u, k3z, k42, k3v, k3m, k7, LT.nds, allT, k17, hdec, hnn, hltd, hget]
    · simp [k1k, k2c, k2b, k1b, k1u, k1t, k44, kr, k3u, k3z, k42, k3v, k3m, k7, LT.each, k17, k7g, hw]
    · simp only [k1k, k2c, k2b, k1b, k1u, k1t, k44, kr, k3u, k3z, k42, k3v, k3m, k7, LT.fn, k17, k7g, k1s, Int.toNat_natCast, hdec, hnn, hltd, hget, cond_true, Bool.cond_self]
    · exact fun _ _ => trivial
  · obtain y1 := a
    simp [k1k, k2c, k2b, k1b, k1u, k1t, k44, kr, k3u, k3z, k42, k3v, k3m, k7, LT.out, k17]

def heldSensorFault (k : Int) (xs : List (Int × Int × Int)) : Int := k7d k xs

theorem klw (k : Int) (h0 : 0 ≤ k) (h1 : k + (3 : Nat) ≤ 9223372036854775807) : k1s (mkB k) k = .inr (k + (3 : Nat)) := by
  have w1 : IntKind.i64.wrap (k + 1) = k + 1 := wrap_i64 (by omega) (by omega)
  have w2 : IntKind.i64.wrap (k + 1 + 1) = k + 2 := by rw [wrap_i64 (by omega) (by omega)]; omega
  have w3 : IntKind.i64.wrap (k + 2 + 1) = k + 3 := by rw [wrap_i64 (by omega) (by omega)]; omega
  simp [k1s, mkB, w1, w2, w3]

theorem kl4 (k : Int) (n : Nat) (h : (mkOk3 3 k n && leN n 9223372036854775807) = true) : heldSensorFault k (upG 3 mkB k n) = k + 3 * (n : Int) := by
  simp only [Bool.and_eq_true, leN_iff] at h
  obtain ⟨h0, h2⟩ := k91.1 h.1
  obtain ⟨w1, w2⟩ := kbx (upG 3 mkB k n) k (by rw [ke4]; exact h.2)
  rw [ki1 (e := 3) klw n k 0 h0 h2] at w2
  simp only [heldSensorFault, k7d, k2k, w2, k17]
  rfl

theorem kkv (k : Int) (xs : List (Int × Int × Int)) (h : leN xs.length 9223372036854775807 = true) : k7d k xs = heldSensorFault k xs ∧ kb4 k xs = true := by
  obtain ⟨w1, w2⟩ := kbx xs k (leN_iff.1 h)
  exact ⟨rfl, by simp only [kb4, k2k, w1, allT, cond_true]⟩

def kd4 : List SV → List Entry → Option Out
  | [.one ⟨false, [.ref 0]⟩, .one ⟨false, [.val (.int .i64 x0)]⟩], [.row false 58 (.pair (.int .i64) (.pair (.int .i64) (.int .i64))) x1] => some ⟨(.one ⟨false, [(.val (.int IntKind.i64 (heldSensorFault x0 x1)))]⟩), [(.row false 58 (CTy.pair (CTy.int IntKind.i64) (CTy.pair (CTy.int IntKind.i64) (CTy.int IntKind.i64))) x1)], [], [leN x1.length 9223372036854775807]⟩
  | _, _ => none

def kb1 : PF Try.prog := PF.alt khw kd4 (by
  intro args es o h hnd; unfold kd4 at h; split at h
  · rename_i x0 x1
    cases h
    have hnd := nd_fst hnd
    have hh := kkv x0 x1 hnd
    obtain ⟨e0, en⟩ := hh
    exact altok rfl (nd_one en) (by simp only [e0] <;> rfl) rfl rfl
  · cases h)

def k1o  (b : Nat) : (Int × List (Int × (Int × Int))) → Nat ⊕ (Int × List (Int × (Int × Int)))
  | (y1, y2) => (.inr (((IntKind.wrap IntKind.i64 ((IntKind.wrap IntKind.i64 ((IntKind.wrap IntKind.i64 (y1 + (1 : Int))) + (1 : Int))) + (1 : Int)))), ((List.set ((List.set ((List.set y2 (b) (y1, Prod.fst ((Prod.snd (Option.getD y2[b]? ((0 : Int), (0 : Int), (0 : Int))))), Prod.snd ((Prod.snd (Option.getD y2[b]? ((0 : Int), (0 : Int), (0 : Int)))))))) (b) (Prod.fst ((Option.getD ((List.set y2 (b) (y1, Prod.fst ((Prod.snd (Option.getD y2[b]? ((0 : Int), (0 : Int), (0 : Int))))), Prod.snd ((Prod.snd (Option.getD y2[b]? ((0 : Int), (0 : Int), (0 : Int))))))))[b]? ((0 : Int), (0 : Int), (0 : Int)))), (IntKind.wrap IntKind.i64 (y1 + (1 : Int))), Prod.snd (Prod.snd ((Option.getD ((List.set y2 (b) (y1, Prod.fst ((Prod.snd (Option.getD y2[b]? ((0 : Int), (0 : Int), (0 : Int))))), Prod.snd ((Prod.snd (Option.getD y2[b]? ((0 : Int), (0 : Int), (0 : Int))))))))[b]? ((0 : Int), (0 : Int), (0 : Int)))))))) (b) (Prod.fst ((Option.getD ((List.set ((List.set y2 (b) (y1, Prod.fst ((Prod.snd (Option.getD y2[b]? ((0 : Int), (0 : Int), (0 : Int))))), Prod.snd ((Prod.snd (Option.getD y2[b]? ((0 : Int), (0 : Int), (0 : Int)))))))) (b) (Prod.fst ((Option.getD ((List.set y2 (b) (y1, Prod.fst ((Prod.snd (Option.getD y2[b]? ((0 : Int), (0 : Int), (0 : Int))))), Prod.snd ((Prod.snd (Option.getD y2[b]? ((0 : Int), (0 : Int), (0 : Int))))))))[b]? ((0 : Int), (0 : Int), (0 : Int)))), (IntKind.wrap IntKind.i64 (y1 + (1 : Int))), Prod.snd (Prod.snd ((Option.getD ((List.set y2 (b) (y1, Prod.fst ((Prod.snd (Option.getD y2[b]? ((0 : Int), (0 : Int), (0 : Int))))), Prod.snd ((Prod.snd (Option.getD y2[b]? ((0 : Int), (0 : Int), (0 : Int))))))))[b]? ((0 : Int), (0 : Int), (0 : Int))))))))[b]? ((0 : Int), (0 : Int), (0 : Int)))), Prod.fst (Prod.snd ((Option.getD ((List.set ((List.set y2 (b) (y1, Prod.fst ((Prod.snd (Option.getD y2[b]? ((0 : Int), (0 : Int), (0 : Int))))), Prod.snd ((Prod.snd (Option.getD y2[b]? ((0 : Int), (0 : Int), (0 : Int)))))))) (b) (Prod.fst ((Option.getD ((List.set y2 (b) (y1, Prod.fst ((Prod.snd (Option.getD y2[b]? ((0 : Int), (0 : Int), (0 : Int))))), Prod.snd ((Prod.snd (Option.getD y2[b]? ((0 : Int), (0 : Int), (0 : Int))))))))[b]? ((0 : Int), (0 : Int), (0 : Int)))), (IntKind.wrap IntKind.i64 (y1 + (1 : Int))), Prod.snd (Prod.snd ((Option.getD ((List.set y2 (b) (y1, Prod.fst ((Prod.snd (Option.getD y2[b]? ((0 : Int), (0 : Int), (0 : Int))))), Prod.snd ((Prod.snd (Option.getD y2[b]? ((0 : Int), (0 : Int), (0 : Int))))))))[b]? ((0 : Int), (0 : Int), (0 : Int))))))))[b]? ((0 : Int), (0 : Int), (0 : Int))))), (IntKind.wrap IntKind.i64 ((IntKind.wrap IntKind.i64 (y1 + (1 : Int))) + (1 : Int))))))))

def k14  (i : Nat) : (Int × List (Int × (Int × Int))) → k11
  | (y1, y2) => ((i : Int), y1, y2)

def k9n : k11 → Int × List (Int × (Int × Int))
  | (_, y1, y2) => (y1, y2)

theorem khg  (y1 : Int) (y2 : List (Int × (Int × Int))) (n : Nat) (hl : y2.length = n) (hn : n ≤ 9223372036854775807)  :
    ke.fin ((0 : Int), y1, y2) = true ∧ ke.res ((0 : Int), y1, y2) = ((walkL (k1o) 0 (List.range n) 0 (y1, y2)).1, (k14) (walkL (k1o) 0 (List.range n) 0 (y1, y2)).2.1 (walkL (k1o) 0 (List.range n) 0 (y1, y2)).2.2) := by
  have key := ke.along (k14) k9n (k1o) 0 (fun _ a => a.2.length = n) (List.range n) (y1, y2) hl (by simp only [ke, k14, List.length_range]; omega) (fun i b a hb hI => ?_) (fun a hI => ?_)
  · exact key
  · obtain ⟨y1, y2⟩ := a
    obtain ⟨rfl, hlt⟩ := range_get hb
    have hI0 : y2.length = n := hI
    have hw : IntKind.i64.wrap ((b : Int) + 1) = ((b + 1 : Nat) : Int) := by rw [wrap_i64 (by omega) (by omega)]; omega
    have hdec : ltI (b : Int) (y2.length : Int) = true := ltI_t (by omega)
    have hnn : leI (0 : Int) (b : Int) = true := leI_t (by omega)
    have hltd : ltN b y2.length = true := ltN_t (by omega)
    refine ⟨?_, ?_, ?_, ?_⟩
    · simp [k30, k1g, k2z, k2v, k1h, k2x, k2y, k3e, k2n, k4s, k4q, k4n, k4w, k50, k4r, k56, k54, k4g, ke, LT.nds, allT, k14, hdec, hnn, hltd]
    · simp [k30, k1g, k2z, k2v, k1h, k2x, k2y, k3e, k2n, k4s, k4q, k4n, k4w, k50, k4r, k56, k54, k4g, ke, LT.each, k14, k9n, hw]
    · simp only [k30, k1g, k2z, k2v, k1h, k2x, k2y, k3e, k2n, k4s, k4q, k4n, k4w, k50, k4r, k56, k54, k4g, ke, LT.fn, k14, k9n, k1o, Int.toNat_natCast, hdec, hnn, hltd, cond_true, Bool.cond_self]
    · intro a' hf; simp only [k1o, Sum.inr.injEq] at hf; subst hf; simp [hI0]
  · obtain ⟨y1, y2⟩ := a
    have hI0 : y2.length = n := hI
    simp [k30, k1g, k2z, k2v, k1h, k2x, k2y, k3e, k2n, k4s, k4q, k4n, k4w, k50, k4r, k56, k54, k4g, ke, LT.out, k14, hI0, List.length_range]

theorem kmp (b : Nat) (k : Int) (xs : List (Int × Int × Int)) (hb : b < xs.length) (h0 : 0 ≤ k) (h1 : k + (3 : Nat) ≤ 9223372036854775807) : k1o b (k, xs) = .inr (k + (3 : Nat), xs.set b (mkB k)) := by
  have w1 : IntKind.i64.wrap (k + 1) = k + 1 := wrap_i64 (by omega) (by omega)
  have w2 : IntKind.i64.wrap (k + 1 + 1) = k + 2 := by rw [wrap_i64 (by omega) (by omega)]; omega
  have w3 : IntKind.i64.wrap (k + 2 + 1) = k + 3 := by rw [wrap_i64 (by omega) (by omega)]; omega
  simp [k1o, mkB, w1, w2, w3, List.set_set, List.getElem?_set, hb]

theorem klv (k : Int) (xs : List (Int × Int × Int)) (h : (mkOk3 3 k xs.length && leN xs.length 9223372036854775807) = true) : kbs k xs = k + 3 * (xs.length : Int) ∧ kbm k xs = upG 3 mkB k xs.length ∧ kbr k xs = true := by
  simp only [Bool.and_eq_true, leN_iff] at h
  obtain ⟨h0, h2⟩ := k91.1 h.1
  obtain ⟨w1, w2⟩ := khg k xs xs.length rfl h.2
  have hw := kil (e := 0) kmp xs [] k h0 h2
  rw [List.length_nil, List.nil_append, ← List.range_eq_range'] at hw
  rw [hw] at w2
  refine ⟨?_, ?_, ?_⟩
  · simp only [kbs, k5z, k7t, w2, k14]; rfl
  · simp only [kbm, k5z, k7t, w2, k14]; rfl
  · simp only [kbr, k5z, w1, allT, cond_true]
def keg : List SV → List Entry → Option Out
  | [.one ⟨false, [.ref 0]⟩, .one ⟨false, [.val (.int .i64 x0)]⟩], [.row true 61 (.pair (.int .i64) (.pair (.int .i64) (.int .i64))) x1] => some ⟨(.one ⟨false, [(.val (.int IntKind.i64 (x0 + 3 * (x1.length : Int))))]⟩), [(.row true 61 (CTy.pair (CTy.int IntKind.i64) (CTy.pair (CTy.int IntKind.i64) (CTy.int IntKind.i64))) (upG 3 mkB x0 x1.length))], [], [mkOk3 3 x0 x1.length && leN x1.length 9223372036854775807]⟩
  | _, _ => none

def kbt : PF Try.prog := PF.alt kj6 keg (by
  intro args es o h hnd; unfold keg at h; split at h
  · rename_i x0 x1
    cases h
    have hnd := nd_fst hnd
    have hh := klv x0 x1 hnd
    obtain ⟨e0, e1, en⟩ := hh
    exact altok rfl (nd_one en) (by simp only [e0] <;> rfl) (by simp only [e1] <;> rfl) rfl
  · cases h)

def k2m  (b : Int × (Int × Int)) : (Int) → Nat ⊕ (Int)
  | y1 => (bif ((Prod.fst ((b)) != y1)) then (.inl 0) else (bif ((Prod.fst (Prod.snd ((b))) != (IntKind.wrap IntKind.i64 (y1 + (1 : Int))))) then (.inl 1) else (bif ((Prod.snd (Prod.snd ((b))) != (IntKind.wrap IntKind.i64 ((IntKind.wrap IntKind.i64 (y1 + (1 : Int))) + (1 : Int))))) then (.inl 2) else (.inr ((IntKind.wrap IntKind.i64 ((IntKind.wrap IntKind.i64 ((IntKind.wrap IntKind.i64 (y1 + (1 : Int))) + (1 : Int))) + (1 : Int))))))))

def k1f (y2 : List (Int × (Int × Int))) (i : Nat) : (Int) → kz
  | y1 => ((i : Int), y1, y2)

def k9e : kz → Int
  | (_, y1, _) => y1

theorem kct (y2 : List (Int × (Int × Int))) (y1 : Int) (hn : y2.length ≤ 9223372036854775807)  :
    k8.fin ((0 : Int), y1, y2) = true ∧ k8.res ((0 : Int), y1, y2) = ((walkL (k2m) 3 y2 0 y1).1, (k1f y2) (walkL (k2m) 3 y2 0 y1).2.1 (walkL (k2m) 3 y2 0 y1).2.2) := by
  have key := k8.along (k1f y2) k9e (k2m) 3 (fun _ _ => True) y2 y1 (by trivial) (by simp only [k8, k1f]; omega) (fun i b a hb hI => ?_) (fun a hI => ?_)
  · exact key
  · obtain y1 := a
    have hlt := (List.getElem?_eq_some_iff.1 hb).1
    have hget : ∀ d, Option.getD y2[i]? d = b := fun d => by rw [hb]; rfl
    have hw := wrap64 hlt hn
    have hdec : ltI (i : Int) (y2.length : Int) = true := ltI_t (by omega)
    have hnn : leI (0 : Int) (i : Int) = true := leI_t (by omega)
    have hltd : ltN i y2.length = true := ltN_t hlt
    refine ⟨?_, ?_, ?_, ?_⟩
    · simp [k20, k31, k2w, k1p, k2j, k2l, k53, k10, k4z, k55, k51, k4o, k4f, k8, LT.nds, allT, k1f, hdec, hnn, hltd, hget]
    · simp [k20, k31, k2w, k1p, k2j, k2l, k53, k10, k4z, k55, k51, k4o, k4f, k8, LT.each, k1f, k9e, hw]
    · simp only [k20, k31, k2w, k1p, k2j, k2l, k53, k10, k4z, k55, k51, k4o, k4f, k8, LT.fn, k1f, k9e, k2m, Int.toNat_natCast, hdec, hnn, hltd, hget, cond_true, Bool.cond_self]
    · exact fun _ _ => trivial
  · obtain y1 := a
    simp [k20, k31, k2w, k1p, k2j, k2l, k53, k10, k4z, k55, k51, k4o, k4f, k8, LT.out, k1f]

def heldLockFault (k : Int) (xs : List (Int × Int × Int)) : Int := k92 k xs

theorem kmm (k : Int) (h0 : 0 ≤ k) (h1 : k + (3 : Nat) ≤ 9223372036854775807) : k2m (mkB k) k = .inr (k + (3 : Nat)) := by
  have w1 : IntKind.i64.wrap (k + 1) = k + 1 := wrap_i64 (by omega) (by omega)
  have w2 : IntKind.i64.wrap (k + 1 + 1) = k + 2 := by rw [wrap_i64 (by omega) (by omega)]; omega
  have w3 : IntKind.i64.wrap (k + 2 + 1) = k + 3 := by rw [wrap_i64 (by omega) (by omega)]; omega
  simp [k2m, mkB, w1, w2, w3]

theorem kmi (k : Int) (n : Nat) (h : (mkOk3 3 k n && leN n 9223372036854775807) = true) : heldLockFault k (upG 3 mkB k n) = k + 3 * (n : Int) := by
  simp only [Bool.and_eq_true, leN_iff] at h
  obtain ⟨h0, h2⟩ := k91.1 h.1
  obtain ⟨w1, w2⟩ := kct (upG 3 mkB k n) k (by rw [ke4]; exact h.2)
  rw [ki1 (e := 3) kmm n k 0 h0 h2] at w2
  simp only [heldLockFault, k92, k33, w2, k1f]
  rfl

theorem km8 (k : Int) (xs : List (Int × Int × Int)) (h : leN xs.length 9223372036854775807 = true) : k92 k xs = heldLockFault k xs ∧ kbo k xs = true := by
  obtain ⟨w1, w2⟩ := kct xs k (leN_iff.1 h)
  exact ⟨rfl, by simp only [kbo, k33, w1, allT, cond_true]⟩

def kea : List SV → List Entry → Option Out
  | [.one ⟨false, [.ref 0]⟩, .one ⟨false, [.val (.int .i64 x0)]⟩], [.row false 61 (.pair (.int .i64) (.pair (.int .i64) (.int .i64))) x1] => some ⟨(.one ⟨false, [(.val (.int IntKind.i64 (heldLockFault x0 x1)))]⟩), [(.row false 61 (CTy.pair (CTy.int IntKind.i64) (CTy.pair (CTy.int IntKind.i64) (CTy.int IntKind.i64))) x1)], [], [leN x1.length 9223372036854775807]⟩
  | _, _ => none

def kbk : PF Try.prog := PF.alt kiz kea (by
  intro args es o h hnd; unfold kea at h; split at h
  · rename_i x0 x1
    cases h
    have hnd := nd_fst hnd
    have hh := km8 x0 x1 hnd
    obtain ⟨e0, en⟩ := hh
    exact altok rfl (nd_one en) (by simp only [e0] <;> rfl) rfl rfl
  · cases h)

def k3p  (b : Nat) : (Int × List (Int × Int)) → Nat ⊕ (Int × List (Int × Int))
  | (y1, y2) => (.inr (((IntKind.wrap IntKind.i64 ((IntKind.wrap IntKind.i64 (y1 + (1 : Int))) + (1 : Int)))), ((List.set ((List.set y2 (b) (y1, Prod.snd (Option.getD y2[b]? ((0 : Int), (0 : Int)))))) (b) (Prod.fst (Option.getD ((List.set y2 (b) (y1, Prod.snd (Option.getD y2[b]? ((0 : Int), (0 : Int))))))[b]? ((0 : Int), (0 : Int))), (IntKind.wrap IntKind.i64 (y1 + (1 : Int))))))))

def k2h  (i : Nat) : (Int × List (Int × Int)) → k24
  | (y1, y2) => ((i : Int), y1, y2)

def kcc : k24 → Int × List (Int × Int)
  | (_, y1, y2) => (y1, y2)

theorem kke  (y1 : Int) (y2 : List (Int × Int)) (n : Nat) (hl : y2.length = n) (hn : n ≤ 9223372036854775807)  :
    kx.fin ((0 : Int), y1, y2) = true ∧ kx.res ((0 : Int), y1, y2) = ((walkL (k3p) 0 (List.range n) 0 (y1, y2)).1, (k2h) (walkL (k3p) 0 (List.range n) 0 (y1, y2)).2.1 (walkL (k3p) 0 (List.range n) 0 (y1, y2)).2.2) := by
  have key := kx.along (k2h) kcc (k3p) 0 (fun _ a => a.2.length = n) (List.range n) (y1, y2) hl (by simp only [kx, k2h, List.length_range]; omega) (fun i b a hb hI => ?_) (fun a hI => ?_)
  · exact key
  · obtain ⟨y1, y2⟩ := a
    obtain ⟨rfl, hlt⟩ := range_get hb
    have hI0 : y2.length = n := hI
    have hw : IntKind.i64.wrap ((b : Int) + 1) = ((b + 1 : Nat) : Int) := by rw [wrap_i64 (by omega) (by omega)]; omega
    have hdec : ltI (b : Int) (y2.length : Int) = true := ltI_t (by omega)
    have hnn : leI (0 : Int) (b : Int) = true := leI_t (by omega)
    have hltd : ltN b y2.length = true := ltN_t (by omega)
    refine ⟨?_, ?_, ?_, ?_⟩
    · simp [k37, k5f, k65, k64, k8c, k8a, k7u, k7v, k8i, k8m, k79, kx, LT.nds, allT, k2h, hdec, hnn, hltd]
    · simp [k37, k5f, k65, k64, k8c, k8a, k7u, k7v, k8i, k8m, k79, kx, LT.each, k2h, kcc, hw]
    · simp only [k37, k5f, k65, k64, k8c, k8a, k7u, k7v, k8i, k8m, k79, kx, LT.fn, k2h, kcc, k3p, Int.toNat_natCast, hdec, hnn, hltd, cond_true, Bool.cond_self]
    · intro a' hf; simp only [k3p, Sum.inr.injEq] at hf; subst hf; simp [hI0]
  · obtain ⟨y1, y2⟩ := a
    have hI0 : y2.length = n := hI
    simp [k37, k5f, k65, k64, k8c, k8a, k7u, k7v, k8i, k8m, k79, kx, LT.out, k2h, hI0, List.length_range]

theorem knl (b : Nat) (k : Int) (xs : List (Int × Int)) (hb : b < xs.length) (h0 : 0 ≤ k) (h1 : k + (2 : Nat) ≤ 9223372036854775807) : k3p b (k, xs) = .inr (k + (2 : Nat), xs.set b (mkI k)) := by
  have w1 : IntKind.i64.wrap (k + 1) = k + 1 := wrap_i64 (by omega) (by omega)
  have w2 : IntKind.i64.wrap (k + 1 + 1) = k + 2 := by rw [wrap_i64 (by omega) (by omega)]; omega
  simp [k3p, mkI, w1, w2, List.set_set, List.getElem?_set, hb]

theorem kn1 (k : Int) (xs : List (Int × Int)) (h : (mkOk3 2 k xs.length && leN xs.length 9223372036854775807) = true) : kf4 k xs = k + 2 * (xs.length : Int) ∧ kew k xs = upG 2 mkI k xs.length ∧ kf5 k xs = true := by
  simp only [Bool.and_eq_true, leN_iff] at h
  obtain ⟨h0, h2⟩ := k91.1 h.1
  obtain ⟨w1, w2⟩ := kke k xs xs.length rfl h.2
  have hw := kil (e := 0) knl xs [] k h0 h2
  rw [List.length_nil, List.nil_append, ← List.range_eq_range'] at hw
  rw [hw] at w2
  refine ⟨?_, ?_, ?_⟩
  · simp only [kf4, ka2, kc7, w2, k2h]; rfl
  · simp only [kew, ka2, kc7, w2, k2h]; rfl
  · simp only [kf5, ka2, w1, allT, cond_true]
def kir : List SV → List Entry → Option Out
  | [.one ⟨false, [.ref 0]⟩, .one ⟨false, [.val (.int .i64 x0)]⟩], [.row true 64 (.pair (.int .i64) (.int .i64)) x1] => some ⟨(.one ⟨false, [(.val (.int IntKind.i64 (x0 + 2 * (x1.length : Int))))]⟩), [(.row true 64 (CTy.pair (CTy.int IntKind.i64) (CTy.int IntKind.i64)) (upG 2 mkI x0 x1.length))], [], [mkOk3 2 x0 x1.length && leN x1.length 9223372036854775807]⟩
  | _, _ => none

def kf3 : PF Try.prog := PF.alt kmf kir (by
  intro args es o h hnd; unfold kir at h; split at h
  · rename_i x0 x1
    cases h
    have hnd := nd_fst hnd
    have hh := kn1 x0 x1 hnd
    obtain ⟨e0, e1, en⟩ := hh
    exact altok rfl (nd_one en) (by simp only [e0] <;> rfl) (by simp only [e1] <;> rfl) rfl
  · cases h)

def k4l  (b : Int × Int) : (Int) → Nat ⊕ (Int)
  | y1 => (bif ((Prod.fst ((b)) != y1)) then (.inl 0) else (bif ((Prod.snd ((b)) != (IntKind.wrap IntKind.i64 (y1 + (1 : Int))))) then (.inl 1) else (.inr ((IntKind.wrap IntKind.i64 ((IntKind.wrap IntKind.i64 (y1 + (1 : Int))) + (1 : Int)))))))

def k34 (y2 : List (Int × Int)) (i : Nat) : (Int) → k25
  | y1 => ((i : Int), y1, y2)

def kcj : k25 → Int
  | (_, y1, _) => y1

theorem kfr (y2 : List (Int × Int)) (y1 : Int) (hn : y2.length ≤ 9223372036854775807)  :
    ki.fin ((0 : Int), y1, y2) = true ∧ ki.res ((0 : Int), y1, y2) = ((walkL (k4l) 2 y2 0 y1).1, (k34 y2) (walkL (k4l) 2 y2 0 y1).2.1 (walkL (k4l) 2 y2 0 y1).2.2) := by
  have key := ki.along (k34 y2) kcj (k4l) 2 (fun _ _ => True) y2 y1 (by trivial) (by simp only [ki, k34]; omega) (fun i b a hb hI => ?_) (fun a hI => ?_)
  · exact key
  · obtain y1 := a
    have hlt := (List.getElem?_eq_some_iff.1 hb).1
    have hget : ∀ d, Option.getD y2[i]? d = b := fun d => by rw [hb]; rfl
    have hw := wrap64 hlt hn
    have hdec : ltI (i : Int) (y2.length : Int) = true := ltI_t (by omega)
    have hnn : leI (0 : Int) (i : Int) = true := leI_t (by omega)
    have hltd : ltN i y2.length = true := ltN_t hlt
    refine ⟨?_, ?_, ?_, ?_⟩
    · simp [k5p, k5i, k4x, k69, k6a, k82, k3o, k7r, k7z, k8p, k70, ki, LT.nds, allT, k34, hdec, hnn, hltd, hget]
    · simp [k5p, k5i, k4x, k69, k6a, k82, k3o, k7r, k7z, k8p, k70, ki, LT.each, k34, kcj, hw]
    · simp only [k5p, k5i, k4x, k69, k6a, k82, k3o, k7r, k7z, k8p, k70, ki, LT.fn, k34, kcj, k4l, Int.toNat_natCast, hdec, hnn, hltd, hget, cond_true, Bool.cond_self]
    · exact fun _ _ => trivial
  · obtain y1 := a
    simp [k5p, k5i, k4x, k69, k6a, k82, k3o, k7r, k7z, k8p, k70, ki, LT.out, k34]

def heldTask (k : Int) (xs : List (Int × Int)) : Int := kcq k xs

theorem kno (k : Int) (h0 : 0 ≤ k) (h1 : k + (2 : Nat) ≤ 9223372036854775807) : k4l (mkI k) k = .inr (k + (2 : Nat)) := by
  have w1 : IntKind.i64.wrap (k + 1) = k + 1 := wrap_i64 (by omega) (by omega)
  have w2 : IntKind.i64.wrap (k + 1 + 1) = k + 2 := by rw [wrap_i64 (by omega) (by omega)]; omega
  simp [k4l, mkI, w1, w2]

theorem knb (k : Int) (n : Nat) (h : (mkOk3 2 k n && leN n 9223372036854775807) = true) : heldTask k (upG 2 mkI k n) = k + 2 * (n : Int) := by
  simp only [Bool.and_eq_true, leN_iff] at h
  obtain ⟨h0, h2⟩ := k91.1 h.1
  obtain ⟨w1, w2⟩ := kfr (upG 2 mkI k n) k (by rw [ke4]; exact h.2)
  rw [ki1 (e := 2) kno n k 0 h0 h2] at w2
  simp only [heldTask, kcq, k7j, w2, k34]
  rfl

theorem kmy (k : Int) (xs : List (Int × Int)) (h : leN xs.length 9223372036854775807 = true) : kcq k xs = heldTask k xs ∧ kfb k xs = true := by
  obtain ⟨w1, w2⟩ := kfr xs k (leN_iff.1 h)
  exact ⟨rfl, by simp only [kfb, k7j, w1, allT, cond_true]⟩

def kiu : List SV → List Entry → Option Out
  | [.one ⟨false, [.ref 0]⟩, .one ⟨false, [.val (.int .i64 x0)]⟩], [.row false 64 (.pair (.int .i64) (.int .i64)) x1] => some ⟨(.one ⟨false, [(.val (.int IntKind.i64 (heldTask x0 x1)))]⟩), [(.row false 64 (CTy.pair (CTy.int IntKind.i64) (CTy.int IntKind.i64)) x1)], [], [leN x1.length 9223372036854775807]⟩
  | _, _ => none

def kf1 : PF Try.prog := PF.alt kmh kiu (by
  intro args es o h hnd; unfold kiu at h; split at h
  · rename_i x0 x1
    cases h
    have hnd := nd_fst hnd
    have hh := kmy x0 x1 hnd
    obtain ⟨e0, en⟩ := hh
    exact altok rfl (nd_one en) (by simp only [e0] <;> rfl) rfl rfl
  · cases h)

def k3r  (b : Nat) : (Int × List (Int × Int)) → Nat ⊕ (Int × List (Int × Int))
  | (y1, y2) => (.inr (((IntKind.wrap IntKind.i64 ((IntKind.wrap IntKind.i64 (y1 + (1 : Int))) + (1 : Int)))), ((List.set ((List.set y2 (b) (y1, Prod.snd (Option.getD y2[b]? ((0 : Int), (0 : Int)))))) (b) (Prod.fst (Option.getD ((List.set y2 (b) (y1, Prod.snd (Option.getD y2[b]? ((0 : Int), (0 : Int))))))[b]? ((0 : Int), (0 : Int))), (IntKind.wrap IntKind.i64 (y1 + (1 : Int))))))))

def k2i  (i : Nat) : (Int × List (Int × Int)) → k23
  | (y1, y2) => ((i : Int), y1, y2)

def kcf : k23 → Int × List (Int × Int)
  | (_, y1, y2) => (y1, y2)

theorem kkt  (y1 : Int) (y2 : List (Int × Int)) (n : Nat) (hl : y2.length = n) (hn : n ≤ 9223372036854775807)  :
    ky.fin ((0 : Int), y1, y2) = true ∧ ky.res ((0 : Int), y1, y2) = ((walkL (k3r) 0 (List.range n) 0 (y1, y2)).1, (k2i) (walkL (k3r) 0 (List.range n) 0 (y1, y2)).2.1 (walkL (k3r) 0 (List.range n) 0 (y1, y2)).2.2) := by
  have key := ky.along (k2i) kcf (k3r) 0 (fun _ a => a.2.length = n) (List.range n) (y1, y2) hl (by simp only [ky, k2i, List.length_range]; omega) (fun i b a hb hI => ?_) (fun a hI => ?_)
  · exact key
  · obtain ⟨y1, y2⟩ := a
    obtain ⟨rfl, hlt⟩ := range_get hb
    have hI0 : y2.length = n := hI
    have hw : IntKind.i64.wrap ((b : Int) + 1) = ((b + 1 : Nat) : Int) := by rw [wrap_i64 (by omega) (by omega)]; omega
    have hdec : ltI (b : Int) (y2.length : Int) = true := ltI_t (by omega)
    have hnn : leI (0 : Int) (b : Int) = true := leI_t (by omega)
    have hltd : ltN b y2.length = true := ltN_t (by omega)
    refine ⟨?_, ?_, ?_, ?_⟩
    · simp [k32, k5n, k6b, k66, k8h, k7q, k7y, k86, k83, k8g, k74, ky, LT.nds, allT, k2i, hdec, hnn, hltd]
    · simp [k32, k5n, k6b, k66, k8h, k7q, k7y, k86, k83, k8g, k74, ky, LT.each, k2i, kcf, hw]
    · simp only [k32, k5n, k6b, k66, k8h, k7q, k7y, k86, k83, k8g, k74, ky, LT.fn, k2i, kcf, k3r, Int.toNat_natCast, hdec, hnn, hltd, cond_true, Bool.cond_self]
    · intro a' hf; simp only [k3r, Sum.inr.injEq] at hf; subst hf; simp [hI0]
  · obtain ⟨y1, y2⟩ := a
    have hI0 : y2.length = n := hI
    simp [k32, k5n, k6b, k66, k8h, k7q, k7y, k86, k83, k8g, k74, ky, LT.out, k2i, hI0, List.length_range]

theorem knp (b : Nat) (k : Int) (xs : List (Int × Int)) (hb : b < xs.length) (h0 : 0 ≤ k) (h1 : k + (2 : Nat) ≤ 9223372036854775807) : k3r b (k, xs) = .inr (k + (2 : Nat), xs.set b (mkI k)) := by
  have w1 : IntKind.i64.wrap (k + 1) = k + 1 := wrap_i64 (by omega) (by omega)
  have w2 : IntKind.i64.wrap (k + 1 + 1) = k + 2 := by rw [wrap_i64 (by omega) (by omega)]; omega
  simp [k3r, mkI, w1, w2, List.set_set, List.getElem?_set, hb]

theorem kn2 (k : Int) (xs : List (Int × Int)) (h : (mkOk3 2 k xs.length && leN xs.length 9223372036854775807) = true) : kfc k xs = k + 2 * (xs.length : Int) ∧ kez k xs = upG 2 mkI k xs.length ∧ kf9 k xs = true := by
  simp only [Bool.and_eq_true, leN_iff] at h
  obtain ⟨h0, h2⟩ := k91.1 h.1
  obtain ⟨w1, w2⟩ := kkt k xs xs.length rfl h.2
  have hw := kil (e := 0) knp xs [] k h0 h2
  rw [List.length_nil, List.nil_append, ← List.range_eq_range'] at hw
  rw [hw] at w2
  refine ⟨?_, ?_, ?_⟩
  · simp only [kfc, ka8, kc6, w2, k2i]; rfl
  · simp only [kez, ka8, kc6, w2, k2i]; rfl
  · simp only [kf9, ka8, w1, allT, cond_true]
def kio : List SV → List Entry → Option Out
  | [.one ⟨false, [.ref 0]⟩, .one ⟨false, [.val (.int .i64 x0)]⟩], [.row true 67 (.pair (.int .i64) (.int .i64)) x1] => some ⟨(.one ⟨false, [(.val (.int IntKind.i64 (x0 + 2 * (x1.length : Int))))]⟩), [(.row true 67 (CTy.pair (CTy.int IntKind.i64) (CTy.int IntKind.i64)) (upG 2 mkI x0 x1.length))], [], [mkOk3 2 x0 x1.length && leN x1.length 9223372036854775807]⟩
  | _, _ => none

def ket : PF Try.prog := PF.alt kmj kio (by
  intro args es o h hnd; unfold kio at h; split at h
  · rename_i x0 x1
    cases h
    have hnd := nd_fst hnd
    have hh := kn2 x0 x1 hnd
    obtain ⟨e0, e1, en⟩ := hh
    exact altok rfl (nd_one en) (by simp only [e0] <;> rfl) (by simp only [e1] <;> rfl) rfl
  · cases h)

def k4m  (b : Int × Int) : (Int) → Nat ⊕ (Int)
  | y1 => (bif ((Prod.fst ((b)) != y1)) then (.inl 0) else (bif ((Prod.snd ((b)) != (IntKind.wrap IntKind.i64 (y1 + (1 : Int))))) then (.inl 1) else (.inr ((IntKind.wrap IntKind.i64 ((IntKind.wrap IntKind.i64 (y1 + (1 : Int))) + (1 : Int)))))))

def k35 (y2 : List (Int × Int)) (i : Nat) : (Int) → k26
  | y1 => ((i : Int), y1, y2)

def kch : k26 → Int
  | (_, y1, _) => y1

theorem kfw (y2 : List (Int × Int)) (y1 : Int) (hn : y2.length ≤ 9223372036854775807)  :
    kk.fin ((0 : Int), y1, y2) = true ∧ kk.res ((0 : Int), y1, y2) = ((walkL (k4m) 2 y2 0 y1).1, (k35 y2) (walkL (k4m) 2 y2 0 y1).2.1 (walkL (k4m) 2 y2 0 y1).2.2) := by
  have key := kk.along (k35 y2) kch (k4m) 2 (fun _ _ => True) y2 y1 (by trivial) (by simp only [kk, k35]; omega) (fun i b a hb hI => ?_) (fun a hI => ?_)
  · exact key
  · obtain y1 := a
    have hlt := (List.getElem?_eq_some_iff.1 hb).1
    have hget : ∀ d, Option.getD y2[i]? d = b := fun d => by rw [hb]; rfl
    have hw := wrap64 hlt hn
    have hdec : ltI (i : Int) (y2.length : Int) = true := ltI_t (by omega)
    have hnn : leI (0 : Int) (i : Int) = true := leI_t (by omega)
    have hltd : ltN i y2.length = true := ltN_t hlt
    refine ⟨?_, ?_, ?_, ?_⟩
    · simp [k5j, k5c, k4j, k68, k63, k8k, k3q, k89, k8o, k87, k78, kk, LT.nds, allT, k35, hdec, hnn, hltd, hget]
    · simp [k5j, k5c, k4j, k68, k63, k8k, k3q, k89, k8o, k87, k78, kk, LT.each, k35, kch, hw]
    · simp only [k5j, k5c, k4j, k68, k63, k8k, k3q, k89, k8o, k87, k78, kk, LT.fn, k35, kch, k4m, Int.toNat_natCast, hdec, hnn, hltd, hget, cond_true, Bool.cond_self]
    · exact fun _ _ => trivial
  · obtain y1 := a
    simp [k5j, k5c, k4j, k68, k63, k8k, k3q, k89, k8o, k87, k78, kk, LT.out, k35]

def heldLock (k : Int) (xs : List (Int × Int)) : Int := kcu k xs

theorem knh (k : Int) (h0 : 0 ≤ k) (h1 : k + (2 : Nat) ≤ 9223372036854775807) : k4m (mkI k) k = .inr (k + (2 : Nat)) := by
  have w1 : IntKind.i64.wrap (k + 1) = k + 1 := wrap_i64 (by omega) (by omega)
  have w2 : IntKind.i64.wrap (k + 1 + 1) = k + 2 := by rw [wrap_i64 (by omega) (by omega)]; omega
  simp [k4m, mkI, w1, w2]

theorem kn6 (k : Int) (n : Nat) (h : (mkOk3 2 k n && leN n 9223372036854775807) = true) : heldLock k (upG 2 mkI k n) = k + 2 * (n : Int) := by
  simp only [Bool.and_eq_true, leN_iff] at h
  obtain ⟨h0, h2⟩ := k91.1 h.1
  obtain ⟨w1, w2⟩ := kfw (upG 2 mkI k n) k (by rw [ke4]; exact h.2)
  rw [ki1 (e := 2) knh n k 0 h0 h2] at w2
  simp only [heldLock, kcu, k7n, w2, k35]
  rfl

theorem kmz (k : Int) (xs : List (Int × Int)) (h : leN xs.length 9223372036854775807 = true) : kcu k xs = heldLock k xs ∧ kf0 k xs = true := by
  obtain ⟨w1, w2⟩ := kfw xs k (leN_iff.1 h)
  exact ⟨rfl, by simp only [kf0, k7n, w1, allT, cond_true]⟩

def kif : List SV → List Entry → Option Out
  | [.one ⟨false, [.ref 0]⟩, .one ⟨false, [.val (.int .i64 x0)]⟩], [.row false 67 (.pair (.int .i64) (.int .i64)) x1] => some ⟨(.one ⟨false, [(.val (.int IntKind.i64 (heldLock x0 x1)))]⟩), [(.row false 67 (CTy.pair (CTy.int IntKind.i64) (CTy.int IntKind.i64)) x1)], [], [leN x1.length 9223372036854775807]⟩
  | _, _ => none

def kf2 : PF Try.prog := PF.alt kmk kif (by
  intro args es o h hnd; unfold kif at h; split at h
  · rename_i x0 x1
    cases h
    have hnd := nd_fst hnd
    have hh := kmz x0 x1 hnd
    obtain ⟨e0, en⟩ := hh
    exact altok rfl (nd_one en) (by simp only [e0] <;> rfl) rfl rfl
  · cases h)

def totN (ll : List (List Int)) : Nat := (ll.map List.length).sum
def upSS : Int → List (List Int) → List (List Int)
  | _, [] => []
  | k, l :: r => upFrom k l.length :: upSS (k + l.length) r

theorem kna (a b : List (List Int)) : totN (a ++ b) = totN a + totN b := by simp [totN]

theorem kms : ∀ (a b : List (List Int)) (k : Int), upSS k (a ++ b) = upSS k a ++ upSS (k + totN a) b
  | [], b, k => by simp [upSS, totN]
  | l :: a, b, k => by
    simp only [List.cons_append, upSS, kms a b]
    congr 3
    simp [totN]; omega

theorem klf : ∀ (a : List (List Int)) (k : Int), (upSS k a).length = a.length
  | [], _ => rfl
  | l :: a, k => by simp [upSS, klf a]

/-- Lists are numbered through. -/
theorem kn8 {f : Nat → Int × List (List Int) → Nat ⊕ (Int × List (List Int))} {e : Nat} (hf : ∀ b k xs, f b (k, xs) = .inr (k + (((xs[b]?).getD []).length : Int), xs.set b (upFrom k ((xs[b]?).getD []).length))) (xs : List (List Int)) (k : Int) :
    walkL f e (List.range xs.length) 0 (k, xs) = (e, xs.length, (k + totN xs, upSS k xs)) := by
  rw [walk_gather (g := fun a b => (a.1 + (((a.2[b]?).getD []).length : Int), a.2.set b (upFrom a.1 ((a.2[b]?).getD []).length))) (fun b a => hf b a.1 a.2)]
  have key : ∀ (n : Nat), n ≤ xs.length → (List.range n).foldl (fun (a : Int × List (List Int)) b => (a.1 + (((a.2[b]?).getD []).length : Int), a.2.set b (upFrom a.1 ((a.2[b]?).getD []).length))) (k, xs) = (k + totN (xs.take n), upSS k (xs.take n) ++ xs.drop n) := by
    intro n
    induction n with
    | zero => intro _; simp [totN, upSS]
    | succ n ih =>
      intro hn
      rw [List.range_succ, List.foldl_append, ih (by omega)]
      have hl : (upSS k (xs.take n)).length = n := by rw [klf, List.length_take]; omega
      have hg : (upSS k (xs.take n) ++ xs.drop n)[n]? = some (xs[n]'(by omega)) := by
        rw [List.getElem?_append_right (by omega), hl, Nat.sub_self, List.getElem?_drop, Nat.add_zero, List.getElem?_eq_getElem (by omega)]
      have ht : xs.take (n + 1) = xs.take n ++ [xs[n]'(by omega)] := by rw [List.take_succ_eq_append_getElem (by omega)]
      simp only [List.foldl_cons, List.foldl_nil, hg, Option.getD_some, ht, kna, kms, Prod.mk.injEq]
      refine ⟨by simp [totN]; omega, ?_⟩
      have h3 : xs.drop n = xs[n]'(by omega) :: xs.drop (n + 1) := by rw [List.drop_eq_getElem_cons (by omega)]
      rw [List.set_append_right _ _ (by omega), hl, Nat.sub_self, h3, List.set_cons_zero]
      simp only [upSS, List.append_assoc, List.cons_append, List.nil_append]
  rw [key xs.length (Nat.le_refl _)]
  simp

def k3n  (b : Nat) : (Int × List (List Int)) → Nat ⊕ (Int × List (List Int))
  | (y1, y2) => (.inr (((y1 + (↑(List.length (Option.getD y2[b]? (dflt (CTy.sl (2 : Nat) (CTy.int IntKind.i64))))) : Int))), ((List.set y2 (b) (upFrom y1 (List.length (Option.getD y2[b]? (dflt (CTy.sl (2 : Nat) (CTy.int IntKind.i64))))))))))

def k1n  (i : Nat) : (Int × List (List Int)) → k1i
  | (y1, y2) => ((i : Int), y1, y2)

def kbe : k1i → Int × List (List Int)
  | (_, y1, y2) => (y1, y2)

theorem kj1  (y1 : Int) (y2 : List (List Int)) (n : Nat) (hl : y2.length = n) (hn : n ≤ 9223372036854775807) (h1 : 0 ≤ y1) (h2 : y1 + totN y2 ≤ 9223372036854775807) :
    kn.fin ((0 : Int), y1, y2) = true ∧ kn.res ((0 : Int), y1, y2) = ((walkL (k3n) 0 (List.range n) 0 (y1, y2)).1, (k1n) (walkL (k3n) 0 (List.range n) 0 (y1, y2)).2.1 (walkL (k3n) 0 (List.range n) 0 (y1, y2)).2.2) := by
  have key := kn.along (k1n) kbe (k3n) 0 (fun i a => a.2.length = n ∧ 0 ≤ a.1 ∧ a.1 + totN (a.2.drop i) ≤ 9223372036854775807) (List.range n) (y1, y2) ⟨hl, h1, by simpa using h2⟩ (by simp only [kn, k1n, List.length_range]; omega) (fun i b a hb hI => ?_) (fun a hI => ?_)
  · exact key
  · obtain ⟨y1, y2⟩ := a
    obtain ⟨rfl, hlt⟩ := range_get hb
    have hI0 : y2.length = n := hI.1
    have hw : IntKind.i64.wrap ((b : Int) + 1) = ((b + 1 : Nat) : Int) := by rw [wrap_i64 (by omega) (by omega)]; omega
    have hdec : ltI (b : Int) (y2.length : Int) = true := ltI_t (by omega)
    have hnn : leI (0 : Int) (b : Int) = true := leI_t (by omega)
    have hltd : ltN b y2.length = true := ltN_t (by omega)
    refine ⟨?_, ?_, ?_, ?_⟩
    · have hd : y2.drop b = y2[b]'(by omega) :: y2.drop (b + 1) := by rw [List.drop_eq_getElem_cons (by omega)]
      have hg : y2[b]? = some (y2[b]'(by omega)) := List.getElem?_eq_getElem (by omega)
      have hk := hI.2
      have h6 : k5a (b : Int) y1 y2 = true := by
        simp only [k5a, Int.toNat_natCast, hg]
        show mkOk y1 (y2[b]'(by omega)).length = true
        refine kcp.2 ⟨hk.1, ?_⟩
        have := hk.2
        simp only [hd, totN, List.map_cons, List.sum_cons] at this
        omega
      simp [k58, k6h, k6m, k6n, k6l, k6j, k61, kn, LT.nds, allT, k1n, hdec, hnn, hltd, h6]
    · simp [k58, k6h, k6m, k5a, k6n, k6l, k6j, k61, kn, LT.each, k1n, kbe, hw]
    · simp only [k58, k6h, k6m, k5a, k6n, k6l, k6j, k61, kn, LT.fn, k1n, kbe, k3n, Int.toNat_natCast, hdec, hnn, hltd, cond_true, Bool.cond_self]
    · have hd : y2.drop b = y2[b]'(by omega) :: y2.drop (b + 1) := by rw [List.drop_eq_getElem_cons (by omega)]
      have hg : y2[b]? = some (y2[b]'(by omega)) := List.getElem?_eq_getElem (by omega)
      have hk := hI.2
      intro a' hf; simp only [k3n, Sum.inr.injEq, hg] at hf
      have hf : (y1 + ((y2[b]'(by omega)).length : Int), y2.set b (upFrom y1 (y2[b]'(by omega)).length)) = a' := hf
      subst hf
      have := hk.2
      simp only [hd, totN, List.map_cons, List.sum_cons] at this
      refine ⟨by simp [hI0], by have := hk.1; simp only; omega, ?_⟩
      simp only [List.drop_set_of_lt (show b < b + 1 by omega), totN]
      omega
  · obtain ⟨y1, y2⟩ := a
    have hI0 : y2.length = n := hI.1
    simp [k58, k6h, k6m, k5a, k6n, k6l, k6j, k61, kn, LT.out, k1n, hI0, List.length_range]

theorem knq (k : Int) (xs : List (List Int)) (h : (mkOk k (totN xs) && leN xs.length 9223372036854775807) = true) : k9z k xs = k + totN xs ∧ k9p k xs = upSS k xs ∧ k9k k xs = true := by
  simp only [Bool.and_eq_true, leN_iff] at h
  obtain ⟨h0, h2⟩ := kcp.1 h.1
  obtain ⟨w1, w2⟩ := kj1 k xs xs.length rfl h.2 h0 h2
  rw [kn8 (f := k3n) (fun b k xs => rfl)] at w2
  refine ⟨?_, ?_, ?_⟩
  · simp only [k8d, k8e, k9z, k9p, k9k, w2, k1n]
  · simp only [k8d, k8e, k9z, k9p, k9k, w2, k1n]
  · simp only [k8d, k8e, k9z, k9p, k9k, w1, allT, cond_true]

def heldGo : Int → List (List Int) → Int
  | k, [] => k
  | k, l :: r => bif ltI (heldV k l) 0 then -1 else heldGo (heldV k l) r

def k59  (b : List Int) : (Int) → Nat ⊕ (Int)
  | y1 => (bif ((ltI (heldV y1 ((b))) (0 : Int))) then (.inl 0) else (.inr ((heldV y1 ((b))))))

def k28 (y2 : List (List Int)) (i : Nat) : (Int) → k1j
  | y1 => ((i : Int), y1, y2)

def kbd : k1j → Int
  | (_, y1, _) => y1

theorem kj9 (y2 : List (List Int)) (y1 : Int) (hn : y2.length ≤ 9223372036854775807) (hA : ∀ x ∈ y2, x.length ≤ 9223372036854775807) :
    kf.fin ((0 : Int), y1, y2) = true ∧ kf.res ((0 : Int), y1, y2) = ((walkL (k59) 1 y2 0 y1).1, (k28 y2) (walkL (k59) 1 y2 0 y1).2.1 (walkL (k59) 1 y2 0 y1).2.2) := by
  have key := kf.along (k28 y2) kbd (k59) 1 (fun _ _ => True) y2 y1 (by trivial) (by simp only [kf, k28]; omega) (fun i b a hb hI => ?_) (fun a hI => ?_)
  · exact key
  · obtain y1 := a
    have hlt := (List.getElem?_eq_some_iff.1 hb).1
    have hget : ∀ d, Option.getD y2[i]? d = b := fun d => by rw [hb]; rfl
    have hw := wrap64 hlt hn
    have hdec : ltI (i : Int) (y2.length : Int) = true := ltI_t (by omega)
    have hnn : leI (0 : Int) (i : Int) = true := leI_t (by omega)
    have hltd : ltN i y2.length = true := ltN_t hlt
    refine ⟨?_, ?_, ?_, ?_⟩
    · have hg2 : k1m (i : Int) y2 = b := by simp only [k1m, Int.toNat_natCast]; exact hget _
      have h6 : leN b.length 9223372036854775807 = true := leN_t (hA b (List.mem_of_getElem? hb))
      simp [k57, k90, k94, k93, k6k, k97, k6f, k5w, kf, LT.nds, allT, k28, hdec, hnn, hltd, hg2, h6]
    · simp [k1m, k57, k90, k94, k93, k6k, k6g, k97, k6f, k5w, kf, LT.each, k28, kbd, hw]
    · have hg2 : k1m (i : Int) y2 = b := by simp only [k1m, Int.toNat_natCast]; exact hget _
      simp only [k57, k6k, k6f, k5w, kf, LT.fn, k28, kbd, k59, Int.toNat_natCast, hdec, hg2, cond_true]
    · exact fun _ _ => trivial
  · obtain y1 := a
    simp [k1m, k57, k90, k94, k93, k6k, k6g, k97, k6f, k5w, kf, LT.out, k28]

theorem kmr {f : List Int → Int → Nat ⊕ Int} (hf : ∀ l k, f l k = bif ltI (heldV k l) 0 then .inl 0 else .inr (heldV k l)) : ∀ (r : List (List Int)) (i : Nat) (k : Int),
    (bif Nat.beq (walkL f 1 r i k).1 0 then (-1 : Int) else (walkL f 1 r i k).2.2) = heldGo k r
  | [], i, k => rfl
  | l :: r, i, k => by
    simp only [walkL, hf, heldGo]
    cases h : ltI (heldV k l) 0 with
    | true => rfl
    | false => exact kmr hf r (i + 1) _

theorem knt (k : Int) (xs : List (List Int)) (h : ssOk 9223372036854775807 xs = true) : kdn k xs = heldGo k xs ∧ kdj k xs = true := by
  obtain ⟨hn, hA⟩ := ss_iff.1 h
  obtain ⟨w1, w2⟩ := kj9 xs k hn hA
  simp only [kdn, kdj, kb7, k6g, w1, w2, k28, allT, cond_true]
  exact ⟨kmr (f := k59) (fun l k => rfl) xs 0 k, trivial⟩

theorem kn3 : ∀ (ll : List (List Int)) (k : Int), mkOk k (totN ll) = true → heldGo k (upSS k ll) = k + totN ll
  | [], k, _ => by simp [heldGo, upSS, totN]
  | l :: r, k, h => by
    obtain ⟨h0, h1⟩ := kcp.1 h
    have ht : (totN (l :: r) : Int) = l.length + totN r := by simp [totN]
    have m1 : mkOk k l.length = true := kcp.2 (by omega)
    have m2 : mkOk (k + l.length) (totN r) = true := kcp.2 (by omega)
    have t : ltI (k + (l.length : Int)) 0 = false := ltI_f (by omega)
    simp only [upSS, heldGo, knk k l.length m1, t, cond_false]
    rw [kn3 r _ m2]
    omega

def kgz : List SV → List Entry → Option Out
  | [.one ⟨false, [.ref 0]⟩, .one ⟨false, [.val (.int .i64 x0)]⟩], [.tree 22 (.sl 2 (.int .i64)) x1 none] => some ⟨(.one ⟨false, [(.val (.int IntKind.i64 (x0 + (totN x1 : Int))))]⟩), [(.tree 22 (CTy.sl (2 : Nat) (CTy.int IntKind.i64)) (upSS x0 x1) none)], [], [mkOk x0 (totN x1) && leN x1.length 9223372036854775807]⟩
  | _, _ => none

def kdb : PF Try.prog := PF.alt klk kgz (by
  intro args es o h hnd; unfold kgz at h; split at h
  · rename_i x0 x1
    cases h
    have hnd := nd_fst hnd
    have hh := knq x0 x1 hnd
    obtain ⟨e0, e1, en⟩ := hh
    exact altok rfl (nd_one en) (by simp only [e0] <;> rfl) (by simp only [e1] <;> rfl) rfl
  · cases h)

def kgo : List SV → List Entry → Option Out
  | [.one ⟨false, [.ref 0]⟩, .one ⟨false, [.val (.int .i64 x0)]⟩], [.row false 22 (.sl 2 (.int .i64)) x1] => some ⟨(.one ⟨false, [(.val (.int IntKind.i64 (heldGo x0 x1)))]⟩), [(.row false 22 (CTy.sl (2 : TypeId) (CTy.int IntKind.i64)) x1)], [], [ssOk 9223372036854775807 x1]⟩
  | _, _ => none

def kdo : PF Try.prog := PF.alt kl0 kgo (by
  intro args es o h hnd; unfold kgo at h; split at h
  · rename_i x0 x1
    cases h
    have hnd := nd_fst hnd
    have hh := knt x0 x1 hnd
    obtain ⟨e0, en⟩ := hh
    exact altok rfl (nd_one en) (by simp only [e0] <;> rfl) rfl rfl
  · cases h)

end Go.SX

namespace Go.SX
open Go.Proofs
set_option maxRecDepth 100000

def k9l (x3 : Int) (x4 : List Int) : Int :=
  x3 + (↑(List.length x4) : Int)

def k9h (x3 : Int) (x4 : List Int) (x5 : List (Int × Int × Int)) : Int :=
  k9l x3 x4 + (3 : Int) * (↑(List.length x5) : Int)

def k9w (x3 : Int) (x4 : List Int) (x5 : List (Int × Int × Int)) (x6 : List (List Int)) : Int :=
  k9h x3 x4 x5 + (↑(totN x6) : Int)

def k9y (x3 : Int) (x4 : List Int) (x5 : List (Int × Int × Int)) (x6 : List (List Int)) (x7 : List (Int × Int × Int)) : Int :=
  k9w x3 x4 x5 x6 + (3 : Int) * (↑(List.length x7) : Int)

def k9m (x3 : Int) (x4 : List Int) (x5 : List (Int × Int × Int)) (x6 : List (List Int)) (x7 : List (Int × Int × Int)) (x8 : List (Int × Int)) : Int :=
  k9y x3 x4 x5 x6 x7 + (2 : Int) * (↑(List.length x8) : Int)

def kg7 (x3 : Int) (x4 : List Int) (x5 : List (Int × Int × Int)) (x6 : List (List Int)) (x7 : List (Int × Int × Int)) (x8 : List (Int × Int)) (x9 : List (Int × Int)) : Int :=
  k9m x3 x4 x5 x6 x7 x8 + (2 : Int) * (↑(List.length x9) : Int)

def k6q (x3 : Int) (x4 : List Int) : List Int :=
  upFrom x3 (List.length x4)

def k8w (x3 : Int) (x4 : List Int) (x5 : List (Int × Int × Int)) : List (Int × (Int × Int)) :=
  upG (3 : Nat) mkB (k9l x3 x4) (List.length x5)

def k8x (x3 : Int) (x4 : List Int) (x5 : List (Int × Int × Int)) (x6 : List (List Int)) : List (List Int) :=
  upSS (k9h x3 x4 x5) x6

def k8u (x3 : Int) (x4 : List Int) (x5 : List (Int × Int × Int)) (x6 : List (List Int)) (x7 : List (Int × Int × Int)) : List (Int × (Int × Int)) :=
  upG (3 : Nat) mkB (k9w x3 x4 x5 x6) (List.length x7)

def k8v (x3 : Int) (x4 : List Int) (x5 : List (Int × Int × Int)) (x6 : List (List Int)) (x7 : List (Int × Int × Int)) (x8 : List (Int × Int)) : List (Int × Int) :=
  upG (2 : Nat) mkI (k9y x3 x4 x5 x6 x7) (List.length x8)

def k8y (x3 : Int) (x4 : List Int) (x5 : List (Int × Int × Int)) (x6 : List (List Int)) (x7 : List (Int × Int × Int)) (x8 : List (Int × Int)) (x9 : List (Int × Int)) : List (Int × Int) :=
  upG (2 : Nat) mkI (k9m x3 x4 x5 x6 x7 x8) (List.length x9)

def kg4 (x3 : Int) (x4 : List Int) (x5 : List (Int × Int × Int)) (x6 : List (List Int)) (x7 : List (Int × Int × Int)) (x8 : List (Int × Int)) (x9 : List (Int × Int)) : Bool :=
  allT
  [mkOk x3 (List.length x4), mkOk3 (3 : Nat) (k9l x3 x4) (List.length x5) && leN (List.length x5) (9223372036854775807 : Nat),
    mkOk (k9h x3 x4 x5) (totN x6) && leN (List.length x6) (9223372036854775807 : Nat),
    mkOk3 (3 : Nat) (k9w x3 x4 x5 x6) (List.length x7) && leN (List.length x7) (9223372036854775807 : Nat),
    mkOk3 (2 : Nat) (k9y x3 x4 x5 x6 x7) (List.length x8) && leN (List.length x8) (9223372036854775807 : Nat),
    mkOk3 (2 : Nat) (k9m x3 x4 x5 x6 x7 x8) (List.length x9) && leN (List.length x9) (9223372036854775807 : Nat)]

def kjc : List SV → List Entry → Option Out
  | [.one ⟨true, [.val (.int .i64 _x0), .ref 0, .ref 1, .ref 2, .ref 3, .val (.int .i64 _x1), .ref 4, .ref 5, .val (.int .i64 _x2)]⟩, .one ⟨false, [.val (.int .i64 x3)]⟩], [.row true 2 (.int .i64) x4, .row true 58 (.pair (.int .i64) (.pair (.int .i64) (.int .i64))) x5, .tree 22 (.sl 2 (.int .i64)) x6 none, .row true 61 (.pair (.int .i64) (.pair (.int .i64) (.int .i64))) x7, .row true 64 (.pair (.int .i64) (.int .i64)) x8, .row true 67 (.pair (.int .i64) (.int .i64)) x9] => some ⟨(.one ⟨false, [(.val (.int IntKind.i64 (kg7 x3 x4 x5 x6 x7 x8 x9)))]⟩), [(.row true 2 (CTy.int IntKind.i64) (k6q x3 x4)), (.row true 58 (CTy.pair (CTy.int IntKind.i64) (CTy.pair (CTy.int IntKind.i64) (CTy.int IntKind.i64))) (k8w x3 x4 x5)), (.tree 22 (CTy.sl (2 : Nat) (CTy.int IntKind.i64)) (k8x x3 x4 x5 x6) none), (.row true 61 (CTy.pair (CTy.int IntKind.i64) (CTy.pair (CTy.int IntKind.i64) (CTy.int IntKind.i64))) (k8u x3 x4 x5 x6 x7)), (.row true 64 (CTy.pair (CTy.int IntKind.i64) (CTy.int IntKind.i64)) (k8v x3 x4 x5 x6 x7 x8)), (.row true 67 (CTy.pair (CTy.int IntKind.i64) (CTy.int IntKind.i64)) (k8y x3 x4 x5 x6 x7 x8 x9))], [], [(kg4 x3 x4 x5 x6 x7 x8 x9)]⟩
  | _, _ => none

def kmq : PF Try.prog := PF.ofG Try.prog [PF.trees Try.prog, kd5, PF.lend kd5, PF.fz kd5, kb2, PF.lend kb2, PF.fz kb2, kdb, PF.lend kdb, PF.fz kdb, kbt, PF.lend kbt, PF.fz kbt, kf3, PF.lend kf3, PF.fz kf3, ket, PF.lend ket, PF.fz ket] [] hmix 7 Try.f7 Try.func7 (fun c _ => LOk.nil c) kjc (by
  intro vs es r h; unfold kjc at h; split at h
  · cases h; kernel_rfl
  · cases h)

def kbb (x3 : Int) (x4 : List Int) (x5 : List (Int × Int × Int)) (x6 : List (List Int)) : Bool :=
  ltI (heldGo (heldSensorFault (heldV1 x3 x4) x5) x6) (0 : Int)

def kcv (x3 : Int) (x4 : List Int) (x5 : List (Int × Int × Int)) (x6 : List (List Int)) (x7 : List (Int × Int × Int)) : Bool :=
  ltI (heldLockFault (heldGo (heldSensorFault (heldV1 x3 x4) x5) x6) x7) (0 : Int)

def kf6 (x3 : Int) (x4 : List Int) (x5 : List (Int × Int × Int)) (x6 : List (List Int)) (x7 : List (Int × Int × Int)) (x8 : List (Int × Int)) : Bool :=
  ltI (heldTask (heldLockFault (heldGo (heldSensorFault (heldV1 x3 x4) x5) x6) x7) x8) (0 : Int)

def kex (x3 : Int) (x4 : List Int) (x5 : List (Int × Int × Int)) (x6 : List (List Int)) (x7 : List (Int × Int × Int)) (x8 : List (Int × Int)) (x9 : List (Int × Int)) : Int :=
  heldLock (heldTask (heldLockFault (heldGo (heldSensorFault (heldV1 x3 x4) x5) x6) x7) x8) x9

def kbz (x3 : Int) (x4 : List Int) (x5 : List (Int × Int × Int)) (x6 : List (List Int)) (x7 : List (Int × Int × Int)) (x8 : List (Int × Int)) (x9 : List (Int × Int)) : Int :=
  bif ltI (heldV1 x3 x4) (0 : Int) then (-1 : Int)
  else
  bif ltI (heldSensorFault (heldV1 x3 x4) x5) (0 : Int) then (-1 : Int)
  else
    bif kbb x3 x4 x5 x6 then (-1 : Int)
    else
      bif kcv x3 x4 x5 x6 x7 then (-1 : Int)
      else
        bif kf6 x3 x4 x5 x6 x7 x8 then (-1 : Int)
        else bif ltI (kex x3 x4 x5 x6 x7 x8 x9) (0 : Int) then (-1 : Int) else kex x3 x4 x5 x6 x7 x8 x9

def kgb (x3 : Int) (x4 : List Int) (x5 : List (Int × Int × Int)) (x6 : List (List Int)) (x7 : List (Int × Int × Int)) (x8 : List (Int × Int)) (x9 : List (Int × Int)) : Bool :=
  allT
  [leN (List.length x4) (9223372036854775807 : Nat), ltI (heldV1 x3 x4) (0 : Int) || leN (List.length x5) (9223372036854775807 : Nat),
    ltI (heldV1 x3 x4) (0 : Int) || (ltI (heldSensorFault (heldV1 x3 x4) x5) (0 : Int) || ssOk (9223372036854775807 : Nat) x6),
    ltI (heldV1 x3 x4) (0 : Int) ||
      (ltI (heldSensorFault (heldV1 x3 x4) x5) (0 : Int) || (kbb x3 x4 x5 x6 || leN (List.length x7) (9223372036854775807 : Nat))),
    ltI (heldV1 x3 x4) (0 : Int) ||
      (ltI (heldSensorFault (heldV1 x3 x4) x5) (0 : Int) ||
        (kbb x3 x4 x5 x6 || (kcv x3 x4 x5 x6 x7 || leN (List.length x8) (9223372036854775807 : Nat)))),
    ltI (heldV1 x3 x4) (0 : Int) ||
      (ltI (heldSensorFault (heldV1 x3 x4) x5) (0 : Int) ||
        (kbb x3 x4 x5 x6 ||
          (kcv x3 x4 x5 x6 x7 || (kf6 x3 x4 x5 x6 x7 x8 || leN (List.length x9) (9223372036854775807 : Nat)))))]

def kjd : List SV → List Entry → Option Out
  | [.one ⟨true, [.val (.int .i64 _x0), .ref 0, .ref 1, .ref 2, .ref 3, .val (.int .i64 _x1), .ref 4, .ref 5, .val (.int .i64 _x2)]⟩, .one ⟨false, [.val (.int .i64 x3)]⟩], [.row false 2 (.int .i64) x4, .row false 58 (.pair (.int .i64) (.pair (.int .i64) (.int .i64))) x5, .row false 22 (.sl 2 (.int .i64)) x6, .row false 61 (.pair (.int .i64) (.pair (.int .i64) (.int .i64))) x7, .row false 64 (.pair (.int .i64) (.int .i64)) x8, .row false 67 (.pair (.int .i64) (.int .i64)) x9] => some ⟨(.one ⟨false, [(.val (.int IntKind.i64 (kbz x3 x4 x5 x6 x7 x8 x9)))]⟩), [(.row false 2 (CTy.int IntKind.i64) x4), (.row false 58 (CTy.pair (CTy.int IntKind.i64) (CTy.pair (CTy.int IntKind.i64) (CTy.int IntKind.i64))) x5), (.row false 22 (CTy.sl (2 : TypeId) (CTy.int IntKind.i64)) x6), (.row false 61 (CTy.pair (CTy.int IntKind.i64) (CTy.pair (CTy.int IntKind.i64) (CTy.int IntKind.i64))) x7), (.row false 64 (CTy.pair (CTy.int IntKind.i64) (CTy.int IntKind.i64)) x8), (.row false 67 (CTy.pair (CTy.int IntKind.i64) (CTy.int IntKind.i64)) x9)], [], [(kgb x3 x4 x5 x6 x7 x8 x9)]⟩
  | _, _ => none

def kmo : PF Try.prog := PF.ofG Try.prog [kdk, PF.lend kdk, PF.fz kdk, kb1, PF.lend kb1, PF.fz kb1, kdo, PF.lend kdo, PF.fz kdo, kbk, PF.lend kbk, PF.fz kbk, kf1, PF.lend kf1, PF.fz kf1, kf2, PF.lend kf2, PF.fz kf2] [] hmix 8 Try.f8 Try.func8 (fun c _ => LOk.nil c) kjd (by
  intro vs es r h; unfold kjd at h; split at h
  · cases h; kernel_rfl
  · cases h)

end Go.SX

namespace Go.SX
open Go.Proofs
set_option maxRecDepth 100000

/-- How many numbers stand in a ride's lists. -/
def rideT (ps : List Int) (fs : List (Int × Int × Int)) (rs : List (List Int)) (lf : List (Int × Int × Int)) (pl ls : List (Int × Int)) : Nat :=
  ps.length + 3 * fs.length + totN rs + 3 * lf.length + 2 * pl.length + 2 * ls.length

theorem knj : ∀ {rs : List (List Int)} {k : Int} {x : List Int}, x ∈ upSS k rs → ∃ y ∈ rs, x.length = y.length
  | [], _, _, h => by simp [upSS] at h
  | a :: r, k, x, h => by
    simp only [upSS, List.mem_cons] at h
    rcases h with rfl | h
    · exact ⟨a, by simp, by rw [upFrom_length]⟩
    · obtain ⟨y, h1, h2⟩ := knj h
      exact ⟨y, by simp [h1], h2⟩

theorem kns (k : Int) (ps : List Int) (fs : List (Int × Int × Int)) (rs : List (List Int)) (lf : List (Int × Int × Int)) (pl ls : List (Int × Int)) (h : (mkOk k (rideT ps fs rs lf pl ls) && rideN 9223372036854775807 ps fs rs lf pl ls) = true) :
    kg7 k ps fs rs lf pl ls = k + (rideT ps fs rs lf pl ls : Int) ∧ kg4 k ps fs rs lf pl ls = true := by
  simp only [Bool.and_eq_true] at h
  obtain ⟨h0, h1⟩ := kcp.1 h.1
  obtain ⟨g1, g2, ⟨g3, _⟩, g4, g5, g6⟩ := kfv.1 h.2
  simp only [rideT] at h1
  refine ⟨?_, ?_⟩
  · simp only [kg7, k9l, k9h, k9w, k9y, k9m, rideT]; omega
  · have m1 : mkOk k ps.length = true := kcp.2 (by omega)
    have m2 : mkOk3 3 (k + (ps.length : Int)) fs.length = true := k91.2 (by omega)
    have m3 : mkOk (k + (ps.length : Int) + 3 * (fs.length : Int)) (totN rs) = true := kcp.2 (by omega)
    have m4 : mkOk3 3 (k + (ps.length : Int) + 3 * (fs.length : Int) + (totN rs : Int)) lf.length = true := k91.2 (by omega)
    have m5 : mkOk3 2 (k + (ps.length : Int) + 3 * (fs.length : Int) + (totN rs : Int) + 3 * (lf.length : Int)) pl.length = true := k91.2 (by omega)
    have m6 : mkOk3 2 (k + (ps.length : Int) + 3 * (fs.length : Int) + (totN rs : Int) + 3 * (lf.length : Int) + 2 * (pl.length : Int)) ls.length = true := k91.2 (by omega)
    simp only [kg4, k9l, k9h, k9w, k9y, k9m, m1, m2, m3, m4, m5, m6, leN_t g2, leN_t g3, leN_t g4, leN_t g5, leN_t g6, allT, Bool.and_self, cond_true]

theorem knd (k : Int) (ps : List Int) (fs : List (Int × Int × Int)) (rs : List (List Int)) (lf : List (Int × Int × Int)) (pl ls : List (Int × Int)) (h : rideN 9223372036854775807 ps fs rs lf pl ls = true) :
    kgb k ps fs rs lf pl ls = true := by
  simp only [rideN, Bool.and_eq_true] at h
  obtain ⟨h1, h2, h3, h4, h5, h6⟩ := h
  simp only [kgb, h1, h2, h3, h4, h5, h6, allT, Bool.or_true, cond_true]

theorem kng (k : Int) (ps : List Int) (fs : List (Int × Int × Int)) (rs : List (List Int)) (lf : List (Int × Int × Int)) (pl ls : List (Int × Int)) (h : (mkOk k (rideT ps fs rs lf pl ls) && rideN 9223372036854775807 ps fs rs lf pl ls) = true) :
    kbz k (k6q k ps) (k8w k ps fs) (k8x k ps fs rs) (k8u k ps fs rs lf) (k8v k ps fs rs lf pl) (k8y k ps fs rs lf pl ls) = k + (rideT ps fs rs lf pl ls : Int) := by
  simp only [Bool.and_eq_true] at h
  obtain ⟨h0, h1⟩ := kcp.1 h.1
  obtain ⟨g1, g2, ⟨g3, _⟩, g4, g5, g6⟩ := kfv.1 h.2
  simp only [rideT] at h1
  have m1 : mkOk k ps.length = true := kcp.2 (by omega)
  have m2 : mkOk3 3 (k + (ps.length : Int)) fs.length = true := k91.2 (by omega)
  have m3 : mkOk (k + (ps.length : Int) + 3 * (fs.length : Int)) (totN rs) = true := kcp.2 (by omega)
  have m4 : mkOk3 3 (k + (ps.length : Int) + 3 * (fs.length : Int) + (totN rs : Int)) lf.length = true := k91.2 (by omega)
  have m5 : mkOk3 2 (k + (ps.length : Int) + 3 * (fs.length : Int) + (totN rs : Int) + 3 * (lf.length : Int)) pl.length = true := k91.2 (by omega)
  have m6 : mkOk3 2 (k + (ps.length : Int) + 3 * (fs.length : Int) + (totN rs : Int) + 3 * (lf.length : Int) + 2 * (pl.length : Int)) ls.length = true := k91.2 (by omega)
  have e1 : heldV1 k (upFrom k ps.length) = k + (ps.length : Int) := by
    rw [heldV1, knk k ps.length m1, show ltI (k + (ps.length : Int)) 0 = false from ltI_f (by omega)]; rfl
  have e2 := kl4 (k + (ps.length : Int)) fs.length (by rw [m2, leN_t g2]; rfl)
  have e3 := kn3 rs _ m3
  have e4 := kmi _ lf.length (by rw [m4, leN_t g4]; rfl)
  have e5 := knb _ pl.length (by rw [m5, leN_t g5]; rfl)
  have e6 := kn6 _ ls.length (by rw [m6, leN_t g6]; rfl)
  have t1 : ltI (k + (ps.length : Int)) 0 = false := ltI_f (by omega)
  have t2 : ltI (k + (ps.length : Int) + 3 * (fs.length : Int)) 0 = false := ltI_f (by omega)
  have t3 : ltI (k + (ps.length : Int) + 3 * (fs.length : Int) + (totN rs : Int)) 0 = false := ltI_f (by omega)
  have t4 : ltI (k + (ps.length : Int) + 3 * (fs.length : Int) + (totN rs : Int) + 3 * (lf.length : Int)) 0 = false := ltI_f (by omega)
  have t5 : ltI (k + (ps.length : Int) + 3 * (fs.length : Int) + (totN rs : Int) + 3 * (lf.length : Int) + 2 * (pl.length : Int)) 0 = false := ltI_f (by omega)
  have t6 : ltI (k + (ps.length : Int) + 3 * (fs.length : Int) + (totN rs : Int) + 3 * (lf.length : Int) + 2 * (pl.length : Int) + 2 * (ls.length : Int)) 0 = false := ltI_f (by omega)
  simp only [kbz, kbb, kcv, kf6, kex, k6q, k8w, k8x, k8u, k8v, k8y, k9l, k9h, k9w, k9y, k9m, e1, e2, e3, e4, e5, e6, t1, t2, t3, t4, t5, t6, cond_false, rideT]
  omega

theorem kni {k : Int} {ps : List Int} {fs : List (Int × Int × Int)} {rs : List (List Int)} {lf : List (Int × Int × Int)} {pl ls : List (Int × Int)} {m : Nat} (h : rideN m ps fs rs lf pl ls = true) :
    rideN m (k6q k ps) (k8w k ps fs) (k8x k ps fs rs) (k8u k ps fs rs lf) (k8v k ps fs rs lf pl) (k8y k ps fs rs lf pl ls) = true := by
  obtain ⟨g1, g2, ⟨g3, g7⟩, g4, g5, g6⟩ := kfv.1 h
  refine kfv.2 ⟨?_, ?_, ⟨?_, fun x hx => ?_⟩, ?_, ?_, ?_⟩
  · simp only [k6q, upFrom_length]; exact g1
  · simp only [k8w, ke4]; exact g2
  · simp only [k8x, klf]; exact g3
  · obtain ⟨y, h1, h2⟩ := knj hx
    rw [h2]; exact g7 y h1
  · simp only [k8u, ke4]; exact g4
  · simp only [k8v, ke4]; exact g5
  · simp only [k8y, ke4]; exact g6

theorem kmx : ∀ {rs : List (List Int)} {m : Nat}, (∀ x ∈ rs, x.length ≤ m) → totN rs ≤ m * rs.length
  | [], m, _ => by simp [totN]
  | a :: r, m, h => by
    have h1 := h a (by simp)
    have h2 := kmx (rs := r) (m := m) fun x hx => h x (by simp [hx])
    simp only [totN, List.map_cons, List.sum_cons, List.length_cons, Nat.mul_add, Nat.mul_one] at h2 ⊢
    omega

/-- A ride that is not too great is marked without a fault. -/
theorem kn5 {ps : List Int} {fs : List (Int × Int × Int)} {rs : List (List Int)} {lf : List (Int × Int × Int)} {pl ls : List (Int × Int)} (h : rideN 1048576 ps fs rs lf pl ls = true) : rideT ps fs rs lf pl ls ≤ 1099530698752 := by
  obtain ⟨g1, g2, ⟨g3, g7⟩, g4, g5, g6⟩ := kfv.1 h
  have h1 := kmx g7
  have h2 : 1048576 * rs.length ≤ 1048576 * 1048576 := Nat.mul_le_mul (Nat.le_refl _) g3
  simp only [rideT]; omega

def kje : List SV → List Entry → Option Out
  | [.one ⟨true, [.val (.int .i64 _x0), .ref 0, .ref 1, .ref 2, .ref 3, .val (.int .i64 _x1), .ref 4, .ref 5, .val (.int .i64 _x2)]⟩, .one ⟨false, [.val (.int .i64 x3)]⟩], [.row true 2 (.int .i64) x4, .row true 58 (.pair (.int .i64) (.pair (.int .i64) (.int .i64))) x5, .tree 22 (.sl 2 (.int .i64)) x6 none, .row true 61 (.pair (.int .i64) (.pair (.int .i64) (.int .i64))) x7, .row true 64 (.pair (.int .i64) (.int .i64)) x8, .row true 67 (.pair (.int .i64) (.int .i64)) x9] => some ⟨(.one ⟨false, [(.val (.int IntKind.i64 (x3 + (rideT x4 x5 x6 x7 x8 x9 : Int))))]⟩), [(.row true 2 (CTy.int IntKind.i64) (k6q x3 x4)), (.row true 58 (CTy.pair (CTy.int IntKind.i64) (CTy.pair (CTy.int IntKind.i64) (CTy.int IntKind.i64))) (k8w x3 x4 x5)), (.tree 22 (CTy.sl (2 : Nat) (CTy.int IntKind.i64)) (k8x x3 x4 x5 x6) none), (.row true 61 (CTy.pair (CTy.int IntKind.i64) (CTy.pair (CTy.int IntKind.i64) (CTy.int IntKind.i64))) (k8u x3 x4 x5 x6 x7)), (.row true 64 (CTy.pair (CTy.int IntKind.i64) (CTy.int IntKind.i64)) (k8v x3 x4 x5 x6 x7 x8)), (.row true 67 (CTy.pair (CTy.int IntKind.i64) (CTy.int IntKind.i64)) (k8y x3 x4 x5 x6 x7 x8 x9))], [], [mkOk x3 (rideT x4 x5 x6 x7 x8 x9) && rideN 9223372036854775807 x4 x5 x6 x7 x8 x9]⟩
  | _, _ => none

def kg3 : PF Try.prog := PF.alt kmq kje (by
  intro args es o h hnd; unfold kje at h; split at h
  · rename_i _x0 _x1 _x2 x3 x4 x5 x6 x7 x8 x9
    cases h
    have hnd := nd_fst hnd
    have hh := kns x3 x4 x5 x6 x7 x8 x9 hnd
    obtain ⟨e0, en⟩ := hh
    exact altok rfl (nd_one en) (by simp only [e0] <;> rfl) rfl rfl
  · cases h)

def kjm : List SV → List Entry → Option Out
  | [.one ⟨true, [.val (.int .i64 _x0), .ref 0, .ref 1, .ref 2, .ref 3, .val (.int .i64 _x1), .ref 4, .ref 5, .val (.int .i64 _x2)]⟩, .one ⟨false, [.val (.int .i64 x3)]⟩], [.row false 2 (.int .i64) x4, .row false 58 (.pair (.int .i64) (.pair (.int .i64) (.int .i64))) x5, .row false 22 (.sl 2 (.int .i64)) x6, .row false 61 (.pair (.int .i64) (.pair (.int .i64) (.int .i64))) x7, .row false 64 (.pair (.int .i64) (.int .i64)) x8, .row false 67 (.pair (.int .i64) (.int .i64)) x9] => some ⟨(.one ⟨false, [(.val (.int IntKind.i64 (kbz x3 x4 x5 x6 x7 x8 x9)))]⟩), [(.row false 2 (CTy.int IntKind.i64) x4), (.row false 58 (CTy.pair (CTy.int IntKind.i64) (CTy.pair (CTy.int IntKind.i64) (CTy.int IntKind.i64))) x5), (.row false 22 (CTy.sl (2 : TypeId) (CTy.int IntKind.i64)) x6), (.row false 61 (CTy.pair (CTy.int IntKind.i64) (CTy.pair (CTy.int IntKind.i64) (CTy.int IntKind.i64))) x7), (.row false 64 (CTy.pair (CTy.int IntKind.i64) (CTy.int IntKind.i64)) x8), (.row false 67 (CTy.pair (CTy.int IntKind.i64) (CTy.int IntKind.i64)) x9)], [], [rideN 9223372036854775807 x4 x5 x6 x7 x8 x9]⟩
  | _, _ => none

def kg9 : PF Try.prog := PF.alt kmo kjm (by
  intro args es o h hnd; unfold kjm at h; split at h
  · rename_i _x0 _x1 _x2 x3 x4 x5 x6 x7 x8 x9
    cases h
    have hnd := nd_fst hnd
    have hh := knd x3 x4 x5 x6 x7 x8 x9 hnd
    have en := hh
    exact altok rfl (nd_one en) rfl rfl rfl
  · cases h)

end Go.SX

namespace Go.SX
open Go.Proofs
set_option maxRecDepth 100000

abbrev k3c := Int × Int × List Int

def km6 (y0 : Int) : Bool :=
  ltI (0 : Int) y0

def km5 (y1 : Int) (y2 : List Int) : Bool :=
  leN (List.length y2 + List.length [y1]) (9223372036854775807 : Nat)

def km0 (y1 : Int) (y2 : List Int) : Bool :=
  leN ((List.length y2 + List.length [y1]) * (8 : Nat)) (140737488355328 : Nat)

def km1 (y0 : Int) : Int :=
  IntKind.wrap IntKind.i64 (y0 - (1 : Int))

def kma (y1 : Int) (y2 : List Int) : List Int :=
  y2 ++ [y1]

def kln : k3c → List (Nat × SV)
  | (y0, y1, _) => [(0, (.one ⟨false, [(.val (.int IntKind.i64 y0))]⟩)), (5, (.one ⟨false, [(.ref 0)]⟩)), (1, (.one ⟨false, [(.val (.int IntKind.i64 y1))]⟩))]

def kkx : k3c → List (Nat × Entry)
  | (_, _, y2) => [(0, (.row true 2 (CTy.int IntKind.i64) y2))]

def kl9 : Nat → k3c → List (Nat × SV)
  | _, (_, _, _) => [(5, (.one ⟨false, [(.ref 0)]⟩))]

def kl8 : Nat → k3c → List (Nat × Entry)
  | _, (_, _, y2) => [(0, (.row true 2 (CTy.int IntKind.i64) y2))]

def kkz : k3c → LT k3c
  | (y0, y1, y2) => .ite (km6 y0) (.need [(km5 y1 y2), (km0 y1 y2)] (.nrm ((km1 y0), y1, (kma y1 y2)) [(0, 384)])) (.ext 0 [(0, 0)])

def kd9 (s : St) : Option k3c :=
  (match s.look 0 with
  | some ⟨none, (.one ⟨false, [(.val (.int IntKind.i64 y0))]⟩)⟩ =>
  (match s.look 5 with
  | some ⟨none, (.one ⟨false, [(.ref 128)]⟩)⟩ =>
  (match s.look 1 with
  | some ⟨none, (.one ⟨false, [(.val (.int IntKind.i64 y1))]⟩)⟩ =>
  (match s.ent 128 with
  | some (.row true 2 (CTy.int IntKind.i64) y2) =>
  some (y0, y1, y2)
  | _ => none)
  | _ => none)
  | _ => none)
  | _ => none)

def k2o : Lp k3c where
  h := ⟨[7, 8, 11, 12, 13, 14, 5, 9, 10, 0], [], [0], []⟩
  JL := kln
  JE := kkx
  XL := kl9
  XE := kl8
  q := fun j => match j with | _ => .exit 0
  tags := [0]
  lt := kkz
  fuel := fun (y0, y1, y2) => y0.natAbs + y1.natAbs + y2.length
  fix := fun (_, y1, _) (y0, _, y2) => (y0, y1, y2)
  σ := [(0, 128)]
  rd := kd9

theorem kjn : LoopOk Try.prog (fun k => Nat.blt k Try.f11.ntmps) k2o.F (loopAt Try.f11 0) := by
  refine Lp.ok (tbl := []) (lf := []) hmix k2o (by kernel_rfl) (LOk.nil _) (fun _ => rfl) (fun _ _ => rfl) ?_ ?_ ?_ ?_ (fun _ => rfl) ?_
  · intro x; obtain ⟨y0, y1, y2⟩ := x; kernel_rfl
  · intro x; obtain ⟨y0, y1, y2⟩ := x; kernel_rfl
  · intro s x h
    have h : kd9 s = some x := h
    unfold kd9 at h
    repeat' split at h
    all_goals cases h
    exact ⟨absS_cons (by assumption) rfl (absS_cons (by assumption) rfl (absS_cons (by assumption) rfl (rfl))), absE_cons rfl (by assumption) rfl (rfl)⟩
  · intro x; obtain ⟨y0, y1, y2⟩ := x; kernel_rfl
  · intro x z; obtain ⟨y0, y1, y2⟩ := x; exact (And.intro rfl trivial)

def kdv (x0 : Int) (x1 : Int) : Int × Int × List Int :=
  (x0, x1, [])

def k7s (x0 : Int) (x1 : Int) : List Int :=
  Prod.snd (Prod.snd (Prod.snd (Lp.res k2o (kdv x0 x1))))

def kcs (x0 : Int) (x1 : Int) : Bool :=
  allT [Lp.fin k2o (kdv x0 x1)]

def kko : List SV → List Entry → Option Out
  | [.one ⟨false, [.val (.int .i64 x0)]⟩, .one ⟨false, [.val (.int .i64 x1)]⟩], [] => some ⟨(.one ⟨false, [(.ref 0)]⟩), [], [(.row true 2 (CTy.int IntKind.i64) (k7s x0 x1))], [(kcs x0 x1)]⟩
  | _, _ => none

def kks : PF Try.prog := PF.ofG Try.prog [] [k2o.F] hmix 11 Try.f11 Try.func11 (LOk.fnT (l := [loopAt Try.f11 0]) (by kernel_rfl) (.cons kjn (.nil _))) kko (by
  intro vs es r h; unfold kko at h; split at h
  · cases h; kernel_rfl
  · cases h)

abbrev k39 := Int × Int × Int × Int × List Int × List (List Int)

def k5d (y0 : Int) (y2 : Int) : List Int :=
  [IntKind.wrap IntKind.i64
    (IntKind.wrap IntKind.i64 ((3 : Int) * IntKind.wrap IntKind.i64 (IntKind.wrap IntKind.i64 (y2 - (1 : Int)) - y0)) + (1 : Int))]

def k4i (y0 : Int) : Int :=
  IntKind.wrap IntKind.i64 ((2 : Int) * ifLt y0 (1 : Int) y0 (1 : Int))

def ka4 (y0 : Int) (y1 : Int) : Bool :=
  ltI y0 y1

def kak (y0 : Int) (y2 : Int) (y4 : List Int) : Bool :=
  leN (List.length y4 + List.length (k5d y0 y2)) (9223372036854775807 : Nat)

def kaq (y0 : Int) (y2 : Int) (y4 : List Int) : Bool :=
  leN ((List.length y4 + List.length (k5d y0 y2)) * (8 : Nat)) (140737488355328 : Nat)

def kau (y0 : Int) (y3 : Int) : Bool :=
  kcs y3 (k4i y0)

def kaa (y0 : Int) (y3 : Int) (y5 : List (List Int)) : Bool :=
  leN (List.length y5 + List.length [k7s y3 (k4i y0)]) (9223372036854775807 : Nat)

def kad (y0 : Int) (y3 : Int) (y5 : List (List Int)) : Bool :=
  leN ((List.length y5 + List.length [k7s y3 (k4i y0)]) * (24 : Nat)) (140737488355328 : Nat)

def kc4 (y0 : Int) : Int :=
  IntKind.wrap IntKind.i64 (y0 + (1 : Int))

def kc8 (y0 : Int) (y2 : Int) (y4 : List Int) : List Int :=
  y4 ++ k5d y0 y2

def kc1 (y0 : Int) (y3 : Int) (y5 : List (List Int)) : List (List Int) :=
  y5 ++ [k7s y3 (k4i y0)]

def kl5 : k39 → List (Nat × SV)
  | (y0, y1, y2, y3, _, _) => [(10, (.one ⟨false, [(.val (.int IntKind.i64 y0))]⟩)), (1, (.one ⟨false, [(.val (.int IntKind.i64 y1))]⟩)), (8, (.one ⟨false, [(.ref 0)]⟩)), (0, (.one ⟨false, [(.val (.int IntKind.i64 y2))]⟩)), (9, (.one ⟨false, [(.ref 1)]⟩)), (2, (.one ⟨false, [(.val (.int IntKind.i64 y3))]⟩))]

def kl1 : k39 → List (Nat × Entry)
  | (_, _, _, _, y4, y5) => [(0, (.row true 2 (CTy.int IntKind.i64) y4)), (1, (.tree 22 (CTy.sl (2 : Nat) (CTy.int IntKind.i64)) y5 none))]

def kli : Nat → k39 → List (Nat × SV)
  | _, (_, _, _, _, _, _) => [(8, (.one ⟨false, [(.ref 0)]⟩)), (9, (.one ⟨false, [(.ref 1)]⟩))]

def klo : Nat → k39 → List (Nat × Entry)
  | _, (_, _, _, _, y4, y5) => [(0, (.row true 2 (CTy.int IntKind.i64) y4)), (1, (.tree 22 (CTy.sl (2 : Nat) (CTy.int IntKind.i64)) y5 none))]

def k9q : k39 → LT k39
  | (y0, y1, y2, y3, y4, y5) => .ite (ka4 y0 y1) (.need [(kak y0 y2 y4), (kaq y0 y2 y4)] (.need [(kau y0 y3), (kaa y0 y3 y5), (kad y0 y3 y5)] (.nrm ((kc4 y0), y1, y2, y3, (kc8 y0 y2 y4), (kc1 y0 y3 y5)) [(0, 768), (1, 1344)]))) (.ext 0 [(0, 0), (1, 1)])

def kd7 (s : St) : Option k39 :=
  (match s.look 10 with
  | some ⟨none, (.one ⟨false, [(.val (.int IntKind.i64 y0))]⟩)⟩ =>
  (match s.look 1 with
  | some ⟨none, (.one ⟨false, [(.val (.int IntKind.i64 y1))]⟩)⟩ =>
  (match s.look 8 with
  | some ⟨none, (.one ⟨false, [(.ref 1216)]⟩)⟩ =>
  (match s.look 0 with
  | some ⟨none, (.one ⟨false, [(.val (.int IntKind.i64 y2))]⟩)⟩ =>
  (match s.look 9 with
  | some ⟨none, (.one ⟨false, [(.ref 1280)]⟩)⟩ =>
  (match s.look 2 with
  | some ⟨none, (.one ⟨false, [(.val (.int IntKind.i64 y3))]⟩)⟩ =>
  (match s.ent 1216 with
  | some (.row true 2 (CTy.int IntKind.i64) y4) =>
  (match s.ent 1280 with
  | some (.tree 22 (CTy.sl (2 : Nat) (CTy.int IntKind.i64)) y5 none) =>
  some (y0, y1, y2, y3, y4, y5)
  | _ => none)
  | _ => none)
  | _ => none)
  | _ => none)
  | _ => none)
  | _ => none)
  | _ => none)
  | _ => none)

def k1c : Lp k39 where
  h := ⟨[30, 31, 32, 35, 36, 37, 38, 39, 40, 41, 42, 43, 8, 44, 45, 46, 47, 48, 49, 50, 51, 9, 33, 34, 10], [], [0, 1], []⟩
  JL := kl5
  JE := kl1
  XL := kli
  XE := klo
  q := fun j => match j with | _ => .exit 0
  tags := [0]
  lt := k9q
  fuel := fun (y0, y1, y2, y3, y4, y5) => y0.natAbs + y1.natAbs + y2.natAbs + y3.natAbs + y4.length + y5.length
  fix := fun (_, y1, y2, y3, _, _) (y0, _, _, _, y4, y5) => (y0, y1, y2, y3, y4, y5)
  σ := [(0, 1216), (1, 1280)]
  rd := kd7

theorem kjo : LoopOk Try.prog (fun k => Nat.blt k Try.f4.ntmps) k1c.F (loopAt Try.f4 0) := by
  refine Lp.ok (tbl := [PF.trees Try.prog, kk5, kks, kit]) (lf := []) hmix k1c (by kernel_rfl) (LOk.nil _) (fun _ => rfl) (fun _ _ => rfl) ?_ ?_ ?_ ?_ (fun _ => rfl) ?_
  · intro x; obtain ⟨y0, y1, y2, y3, y4, y5⟩ := x; kernel_rfl
  · intro x; obtain ⟨y0, y1, y2, y3, y4, y5⟩ := x; kernel_rfl
  · intro s x h
    have h : kd7 s = some x := h
    unfold kd7 at h
    repeat' split at h
    all_goals cases h
    exact ⟨absS_cons (by assumption) rfl (absS_cons (by assumption) rfl (absS_cons (by assumption) rfl (absS_cons (by assumption) rfl (absS_cons (by assumption) rfl (absS_cons (by assumption) rfl (rfl)))))), absE_cons rfl (by assumption) rfl (absE_cons rfl (by assumption) rfl (rfl))⟩
  · intro x; obtain ⟨y0, y1, y2, y3, y4, y5⟩ := x; kernel_rfl
  · intro x z; obtain ⟨y0, y1, y2, y3, y4, y5⟩ := x; exact (And.intro rfl trivial)

def k8z (x0 : Int) : Int :=
  IntKind.wrap IntKind.i64 (x0 - (1 : Int))

def k3d (x0 : Int) (x1 : Int) (x2 : Int) : Bool :=
  bif bif !ki4 x0 then true else !kfa x1 (1 : Int) (ifLt (k8z x0) (4 : Int) (k8z x0) (4 : Int)) then true
  else !kfa x2 (1 : Int) (12 : Int)

def kjg (x0 : Int) (x1 : Int) (x2 : Int) : Int :=
  bif k3d x0 x1 x2 then (0 : Int) else (0 : Int)

def kby (x0 : Int) (x1 : Int) (x2 : Int) : Int × Int × Int × Int × List Int × List (List Int) :=
  ((0 : Int), x1, x0, x2, [], [])

def kdx (x0 : Int) (x1 : Int) (x2 : Int) : List Int × List (List Int) :=
  Prod.snd (Prod.snd (Prod.snd (Prod.snd (Prod.snd (Lp.res k1c (kby x0 x1 x2))))))

def kgd (x0 : Int) (x1 : Int) (x2 : Int) : List (Int × Int × Int) :=
  bif k3d x0 x1 x2 then [] else []

def kga (x0 : Int) (x1 : Int) (x2 : Int) : List (Int × Int) :=
  bif k3d x0 x1 x2 then [] else []

def kcx (x0 : Int) (x1 : Int) (x2 : Int) : Int :=
  bif k3d x0 x1 x2 then (0 : Int) else x0

def kcn (x0 : Int) (x1 : Int) (x2 : Int) : Int :=
  kjg x0 x1 x2

def kei (x0 : Int) (x1 : Int) (x2 : Int) : Int :=
  kjg x0 x1 x2

def khd (x0 : Int) (x1 : Int) (x2 : Int) : Int :=
  bif k3d x0 x1 x2 then (2 : Int) else (0 : Int)

def kbg (x0 : Int) (x1 : Int) (x2 : Int) : List Int :=
  bif k3d x0 x1 x2 then [] else Prod.fst (kdx x0 x1 x2)

def ken (x0 : Int) (x1 : Int) (x2 : Int) : List (Int × (Int × Int)) :=
  kgd x0 x1 x2

def kbh (x0 : Int) (x1 : Int) (x2 : Int) : List (List Int) :=
  bif k3d x0 x1 x2 then [] else Prod.snd (kdx x0 x1 x2)

def kel (x0 : Int) (x1 : Int) (x2 : Int) : List (Int × (Int × Int)) :=
  kgd x0 x1 x2

def keq (x0 : Int) (x1 : Int) (x2 : Int) : List (Int × Int) :=
  kga x0 x1 x2

def khc (x0 : Int) (x1 : Int) (x2 : Int) : List (Int × Int) :=
  kga x0 x1 x2

def kc0 (x0 : Int) (x1 : Int) (x2 : Int) : Bool :=
  allT [k3d x0 x1 x2 || Lp.fin k1c (kby x0 x1 x2)]

def kkf : List SV → List Entry → Option Out
  | [.one ⟨false, [.val (.int .i64 x0)]⟩, .one ⟨false, [.val (.int .i64 x1)]⟩, .one ⟨false, [.val (.int .i64 x2)]⟩], [] => some ⟨(.tup [⟨true, [(.val (.int IntKind.i64 (kcx x0 x1 x2))), (.ref 0), (.ref 1), (.ref 2), (.ref 3), (.val (.int IntKind.i64 (kcn x0 x1 x2))), (.ref 4), (.ref 5), (.val (.int IntKind.i64 (kei x0 x1 x2)))]⟩, ⟨false, [(.val (.int IntKind.i64 (khd x0 x1 x2)))]⟩]), [], [(.row true 2 (CTy.int IntKind.i64) (kbg x0 x1 x2)), (.row true 58 (CTy.pair (CTy.int IntKind.i64) (CTy.pair (CTy.int IntKind.i64) (CTy.int IntKind.i64))) (ken x0 x1 x2)), (.tree 22 (CTy.sl (2 : Nat) (CTy.int IntKind.i64)) (kbh x0 x1 x2) none), (.row true 61 (CTy.pair (CTy.int IntKind.i64) (CTy.pair (CTy.int IntKind.i64) (CTy.int IntKind.i64))) (kel x0 x1 x2)), (.row true 64 (CTy.pair (CTy.int IntKind.i64) (CTy.int IntKind.i64)) (keq x0 x1 x2)), (.row true 67 (CTy.pair (CTy.int IntKind.i64) (CTy.int IntKind.i64)) (khc x0 x1 x2))], [(kc0 x0 x1 x2)]⟩
  | _, _ => none

def kmu : PF Try.prog := PF.ofG Try.prog [PF.trees Try.prog, kk5, kks, kit] [k1c.F] hmix 4 Try.f4 Try.func4 (LOk.fnT (l := [loopAt Try.f4 0]) (by kernel_rfl) (.cons kjo (.nil _))) kkf (by
  intro vs es r h; unfold kkf at h; split at h
  · cases h; kernel_rfl
  · cases h)

def kgg (x0 : Int) (x1 : Int) : Int :=
  IntKind.wrap IntKind.u64 (IntKind.wrap IntKind.u64 x0 * IntKind.wrap IntKind.u64 x1)

def klz (x0 : Int) (x1 : Int) : Int :=
  IntKind.wrap IntKind.u32 (Int.fdiv (kgg x0 x1) ((2 : Int) ^ min (Int.toNat (32 : Int)) (IntKind.bits IntKind.u64)))

def kmc (x0 : Int) (x1 : Int) : Int :=
  IntKind.wrap IntKind.u32 (kgg x0 x1)

def khl : List SV → List Entry → Option Out
  | [.one ⟨false, [.val (.int .u32 x0)]⟩, .one ⟨false, [.val (.int .u32 x1)]⟩], [] => some ⟨(.tup [⟨false, [(.val (.int IntKind.u32 (klz x0 x1)))]⟩, ⟨false, [(.val (.int IntKind.u32 (kmc x0 x1)))]⟩]), [], [], [true]⟩
  | _, _ => none

def kmb : PF Try.prog := PF.ofG Try.prog [] [] hmix 42 Try.f42 Try.func42 (fun c _ => LOk.nil c) khl (by
  intro vs es r h; unfold khl at h; split at h
  · cases h; kernel_rfl
  · cases h)

def kgt (x0 : Int) : Int :=
  Int.fdiv x0 ((2 : Int) ^ min (Int.toNat (32 : Int)) (IntKind.bits IntKind.u64))

def kgh (x1 : Int) : Int :=
  Int.fdiv x1 ((2 : Int) ^ min (Int.toNat (32 : Int)) (IntKind.bits IntKind.u64))

def kh5 (x1 : Int) : Int :=
  IntKind.wrap IntKind.u64
  (↑(BitVec.toNat (BitVec.ofInt (IntKind.bits IntKind.u64) x1 &&& BitVec.ofInt (IntKind.bits IntKind.u64) (4294967295 : Int))) : Int)

def kh1 (x0 : Int) : Int :=
  IntKind.wrap IntKind.u64
  (↑(BitVec.toNat (BitVec.ofInt (IntKind.bits IntKind.u64) x0 &&& BitVec.ofInt (IntKind.bits IntKind.u64) (4294967295 : Int))) : Int)

def kh0 (x0 : Int) (x1 : Int) : Int :=
  IntKind.wrap IntKind.u64
  (IntKind.wrap IntKind.u64 (kgt x0 * kh5 x1) +
    Int.fdiv (IntKind.wrap IntKind.u64 (kh1 x0 * kh5 x1))
      ((2 : Int) ^ min (Int.toNat (32 : Int)) (IntKind.bits IntKind.u64)))

def khp (x0 : Int) (x1 : Int) : Int :=
  IntKind.wrap IntKind.u64
  (IntKind.wrap IntKind.u64
      (IntKind.wrap IntKind.u64 (kgt x0 * kgh x1) +
        Int.fdiv (kh0 x0 x1) ((2 : Int) ^ min (Int.toNat (32 : Int)) (IntKind.bits IntKind.u64))) +
    Int.fdiv
      (IntKind.wrap IntKind.u64
        (IntKind.wrap IntKind.u64
            (↑(BitVec.toNat
                  (BitVec.ofInt (IntKind.bits IntKind.u64) (kh0 x0 x1) &&&
                    BitVec.ofInt (IntKind.bits IntKind.u64) (4294967295 : Int))) :
              Int) +
          IntKind.wrap IntKind.u64 (kh1 x0 * kgh x1)))
      ((2 : Int) ^ min (Int.toNat (32 : Int)) (IntKind.bits IntKind.u64)))

def khq (x0 : Int) (x1 : Int) : Int :=
  IntKind.wrap IntKind.u64 (x0 * x1)

def khm : List SV → List Entry → Option Out
  | [.one ⟨false, [.val (.int .u64 x0)]⟩, .one ⟨false, [.val (.int .u64 x1)]⟩], [] => some ⟨(.tup [⟨false, [(.val (.int IntKind.u64 (khp x0 x1)))]⟩, ⟨false, [(.val (.int IntKind.u64 (khq x0 x1)))]⟩]), [], [], [true]⟩
  | _, _ => none

def km7 : PF Try.prog := PF.ofG Try.prog [] [] hmix 43 Try.f43 Try.func43 (fun c _ => LOk.nil c) khm (by
  intro vs es r h; unfold khm at h; split at h
  · cases h; kernel_rfl
  · cases h)

def kjh (x0 : Int) (x1 : Int) : Int :=
  khp x0 x1

def kg8 (x0 : Int) (x1 : Int) : Int :=
  khq x0 x1

def kjj : List SV → List Entry → Option Out
  | [.one ⟨false, [.val (.int .u64 x0)]⟩, .one ⟨false, [.val (.int .u64 x1)]⟩], [] => some ⟨(.tup [⟨false, [(.val (.int IntKind.u64 (kjh x0 x1)))]⟩, ⟨false, [(.val (.int IntKind.u64 (kg8 x0 x1)))]⟩]), [], [], [true]⟩
  | _, _ => none

def kjb : PF Try.prog := PF.ofG Try.prog [kmb, km7] [] hmix 34 Try.f34 Try.func34 (fun c _ => LOk.nil c) kjj (by
  intro vs es r h; unfold kjj at h; split at h
  · cases h; kernel_rfl
  · cases h)

abbrev kg := Int × List Int

def ke6 (y0 : Int) (y1 : List Int) : Bool :=
  ltI y0 (↑(List.length y1) : Int)

def kan (y0 : Int) : Bool :=
  leI (0 : Int) y0

def kah (y0 : Int) (y1 : List Int) : Bool :=
  leI y0 (↑(List.length y1) : Int)

def kag (y0 : Int) (y1 : List Int) : Bool :=
  leN (Int.toNat y0) (List.length y1)

def ke7 (y0 : Int) (y1 : List Int) : Int :=
  IntKind.wrap IntKind.i64 (y0 + (↑(List.length (List.take (List.length y1 - Int.toNat y0) (List.take (Int.toNat y0) y1))) : Int))

def ke9 (y0 : Int) (y1 : List Int) : List Int :=
  copyL y1 (Int.toNat y0) (List.take (Int.toNat y0) y1)

def ke5 : kg → List (Nat × SV)
  | (y0, _) => [(8, (.one ⟨false, [(.val (.int IntKind.i64 y0))]⟩)), (7, (.one ⟨false, [(.ref 0)]⟩))]

def ke3 : kg → List (Nat × Entry)
  | (_, y1) => [(0, (.row true 2 (CTy.int IntKind.i64) y1))]

def ke1 : Nat → kg → List (Nat × SV)
  | _, (_, _) => []

def kdy : Nat → kg → List (Nat × Entry)
  | _, (_, y1) => [(0, (.row true 2 (CTy.int IntKind.i64) y1))]

def ke0 : kg → LT kg
  | (y0, y1) => .ite (ke6 y0 y1) (.need [(kan y0), (kah y0 y1), (kan y0), (kah y0 y1), (kag y0 y1), (kag y0 y1)] (.nrm ((ke7 y0 y1), (ke9 y0 y1)) [(0, 0)])) (.ext 0 [(0, 0)])

def k5v (s : St) : Option kg :=
  (match s.look 8 with
  | some ⟨none, (.one ⟨false, [(.val (.int IntKind.i64 y0))]⟩)⟩ =>
  (match s.look 7 with
  | some ⟨none, (.one ⟨false, [(.ref 1536)]⟩)⟩ =>
  (match s.ent 1536 with
  | some (.row true 2 (CTy.int IntKind.i64) y1) =>
  some (y0, y1)
  | _ => none)
  | _ => none)
  | _ => none)

def km : Lp kg where
  h := ⟨[34, 35, 36, 37, 38, 39, 40, 41, 42, 43, 44, 45, 46, 8], [0], [], []⟩
  JL := ke5
  JE := ke3
  XL := ke1
  XE := kdy
  q := fun j => match j with | _ => .exit 0
  tags := [0]
  lt := ke0
  fuel := fun (y0, y1) => y0.natAbs + y1.length
  fix := fun (_, _) (y0, y1) => (y0, y1)
  σ := [(0, 1536)]
  rd := k5v

theorem kd0 : LoopOk Try.prog (fun k => Nat.blt k Try.f15.ntmps) km.F (loopAt Try.f15 0) := by
  refine Lp.ok (tbl := [PF.parts Try.prog, kjb]) (lf := []) hmix km (by kernel_rfl) (LOk.nil _) (fun _ => rfl) (fun _ _ => rfl) ?_ ?_ ?_ ?_ (fun _ => rfl) ?_
  · intro x; obtain ⟨y0, y1⟩ := x; kernel_rfl
  · intro x; obtain ⟨y0, y1⟩ := x; kernel_rfl
  · intro s x h
    have h : k5v s = some x := h
    unfold k5v at h
    repeat' split at h
    all_goals cases h
    exact ⟨absS_cons (by assumption) rfl (absS_cons (by assumption) rfl (rfl)), absE_cons rfl (by assumption) rfl (rfl)⟩
  · intro x; obtain ⟨y0, y1⟩ := x; kernel_rfl
  · intro x z; obtain ⟨y0, y1⟩ := x; exact (And.intro rfl trivial)

def k1e (x0 : Int) (x1 : List Int) : Int :=
  IntKind.wrap IntKind.i64 (kg8 (IntKind.wrap IntKind.u64 (↑(List.length x1) : Int)) (IntKind.wrap IntKind.u64 x0))

def ka (x0 : Int) (x1 : List Int) : Int × List Int :=
  ((↑(List.length (List.take (List.length (List.replicate (Int.toNat (k1e x0 x1)) (0 : Int)) - (0 : Nat)) x1)) : Int),
  copyL (List.replicate (Int.toNat (k1e x0 x1)) (0 : Int)) (0 : Nat) x1)

def k6 (x0 : Int) (x1 : List Int) : List Int :=
  Prod.snd (Prod.snd (Lp.res km (ka x0 x1)))

def k9 (x0 : Int) (x1 : List Int) : Bool :=
  allT
  [!ltI x0 (0 : Int),
    !bif ltI (0 : Int) (kjh (IntKind.wrap IntKind.u64 (↑(List.length x1) : Int)) (IntKind.wrap IntKind.u64 x0)) then true
      else ltI (9223372036854775807 : Int) (kg8 (IntKind.wrap IntKind.u64 (↑(List.length x1) : Int)) (IntKind.wrap IntKind.u64 x0)),
    leI (0 : Int) (k1e x0 x1), leI (k1e x0 x1) (k1e x0 x1),
    leI ((↑(8 : Nat) : Int) * k1e x0 x1) (281474976710656 : Int),
    leI (k1e x0 x1) (9223372036854775807 : Int), Lp.fin km (ka x0 x1)]

def kbi : List SV → List Entry → Option Out
  | [.one ⟨false, [.ref 0]⟩, .one ⟨false, [.val (.int .i64 x0)]⟩], [.row false 2 (.int .i64) x1] => some ⟨(.one ⟨false, [(.ref 1)]⟩), [(.row false 2 (CTy.int IntKind.i64) x1)], [(.row true 2 (CTy.int IntKind.i64) (k6 x0 x1))], [(k9 x0 x1)]⟩
  | _, _ => none

def k29 : PF Try.prog := PF.ofG Try.prog [PF.parts Try.prog, kjb] [km.F] hmix 15 Try.f15 Try.func15 (LOk.fnT (l := [loopAt Try.f15 0]) (by kernel_rfl) (.cons kd0 (.nil _))) kbi (by
  intro vs es r h; unfold kbi at h; split at h
  · cases h; kernel_rfl
  · cases h)

abbrev k3b := Int × Int × Int × Int × Int × Int × Int × List Int × List (Int × (Int × Int)) × List (List Int) × List (Int × (Int × Int)) × List (Int × Int) × List (Int × Int)

def k5h (y0 : Int) (y2 : Int) : List Int :=
  [IntKind.wrap IntKind.i64
    (IntKind.wrap IntKind.i64 ((3 : Int) * IntKind.wrap IntKind.i64 (IntKind.wrap IntKind.i64 (y2 - (1 : Int)) - y0)) + (1 : Int))]

def k4c (y0 : Int) : List Int :=
  [bif y0 == (0 : Int) then (0 : Int) else (2 : Int)]

def kal (y0 : Int) (y1 : Int) : Bool :=
  ltI y0 y1

def kar (y0 : Int) (y2 : Int) (y7 : List Int) : Bool :=
  leN (List.length y7 + List.length (k5h y0 y2)) (9223372036854775807 : Nat)

def ka6 (y0 : Int) (y2 : Int) (y7 : List Int) : Bool :=
  leN ((List.length y7 + List.length (k5h y0 y2)) * (8 : Nat)) (140737488355328 : Nat)

def kae (y0 : Int) (y3 : Int) : Bool :=
  k9 y3 (k4c y0)

def ka9 (y0 : Int) (y3 : Int) (y9 : List (List Int)) : Bool :=
  leN (List.length y9 + List.length [k6 y3 (k4c y0)]) (9223372036854775807 : Nat)

def kav (y0 : Int) (y3 : Int) (y9 : List (List Int)) : Bool :=
  leN ((List.length y9 + List.length [k6 y3 (k4c y0)]) * (24 : Nat)) (140737488355328 : Nat)

def kc2 (y0 : Int) : Int :=
  IntKind.wrap IntKind.i64 (y0 + (1 : Int))

def kca (y0 : Int) (y2 : Int) (y7 : List Int) : List Int :=
  y7 ++ k5h y0 y2

def kc3 (y0 : Int) (y3 : Int) (y9 : List (List Int)) : List (List Int) :=
  y9 ++ [k6 y3 (k4c y0)]

def kl7 : k3b → List (Nat × SV)
  | (y0, y1, y2, y3, _, _, _, _, _, _, _, _, _) => [(32, (.one ⟨false, [(.val (.int IntKind.i64 y0))]⟩)), (31, (.one ⟨false, [(.val (.int IntKind.i64 y1))]⟩)), (8, (.one ⟨false, [(.ptr 0 0)]⟩)), (0, (.one ⟨false, [(.val (.int IntKind.i64 y2))]⟩)), (2, (.one ⟨false, [(.val (.int IntKind.i64 y3))]⟩))]

def kle : k3b → List (Nat × Entry)
  | (_, _, _, _, y4, y5, y6, y7, y8, y9, y10, y11, y12) => [(0, (.box 31 [(.val (.int IntKind.i64 y4)), (.ref 1), (.ref 2), (.ref 3), (.ref 4), (.val (.int IntKind.i64 y5)), (.ref 5), (.ref 6), (.val (.int IntKind.i64 y6))])), (2, (.row true 58 (CTy.pair (CTy.int IntKind.i64) (CTy.pair (CTy.int IntKind.i64) (CTy.int IntKind.i64))) y8)), (4, (.row true 61 (CTy.pair (CTy.int IntKind.i64) (CTy.pair (CTy.int IntKind.i64) (CTy.int IntKind.i64))) y10)), (5, (.row true 64 (CTy.pair (CTy.int IntKind.i64) (CTy.int IntKind.i64)) y11)), (6, (.row true 67 (CTy.pair (CTy.int IntKind.i64) (CTy.int IntKind.i64)) y12)), (1, (.row true 2 (CTy.int IntKind.i64) y7)), (3, (.tree 22 (CTy.sl (2 : Nat) (CTy.int IntKind.i64)) y9 none))]

def kld : Nat → k3b → List (Nat × SV)
  | _, (_, _, _, _, _, _, _, _, _, _, _, _, _) => []

def kl3 : Nat → k3b → List (Nat × Entry)
  | _, (_, _, _, _, y4, y5, y6, y7, y8, y9, y10, y11, y12) => [(0, (.box 31 [(.val (.int IntKind.i64 y4)), (.ref 1), (.ref 2), (.ref 3), (.ref 4), (.val (.int IntKind.i64 y5)), (.ref 5), (.ref 6), (.val (.int IntKind.i64 y6))])), (1, (.row true 2 (CTy.int IntKind.i64) y7)), (2, (.row true 58 (CTy.pair (CTy.int IntKind.i64) (CTy.pair (CTy.int IntKind.i64) (CTy.int IntKind.i64))) y8)), (3, (.tree 22 (CTy.sl (2 : Nat) (CTy.int IntKind.i64)) y9 none)), (4, (.row true 61 (CTy.pair (CTy.int IntKind.i64) (CTy.pair (CTy.int IntKind.i64) (CTy.int IntKind.i64))) y10)), (5, (.row true 64 (CTy.pair (CTy.int IntKind.i64) (CTy.int IntKind.i64)) y11)), (6, (.row true 67 (CTy.pair (CTy.int IntKind.i64) (CTy.int IntKind.i64)) y12))]

def k9o : k3b → LT k3b
  | (y0, y1, y2, y3, y4, y5, y6, y7, y8, y9, y10, y11, y12) => .ite (kal y0 y1) (.need [(kar y0 y2 y7), (ka6 y0 y2 y7)] (.need [(kae y0 y3), (ka9 y0 y3 y9), (kav y0 y3 y9)] (.nrm ((kc2 y0), y1, y2, y3, y4, y5, y6, (kca y0 y2 y7), y8, (kc3 y0 y3 y9), y10, y11, y12) [(0, 0), (1, 896), (2, 2), (3, 1856), (4, 4), (5, 5), (6, 6)]))) (.ext 0 [(0, 0), (1, 1), (2, 2), (3, 3), (4, 4), (5, 5), (6, 6)])

def kdc (s : St) : Option k3b :=
  (match s.look 32 with
  | some ⟨none, (.one ⟨false, [(.val (.int IntKind.i64 y0))]⟩)⟩ =>
  (match s.look 31 with
  | some ⟨none, (.one ⟨false, [(.val (.int IntKind.i64 y1))]⟩)⟩ =>
  (match s.look 8 with
  | some ⟨none, (.one ⟨false, [(.ptr 1408 0)]⟩)⟩ =>
  (match s.look 0 with
  | some ⟨none, (.one ⟨false, [(.val (.int IntKind.i64 y2))]⟩)⟩ =>
  (match s.look 2 with
  | some ⟨none, (.one ⟨false, [(.val (.int IntKind.i64 y3))]⟩)⟩ =>
  (match s.ent 1408 with
  | some (.box 31 [(.val (.int IntKind.i64 y4)), (.ref 1280), (.ref 1344), (.ref 1345), (.ref 1346), (.val (.int IntKind.i64 y5)), (.ref 1347), (.ref 1348), (.val (.int IntKind.i64 y6))]) =>
  (match s.ent 1344 with
  | some (.row true 58 (CTy.pair (CTy.int IntKind.i64) (CTy.pair (CTy.int IntKind.i64) (CTy.int IntKind.i64))) y8) =>
  (match s.ent 1346 with
  | some (.row true 61 (CTy.pair (CTy.int IntKind.i64) (CTy.pair (CTy.int IntKind.i64) (CTy.int IntKind.i64))) y10) =>
  (match s.ent 1347 with
  | some (.row true 64 (CTy.pair (CTy.int IntKind.i64) (CTy.int IntKind.i64)) y11) =>
  (match s.ent 1348 with
  | some (.row true 67 (CTy.pair (CTy.int IntKind.i64) (CTy.int IntKind.i64)) y12) =>
  (match s.ent 1280 with
  | some (.row true 2 (CTy.int IntKind.i64) y7) =>
  (match s.ent 1345 with
  | some (.tree 22 (CTy.sl (2 : Nat) (CTy.int IntKind.i64)) y9 none) =>
  some (y0, y1, y2, y3, y4, y5, y6, y7, y8, y9, y10, y11, y12)
  | _ => none)
  | _ => none)
  | _ => none)
  | _ => none)
  | _ => none)
  | _ => none)
  | _ => none)
  | _ => none)
  | _ => none)
  | _ => none)
  | _ => none)
  | _ => none)

def k1d : Lp k3b where
  h := ⟨[33, 34, 9, 35, 36, 37, 38, 39, 40, 41, 42, 43, 44, 45, 46, 47, 10, 48, 49, 50, 51, 52, 53, 54, 55, 56, 57, 58, 59, 32], [0, 2, 4, 5, 6], [1, 3], []⟩
  JL := kl7
  JE := kle
  XL := kld
  XE := kl3
  q := fun j => match j with | _ => .exit 0
  tags := [0]
  lt := k9o
  fuel := fun (y0, y1, y2, y3, y4, y5, y6, y7, y8, y9, y10, y11, y12) => y0.natAbs + y1.natAbs + y2.natAbs + y3.natAbs + y4.natAbs + y5.natAbs + y6.natAbs + y7.length + y8.length + y9.length + y10.length + y11.length + y12.length
  fix := fun (_, y1, y2, y3, y4, y5, y6, _, y8, _, y10, y11, y12) (y0, _, _, _, _, _, _, y7, _, y9, _, _, _) => (y0, y1, y2, y3, y4, y5, y6, y7, y8, y9, y10, y11, y12)
  σ := [(0, 1408), (2, 1344), (4, 1346), (5, 1347), (6, 1348), (1, 1280), (3, 1345)]
  rd := kdc

theorem kk8 : LoopOk Try.prog (fun k => Nat.blt k Try.f5.ntmps) k1d.F (loopAt Try.f5 0) := by
  refine Lp.ok (tbl := [PF.trees Try.prog, kfs, kfx, khi, k29, PF.lend k29, PF.fz k29]) (lf := []) hmix k1d (by kernel_rfl) (LOk.nil _) (fun _ => rfl) (fun _ _ => rfl) ?_ ?_ ?_ ?_ (fun _ => rfl) ?_
  · intro x; obtain ⟨y0, y1, y2, y3, y4, y5, y6, y7, y8, y9, y10, y11, y12⟩ := x; kernel_rfl
  · intro x; obtain ⟨y0, y1, y2, y3, y4, y5, y6, y7, y8, y9, y10, y11, y12⟩ := x; kernel_rfl
  · intro s x h
    have h : kdc s = some x := h
    unfold kdc at h
    repeat' split at h
    all_goals cases h
    exact ⟨absS_cons (by assumption) rfl (absS_cons (by assumption) rfl (absS_cons (by assumption) rfl (absS_cons (by assumption) rfl (absS_cons (by assumption) rfl (rfl))))), absE_cons rfl (by assumption) rfl (absE_cons rfl (by assumption) rfl (absE_cons rfl (by assumption) rfl (absE_cons rfl (by assumption) rfl (absE_cons rfl (by assumption) rfl (absE_cons rfl (by assumption) rfl (absE_cons rfl (by assumption) rfl (rfl)))))))⟩
  · intro x; obtain ⟨y0, y1, y2, y3, y4, y5, y6, y7, y8, y9, y10, y11, y12⟩ := x; kernel_rfl
  · intro x z; obtain ⟨y0, y1, y2, y3, y4, y5, y6, y7, y8, y9, y10, y11, y12⟩ := x; exact (And.intro rfl trivial)

def kjf (x0 : Int) : Int :=
  IntKind.wrap IntKind.i64 (x0 - (1 : Int))

def k5s (x0 : Int) (x1 : Int) (x2 : Int) : Bool :=
  bif bif !kfz x0 then true else !kft x1 (1 : Int) (ifLt (kjf x0) (4 : Int) (kjf x0) (4 : Int)) then
  true
  else !khh x2

def kjl (x0 : Int) (x1 : Int) (x2 : Int) : Int :=
  bif k5s x0 x1 x2 then (0 : Int) else (0 : Int)

def kbw (x0 : Int) (x1 : Int) (x2 : Int) : Int × Int × Int × Int × Int × Int × Int × List Int × List (Int × Int × Int) × List (List Int) × List (Int × Int × Int) × List (Int × Int) × List (Int × Int) :=
  ((0 : Int), x1, x0, x2, x0, (0 : Int), (0 : Int), [], [], [], [], [], [])

def kdu (x0 : Int) (x1 : Int) (x2 : Int) : List Int × List (Int × Int × Int) × List (List Int) × List (Int × Int × Int) × List (Int × Int) × List (Int × Int) :=
  Prod.snd (Prod.snd (Prod.snd (Prod.snd (Prod.snd (Prod.snd (Prod.snd (Prod.snd (Lp.res k1d (kbw x0 x1 x2)))))))))

def kg6 (x0 : Int) (x1 : Int) (x2 : Int) : List (Int × Int × Int) :=
  bif k5s x0 x1 x2 then [] else []

def kg5 (x0 : Int) (x1 : Int) (x2 : Int) : List (Int × Int) :=
  bif k5s x0 x1 x2 then [] else []

def kes (x0 : Int) (x1 : Int) (x2 : Int) : Int :=
  bif k5s x0 x1 x2 then (0 : Int) else x0

def keh (x0 : Int) (x1 : Int) (x2 : Int) : Int :=
  kjl x0 x1 x2

def kha (x0 : Int) (x1 : Int) (x2 : Int) : Int :=
  kjl x0 x1 x2

def kh7 (x0 : Int) (x1 : Int) (x2 : Int) : Int :=
  bif k5s x0 x1 x2 then (2 : Int) else (0 : Int)

def k1x (x0 : Int) (x1 : Int) (x2 : Int) : List Int :=
  bif k5s x0 x1 x2 then [] else Prod.fst (kdu x0 x1 x2)

def k45 (x0 : Int) (x1 : Int) (x2 : Int) : List (Int × (Int × Int)) :=
  kg6 x0 x1 x2

def k3g (x0 : Int) (x1 : Int) (x2 : Int) : List (List Int) :=
  bif k5s x0 x1 x2 then [] else Prod.fst (Prod.snd (Prod.snd (kdu x0 x1 x2)))

def k5q (x0 : Int) (x1 : Int) (x2 : Int) : List (Int × (Int × Int)) :=
  kg6 x0 x1 x2

def k6o (x0 : Int) (x1 : Int) (x2 : Int) : List (Int × Int) :=
  kg5 x0 x1 x2

def k81 (x0 : Int) (x1 : Int) (x2 : Int) : List (Int × Int) :=
  kg5 x0 x1 x2

def kax (x0 : Int) (x1 : Int) (x2 : Int) : Bool :=
  allT [k5s x0 x1 x2 || Lp.fin k1d (kbw x0 x1 x2)]

def kkl : List SV → List Entry → Option Out
  | [.one ⟨false, [.val (.int .i64 x0)]⟩, .one ⟨false, [.val (.int .i64 x1)]⟩, .one ⟨false, [.val (.int .i64 x2)]⟩], [] => some ⟨(.tup [⟨true, [(.val (.int IntKind.i64 (kes x0 x1 x2))), (.ref 0), (.ref 1), (.ref 2), (.ref 3), (.val (.int IntKind.i64 (keh x0 x1 x2))), (.ref 4), (.ref 5), (.val (.int IntKind.i64 (kha x0 x1 x2)))]⟩, ⟨false, [(.val (.int IntKind.i64 (kh7 x0 x1 x2)))]⟩]), [], [(.row true 2 (CTy.int IntKind.i64) (k1x x0 x1 x2)), (.row true 58 (CTy.pair (CTy.int IntKind.i64) (CTy.pair (CTy.int IntKind.i64) (CTy.int IntKind.i64))) (k45 x0 x1 x2)), (.tree 22 (CTy.sl (2 : Nat) (CTy.int IntKind.i64)) (k3g x0 x1 x2) none), (.row true 61 (CTy.pair (CTy.int IntKind.i64) (CTy.pair (CTy.int IntKind.i64) (CTy.int IntKind.i64))) (k5q x0 x1 x2)), (.row true 64 (CTy.pair (CTy.int IntKind.i64) (CTy.int IntKind.i64)) (k6o x0 x1 x2)), (.row true 67 (CTy.pair (CTy.int IntKind.i64) (CTy.int IntKind.i64)) (k81 x0 x1 x2))], [(kax x0 x1 x2)]⟩
  | _, _ => none

def kmw : PF Try.prog := PF.ofG Try.prog [PF.trees Try.prog, kfs, kfx, khi, k29, PF.lend k29, PF.fz k29] [k1d.F] hmix 5 Try.f5 Try.func5 (LOk.fnT (l := [loopAt Try.f5 0]) (by kernel_rfl) (.cons kk8 (.nil _))) kkl (by
  intro vs es r h; unfold kkl at h; split at h
  · cases h; kernel_rfl
  · cases h)

end Go.SX

/- A symbolic evaluator over the model's own operations, part 3v: what one operation does. -/
import Derived.Test.YtjncnnpdaeociaaTX3d
namespace Go.SX
open Go.RowKit

/-! ### Nil slices get a name -/

def pairUp : List (Option CTy) → Option CTy
  | [] => none
  | [t] => t
  | some t :: r => match pairUp r with
    | some u => some (.pair t u)
    | none => none
  | none :: _ => none

def ctyOf (P : Program) : Nat → TypeId → Option CTy
  | 0, _ => none
  | f + 1, T => match P.underlying T with
    | some (.int k) => some (.int k)
    | some .bool => some .bool
    | some .string => some .str
    | some (.slice e) => (ctyOf P f e).map (.sl e)
    | some (.struct fs) => pairUp (fs.toList.map fun fd => ctyOf P f fd.type)
    | some (.array n e) => pairUp (List.replicate n (ctyOf P f e))
    | _ => none

def joinL {α : Type} : List (List α) → List α
  | [] => []
  | a :: r => a ++ joinL r

def slotsOf (P : Program) : Nat → TypeId → List (Option (TypeId × CTy))
  | 0, _ => [none]
  | f + 1, T => match P.underlying T with
    | some (.slice e) => [(ctyOf P f e).map fun t => (e, t)]
    | some (.struct fs) => joinL (fs.toList.map fun fd => slotsOf P f fd.type)
    | some (.array n e) => joinL (List.replicate n (slotsOf P f e))
    | _ => [none]

def isNil : Cell → Bool
  | .val (.slice none 0 0) => true
  | _ => false

def nilC : List (Option (TypeId × CTy)) → List Cell → Nat → List Cell
  | some _ :: ts, c :: cs, n => bif isNil c then .ref n :: nilC ts cs (n + 1) else c :: nilC ts cs n
  | none :: ts, c :: cs, n => c :: nilC ts cs n
  | _, cs, _ => cs

def nilE : List (Option (TypeId × CTy)) → List Cell → Nat → List (Nat × Entry)
  | some (e, t) :: ts, c :: cs, n => bif isNil c then (n, .row true e t []) :: nilE ts cs (n + 1) else nilE ts cs n
  | none :: ts, _ :: cs, n => nilE ts cs n
  | _, _, _ => []

/-- A value, its new names. -/
structure Fix where
  v : V1
  es : List (Nat × Entry)

def fixV (P : Program) (T : TypeId) (n : Nat) (v : V1) : Fix :=
  match v.cs.any isNil with
  | true => ⟨⟨v.agg, nilC (slotsOf P 12 T) v.cs n⟩, nilE (slotsOf P 12 T) v.cs n⟩
  | false => ⟨v, []⟩

def keys {α : Type} (l : List (Nat × α)) : List Nat := l.map (·.1)

/-! ### Small steps -/

def V1.cells? (v : V1) : Option (List Cell) :=
  match v.agg, v.cs with
  | true, cs => some cs
  | false, [.val (.agg _)] => none
  | false, [c] => some [c]
  | false, _ => none

def Cell.one : Cell → Bool
  | .val v => v.oneCell'
  | _ => true

def isAggD : TypeDesc → Bool
  | .struct _ | .array _ _ => true
  | _ => false

/-- The part of type T at off. -/
def loadC (P : Program) (T : TypeId) (off : Nat) (cs : List Cell) : Option V1 :=
  match P.underlying T, P.info? T with
  | some d, some i =>
    match isAggD d with
    | true => bif Nat.ble (off + i.size) cs.length then some ⟨true, (cs.drop off).take i.size⟩ else none
    | false => match cs[off]? with
      | some c => some ⟨false, [c]⟩
      | none => none
  | _, _ => none

def storeOk (P : Program) (T : TypeId) (off n : Nat) (ns : List Cell) : Bool :=
  match P.info? T with
  | some i => Nat.beq ns.length i.size && Nat.ble (off + ns.length) n && ns.all Cell.one
  | none => false

def fieldOff (P : Program) (T : TypeId) (f : Nat) : Option Nat :=
  match P.underlying T with
  | some (.struct fs) => match fs[f]? with
    | some fd => match P.info? fd.type with
      | some i => bif Nat.beq i.size 0 then none else some fd.offset
      | none => none
    | none => none
  | _ => none

def fillC (place : Nat → Option (Nat × Nat)) (cells : List Cell) : List (Nat × V1) → Option (List Cell)
  | [] => some cells
  | (i, v) :: rest => match place i, v.cells? with
    | some (off, size), some ns => bif Nat.beq ns.length size && Nat.ble (off + ns.length) cells.length then fillC place (cells.take off ++ ns ++ cells.drop (off + ns.length)) rest else none
    | _, _ => none

def place (P : Program) (fs : Array Field) (i : Nat) : Option (Nat × Nat) :=
  match fs[i]? with
  | some fd => match P.info? fd.type with
    | some j => some (fd.offset, j.size)
    | none => none
  | none => none

def Raw.ofV (v : SV) : Raw := ⟨v, [], [], []⟩
def one (c : Cell) : SV := .one ⟨false, [c]⟩
def undefV : SV := .ofValue undef

def vof (look : Nat → Option SS) (A : List (Nat × Bool)) (x : Operand) : Value :=
  match ev look A x with
  | some v => match v.toValue? with
    | some u => u
    | none => undef
  | none => undef

def vok (look : Nat → Option SS) (A : List (Nat × Bool)) (x : Operand) : Bool :=
  match ev look A x with
  | some v => v.toValue?.isSome
  | none => false

def opsOf : Op → List Operand
  | .call c => (match c.callee with | .value f => [f] | .invoke r _ => [r] | .builtin _ => []) ++ c.args.toList
  | op => op.operands.toList

theorem mem_opsOf {op : Op} {x : Operand} (h : x ∈ op.operands) : x ∈ opsOf op := by
  cases op with
  | call c =>
    simp only [Op.operands, Call.operands] at h
    simp only [opsOf]
    cases hc : c.callee <;> simp [hc] at h ⊢ <;> exact h
  | _ => simpa [opsOf] using h

/-- All operands are plain values: the model's own operation. -/
def generic (P : Program) (look : Nat → Option SS) (A : List (Nat × Bool)) (o : Oper) : Option Raw :=
  bif (opsOf o.op).all (vok look A) then
    match pureRun P (execOp (vof look A) o) with
    | some (.value v) => some (.ofV (.ofValue v))
    | _ => none
  else none

/-- An operand that is one cell. -/
def evC (look : Nat → Option SS) (A : List (Nat × Bool)) (x : Operand) : Option Cell :=
  match ev look A x with
  | some (.one ⟨false, [c]⟩) => some c
  | _ => none

def evI (look : Nat → Option SS) (A : List (Nat × Bool)) (x : Operand) : Option Int :=
  match evC look A x with
  | some (.val (.int _ i)) => some i
  | _ => none

def ev1 (look : Nat → Option SS) (A : List (Nat × Bool)) (x : Operand) : Option V1 :=
  match ev look A x with
  | some (.one v) => some v
  | _ => none

def evs (look : Nat → Option SS) (A : List (Nat × Bool)) : List Operand → Option (List SV)
  | [] => some []
  | x :: r => match ev look A x, evs look A r with
    | some v, some vs => some (v :: vs)
    | _, _ => none

def ev1s (look : Nat → Option SS) (A : List (Nat × Bool)) : List (Nat × Operand) → Option (List (Nat × V1))
  | [] => some []
  | (i, x) :: r => match ev1 look A x, ev1s look A r with
    | some v, some vs => some ((i, v) :: vs)
    | _, _ => none

/-- The type of elements with so many cells. -/
def elemOk (P : Program) (T : TypeId) (t : CTy) : Bool :=
  match P.underlying T with
  | some (.slice e) => match P.info? e with
    | some i => Nat.beq i.size t.size
    | none => false
  | _ => false

section
variable (P : Program) (tbl : List (PF P)) (look : Nat → Option SS) (ent : Nat → Option Entry) (A : List (Nat × Bool)) (nid : Nat)

def moveV (T : TypeId) (x : Operand) : Option Raw :=
  match ev look A x with
  | some (.one v) => let f := fixV P T nid v; some ⟨.one f.v, f.es, keys f.es, []⟩
  | some v => some (.ofV v)
  | none => none

def pickV (c x y : Operand) : Option Raw :=
  match c, evC look A c with
  | .tmp jc, some (.val (.bool cb)) => match ev look ((jc, true) :: A) x, ev look ((jc, false) :: A) y with
    | some vx, some vy => (mergeSV cb vx vy).map Raw.ofV
    | _, _ => none
  | _, _ => none

def allocV (T : TypeId) : Option Raw :=
  match P.info? T with
  | some i => match i.zero with
    | some z => let f := fixV P T (nid + 1) ⟨true, z.cells.toList.map .val⟩; some ⟨one (.ptr nid 0), (nid, .box T f.v.cs) :: f.es, nid :: keys f.es, []⟩
    | none => none
  | none => none

def boxV (T : TypeId) (x : Operand) : Option Raw :=
  match ev1 look A x with
  | some v => match v.cells? with
    | some cs => let f := fixV P T (nid + 1) ⟨true, cs⟩; some ⟨one (.ptr nid 0), (nid, .box T f.v.cs) :: f.es, nid :: keys f.es, []⟩
    | none => none
  | none => none

def loadV (T : TypeId) (x : Operand) : Option Raw :=
  match evC look A x with
  | some (.ptr id off) => match ent id with
    | some (.box _ cs) => match loadC P T off cs with
      | some v => some (.ofV (.one v))
      | none => none
    | _ => none
  | some (.el id z i off) => match ent id with
    | some (.row _ _ t xs) => bif Nat.beq z t.size then
        match loadC P T off (openC t (xs[i]?.getD (dflt t)) nid) with
        | some v => some ⟨.one v, openN t (xs[i]?.getD (dflt t)) nid, idsFrom nid t.nsl, [decide (i < xs.length)]⟩
        | none => none
      else none
    | _ => none
  | _ => none

def storeV (T : TypeId) (x y : Operand) : Option Raw :=
  match evC look A x, ev1 look A y with
  | some (.ptr id off), some v => match ent id, v.cells? with
    | some (.box U cs), some ns => bif storeOk P T off cs.length ns then some ⟨undefV, [(id, .box U (cs.take off ++ ns ++ cs.drop (off + ns.length)))], [], []⟩ else none
    | _, _ => none
  | some (.el id z i off), some v => match ent id, v.cells? with
    | some (.row true e t xs), some ns => bif Nat.beq z t.size && storeOk P T off t.size ns && (t.flat || Nat.beq off 0 && Nat.beq ns.length t.size) then
        let old := openC t (xs[i]?.getD (dflt t)) nid
        match closeC ent t (old.take off ++ ns ++ old.drop (off + ns.length)) with
        | some (y, l) => bif memN l id then none else some ⟨undefV, (id, .row true e t (xs.set i y)) :: frz ent l, [], [decide (i < xs.length)]⟩
        | none => none
      else none
    | _, _ => none
  | _, _ => none

def fieldAddrV (T : TypeId) (x : Operand) (f : Nat) : Option Raw :=
  match evC look A x, fieldOff P T f with
  | some (.ptr id off), some d => some (.ofV (one (.ptr id (off + d))))
  | some (.el id z i off), some d => some (.ofV (one (.el id z i (off + d))))
  | _, _ => none

def fieldV (T : TypeId) (x : Operand) (f : Nat) : Option Raw :=
  match ev1 look A x, P.underlying T with
  | some ⟨true, cs⟩, some (.struct fs) => match fs[f]? with
    | some fd => match loadC P fd.type fd.offset cs with
      | some v => some (.ofV (.one v))
      | none => none
    | none => none
  | _, _ => none

def nilCheckV (x : Operand) : Option Raw :=
  match evC look A x with
  | some (.val _) => none
  | some (.ref _) => none
  | some c => some (.ofV (one c))
  | none => none

def indexAddrV (T : TypeId) (x ix : Operand) : Option Raw :=
  match evC look A x, evI look A ix with
  | some (.ref id), some i => match ent id with
    | some (.row _ _ t xs) => bif elemOk P T t then some ⟨one (.el id t.size i.toNat 0), [], [], [decide (0 ≤ i), decide (i < xs.length)]⟩ else none
    | _ => none
  | some (.ptr id off), some i => match P.underlying T with
    | some (.array n e) => match P.info? e with
      | some inf => some ⟨one (.ptr id (off + i.toNat * inf.size)), [], [], [decide (0 ≤ i), decide (i < n)]⟩
      | none => none
    | _ => none
  | _, _ => none

def indexV (T : TypeId) (x ix : Operand) : Option Raw :=
  match evC look A x, evI look A ix, P.underlying T with
  | some (.val (.string s)), some i, some .string => some ⟨one (.val (.int .u8 (s[i.toNat]?.getD 0).toNat)), [], [], [decide (0 ≤ i), decide (i < s.size)]⟩
  | _, _, _ => none

/-- A bound that is given, or another number. -/
def bnd (x : Option Operand) (d : Int) : Option Int :=
  match x with
  | none => some d
  | some y => evI look A y

/-- fr: a slice of one's own is shared as data. -/
def sliceV (fr : Bool) (T : TypeId) (x : Operand) (lo hi mx : Option Operand) : Option Raw :=
  match mx, evC look A x with
  | none, some (.val (.string s)) => match bnd look A lo 0, bnd look A hi s.size, P.underlying T with
    | some l, some h, some .string => some ⟨one (.val (.string (s.extract l.toNat h.toNat))), [], [], [decide (0 ≤ l), decide (l ≤ h), decide (h ≤ s.size)]⟩
    | _, _, _ => none
  | none, some (.ref id) => match ent id with
    | some (.row own e t xs) => match bnd look A lo 0, bnd look A hi xs.length with
      | some l, some h => bif elemOk P T t then
          match own, lo, fr with
          | true, none, false => some ⟨one (.ref nid), [(nid, .row true e t (xs.take h.toNat)), (id, .gone)], [nid], [decide (0 ≤ h), decide (h ≤ xs.length)]⟩
          | _, _, _ => some ⟨one (.ref nid), (nid, .row false e t ((xs.take h.toNat).drop l.toNat)) :: frz ent [id], [nid], [decide (0 ≤ l), decide (l ≤ h), decide (h ≤ xs.length)]⟩
        else none
      | _, _ => none
    | _ => none
  | _, _ => none

def ptrs : List SV → Option (List Nat)
  | [] => some []
  | .one ⟨false, [.ptr id 0]⟩ :: r => (ptrs r).map (id :: ·)
  | _ :: _ => none

def makeFuncV (fn : Fn) (first captured : Array Operand) : Option Raw :=
  match fn, first.toList, evs look A captured.toList with
  | .func f, [], some vs => match vs with
    | [] => some (.ofV (one (.val (.func (.func f) #[] #[]))))
    | _ => match ptrs vs with
      | some ids => some (.ofV (one (.clo f ids)))
      | none => none
  | _, _, _ => none

def makeSliceV (T : TypeId) (l c : Operand) : Option Raw :=
  match evI look A l, evI look A c, P.underlying T with
  | some n, some m, some (.slice e) => match P.info? e, ctyOf P 12 e with
    | some inf, some t => match inf.zero with
      | some z => match closeC (fun _ => none) t (z.cells.toList.map .val) with
        | some (x0, _) => bif Nat.beq inf.size t.size && Nat.beq z.cells.size t.size then
            some ⟨one (.ref nid), [(nid, .row true e t (List.replicate n.toNat x0))], [nid], [decide (0 ≤ n), decide (n ≤ m), decide ((inf.bytes : Int) * m ≤ 281474976710656), decide (m ≤ 9223372036854775807)]⟩
          else none
        | none => none
      | none => none
    | _, _ => none
  | _, _, _ => none

def closes (t : CTy) : List Cell → Nat → Option (List (E t) × List Nat)
  | [], 0 => some ([], [])
  | _ :: _, 0 => none
  | cs, n + 1 => match closeC ent t (cs.take t.size), closes t (cs.drop t.size) n with
    | some (x, l), some (xs, m) => some (x :: xs, l ++ m)
    | _, _ => none

def buildSliceV (T : TypeId) (len : Nat) (parts : Array (Nat × Operand)) : Option Raw :=
  match P.underlying T, ev1s look A parts.toList with
  | some (.slice e), some vs => match P.info? e, ctyOf P 12 e with
    | some inf, some t => match inf.zero with
      | some z => match fillC (fun i => some (i * t.size, t.size)) (joinL (List.replicate len (z.cells.toList.map .val))) vs with
        | some cs => match closes ent t cs len with
          | some (xs, l) => bif Nat.beq inf.size t.size && Nat.beq z.cells.size t.size && Nat.ble (len * t.size) 16777216 then
              some ⟨one (.ref nid), (nid, .row true e t xs) :: frz ent l, [nid], []⟩
            else none
          | none => none
        | none => none
      | none => none
    | _, _ => none
  | _, _ => none

def buildV (T : TypeId) (parts : Array (Nat × Operand)) : Option Raw :=
  match P.underlying T, P.info? T, ev1s look A parts.toList with
  | some (.struct fs), some inf, some vs => match inf.zero with
    | some z => match fillC (place P fs) (z.cells.toList.map .val) vs with
      | some cs => bif fs.all (fun fd => (P.info? fd.type).isSome) then let f := fixV P T nid ⟨true, cs⟩; some ⟨.one f.v, f.es, keys f.es, []⟩ else none
      | none => none
    | none => none
  | _, _, _ => none

/-- A quotient, a remainder. -/
def divV (op : BinOp) (x y : Operand) : Option Raw :=
  match op, evC look A x, evC look A y with
  | .quo, some (.val (.int k a)), some (.val (.int k' b)) => if k = k' then some ⟨one (.val (.int k (k.wrap (a.tdiv b)))), [], [], [decide (b ≠ 0)]⟩ else none
  | .rem, some (.val (.int k a)), some (.val (.int k' b)) => if k = k' then some ⟨one (.val (.int k (a.tmod b))), [], [], [decide (b ≠ 0)]⟩ else none
  | _, _, _ => none

def isSlice (T : Option TypeId) : Bool :=
  match T with
  | some t => match P.underlying t with
    | some (.slice _) => true
    | _ => false
  | none => false

def lenV (ts : Array TypeId) (x : Operand) : Option Raw :=
  match evC look A x with
  | some (.ref id) => match ent id with
    | some (.row _ _ _ xs) => bif isSlice P ts[0]? then some (.ofV (one (.val (.int .i64 xs.length)))) else none
    | _ => none
  | _ => none

def appendV (ts : Array TypeId) (x y : Operand) : Option Raw :=
  match evC look A x, evC look A y, ts.toList with
  | some (.ref id), some (.ref jd), [t1, t2] => match ent id, ent jd with
    | some (.row true e t xs), some (.row _ _ t' ys) => match P.underlying t1, P.info? e with
      | some (.slice e'), some inf => match inf.zero with
        | some z => if h : t' = t then
            bif Nat.beq t1 t2 && Nat.beq e' e && Nat.beq inf.size t.size && Nat.beq z.cells.size t.size && !Nat.beq id jd then
              some ⟨one (.ref nid), [(nid, .row true e t (xs ++ (h ▸ ys))), (id, .gone)], [nid], [decide (xs.length + ys.length ≤ 9223372036854775807), decide ((xs.length + ys.length) * inf.bytes ≤ 140737488355328)]⟩
            else none
          else none
        | none => none
      | _, _ => none
    | _, _ => none
  | _, _, _ => none

end
end Go.SX

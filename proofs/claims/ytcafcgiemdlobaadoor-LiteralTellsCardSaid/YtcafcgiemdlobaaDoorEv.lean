/- A closed run of a function, by an evaluator with memory of its own: its definitions. -/
import Derived.Calls
import Derived.Orders
import Derived.LoopN
import Derived.KernelRfl
import Derived.Laws.Tables
namespace Go.Ev
noncomputable section

/-! ### Trees of values, by number -/

inductive Tr (α : Type) where
  | e
  | n (l : Tr α) (v : Option α) (r : Tr α)

/-- A choice, by the recursor itself (the kernel reckons it in one step). -/
abbrev pick2 {α : Type} (b : Bool) (x y : α) : α := Bool.rec (motive := fun _ => α) y x b

def Tr.get {α : Type} (t : Tr α) : Nat → Option α :=
  Tr.rec (motive := fun _ => Nat → Option α) (fun _ => none)
    (fun _ v _ gl gr k => pick2 (Nat.beq k 0) v (pick2 (Nat.beq (Nat.mod k 2) 1) (gl (Nat.div k 2)) (gr (Nat.sub (Nat.div k 2) 1)))) t

/-- A tree of one value. -/
def Tr.mk1 {α : Type} (x : α) (d : Nat) : Nat → Tr α :=
  Nat.rec (motive := fun _ => Nat → Tr α) (fun _ => .n .e (some x) .e)
    (fun _ go k => pick2 (Nat.beq k 0) (.n .e (some x) .e) (pick2 (Nat.beq (Nat.mod k 2) 1) (.n (go (Nat.div k 2)) none .e) (.n .e none (go (Nat.sub (Nat.div k 2) 1))))) d

/-- A tree with another value at a number. -/
def Tr.set {α : Type} (t : Tr α) : Nat → α → Option (Tr α) :=
  Tr.rec (motive := fun _ => Nat → α → Option (Tr α)) (fun k x => some (Tr.mk1 x k k))
    (fun l v r gl gr k x => pick2 (Nat.beq k 0) (some (.n l (some x) r))
      (pick2 (Nat.beq (Nat.mod k 2) 1)
        (Option.rec (motive := fun _ => Option (Tr α)) none (fun l' => some (.n l' v r)) (gl (Nat.div k 2) x))
        (Option.rec (motive := fun _ => Option (Tr α)) none (fun r' => some (.n l v r')) (gr (Nat.sub (Nat.div k 2) 1) x)))) t

def Tr.full {α : Type} : Nat → Tr α
  | 0 => .e
  | d + 1 => .n (Tr.full d) none (Tr.full d)

/-- A row of cells that the run has made, or that was given: its cells, its element type, whether it may still be read and written, whether it is known to have no room more. -/
structure Blk where
  cells : List Value
  elem : TypeId
  live : Bool
  fix : Bool

/-- Rows, by number; those below 'lk' are only read. -/
structure Mem where
  size : Nat
  lk : Nat
  t : Tr Blk

def Mem.get (H : Mem) (i : Nat) : Option Blk := pick2 (Nat.ble (Nat.succ i) H.size) (H.t.get i) none

def Mem.push (H : Mem) (b : Blk) : Option Mem :=
  Option.rec (motive := fun _ => Option Mem) none (fun t => some ⟨Nat.add H.size 1, H.lk, t⟩) (H.t.set H.size b)

def Mem.set (H : Mem) (i : Nat) (b : Blk) : Option Mem :=
  pick2 (Nat.ble (Nat.succ i) H.size) (pick2 (Nat.ble H.lk i) (Option.rec (motive := fun _ => Option Mem) none (fun t => some ⟨H.size, H.lk, t⟩) (H.t.set i b)) none) none

def Mem.empty : Mem := ⟨0, 0, .e⟩

/-- The slots of a function. -/
structure Fr where
  n : Nat
  t : Tr Value

def Fr.get (f : Fr) (i : Nat) : Value := pick2 (Nat.ble (Nat.succ i) f.n) (Option.rec (motive := fun _ => Value) undef (fun v => v) (f.t.get i)) undef

def Fr.put (f : Fr) (dst : Option Tmp) (v : Value) : Option Fr :=
  Option.rec (motive := fun _ => Option Fr) (some f)
    (fun d => pick2 (Nat.ble (Nat.succ d) f.n) (Option.rec (motive := fun _ => Option Fr) none (fun t => some ⟨f.n, t⟩) (f.t.set d v)) (some f)) dst

def Fr.eval (f : Fr) : Operand → Value
  | .tmp t => f.get t
  | .const v => v
  | .global g => .pointer (some ⟨g, 0, none⟩)
  | .func f => .func (.func f) #[] #[]

def depthOf (n : Nat) : Nat := cond (Nat.blt n 31) 5 (cond (Nat.blt n 127) 7 (cond (Nat.blt n 511) 9 12))

def Fr.fill (f : Fr) : Nat → List Value → Option Fr
  | _, [] => some f
  | i, v :: l => match f.put (some i) v with
    | some f' => f'.fill (i + 1) l
    | none => none

mutual
def addrFree : Value → Bool
  | .bool _ => true
  | .int _ _ => true
  | .float _ _ => true
  | .complex _ _ _ => true
  | .string _ => true
  | .pointer none => true
  | .pointer (some _) => false
  | .slice none _ _ => true
  | .slice (some _) _ _ => false
  | .map none => true
  | .map (some _) => false
  | .chan _ => false
  | .func _ a b => addrFreeA a && addrFreeA b
  | .nilFunc => true
  | .iface _ v => addrFree v
  | .nilIface => true
  | .agg cs => addrFreeA cs
  | .tuple cs => addrFreeA cs
def addrFreeA : Array Value → Bool
  | ⟨l⟩ => addrFreeL l
def addrFreeL : List Value → Bool
  | [] => true
  | v :: l => addrFree v && addrFreeL l
end

def semPure (P : Program) {α : Type} : Sem α → Option α
  | .pure a => some a
  | .program k => semPure P (k P)
  | .mark _ k => semPure P k
  | _ => none

def sizeA (P : Program) (t : TypeId) : Option Nat := (P.info? t).map (·.size)

def isAggA (P : Program) (t : TypeId) : Option Bool :=
  match P.underlying t with
  | some (.struct _) => some true
  | some (.array _ _) => some true
  | some _ => some false
  | none => none

def alive (H : Mem) (i : Nat) : Option Blk :=
  match H.get i with
  | some b => cond b.live (some b) none
  | none => none

/-- What stands in a given row where nothing is known. -/
def isJunk : Value → Bool
  | .chan _ => true
  | _ => false

/-- n cells from 'off' on. -/
def readCells (H : Mem) (i off n : Nat) : Option (List Value) :=
  match alive H i with
  | some b => if off + n ≤ b.cells.length then pick2 (((b.cells.drop off).take n).any isJunk) none (some ((b.cells.drop off).take n)) else none
  | none => none

def known1 : Option Value → Option Value
  | some v => pick2 (isJunk v) none (some v)
  | none => none

def loadA (P : Program) (H : Mem) (t : TypeId) (v : Value) : Option Value :=
  match v with
  | .pointer (some ⟨i, off, none⟩) =>
    match isAggA P t, sizeA P t with
    | some true, some n => (readCells H i off n).map fun l => .agg l.toArray
    | some false, _ => match alive H i with
      | some b => known1 b.cells[off]?
      | none => none
    | _, _ => none
  | _ => none

def plainCell : Value → Bool
  | .agg _ => false
  | .tuple _ => false
  | _ => true

def putCells (l : List Value) (off : Nat) : List Value → List Value
  | [] => l
  | v :: vs => putCells (l.set off v) (off + 1) vs

def writeCells (H : Mem) (i off : Nat) (vs : List Value) : Option Mem :=
  if vs.isEmpty then some H else
  match alive H i with
  | some b => if off + vs.length ≤ b.cells.length && vs.all plainCell then H.set i { b with cells := putCells b.cells off vs } else none
  | none => none

def storeA (P : Program) (H : Mem) (t : TypeId) (v x : Value) : Option Mem :=
  match v, sizeA P t with
  | .pointer (some ⟨i, off, none⟩), some n => if x.cells.size = n then writeCells H i off x.cells.toList else none
  | _, _ => none

/-- A pointer to a new row. -/
def newPtr (H : Mem) (t : TypeId) (cs : List Value) : Option (Value × Mem) :=
  match H.push ⟨cs, t, true, true⟩ with
  | some H' => some (.pointer (some ⟨H.size, 0, none⟩), H')
  | none => none

def newSlice (H : Mem) (t : TypeId) (cs : List Value) (len cap : Nat) : Option (Value × Mem) :=
  match H.push ⟨cs, t, true, false⟩ with
  | some H' => some (.slice (some ⟨H.size, 0, none⟩) len cap, H')
  | none => none

/-- A slice of a new row whose room is known. -/
def newRoom (H : Mem) (t : TypeId) (cs : List Value) (len cap : Nat) : Option (Value × Mem) :=
  match H.push ⟨cs, t, true, true⟩ with
  | some H' => some (.slice (some ⟨H.size, 0, none⟩) len cap, H')
  | none => none

def zeroA (P : Program) (t : TypeId) : Option Value :=
  match P.info? t with
  | some i => match i.zero with
    | some z => if addrFree z then some z else none
    | none => none
  | none => none

/-- An index below a length. -/
def idxN (i : Int) (len : Nat) : Option Nat :=
  match i with
  | .ofNat m => pick2 (Nat.ble (Nat.succ m) len) (some m) none
  | .negSucc _ => none

def idxA (P : Program) (t : TypeId) (x ix : Value) : Option Value :=
  match P.underlying t, x, ix with
  | some (.slice e), .slice (some ⟨b, off, none⟩) len _, .int _ i =>
    match sizeA P e, idxN i len with
    | some s, some m => some (.pointer (some ⟨b, Nat.add off (Nat.mul m s), none⟩))
    | _, _ => none
  | some (.array len e), .pointer (some ⟨b, off, none⟩), .int _ i =>
    match sizeA P e, idxN i len with
    | some s, some m => some (.pointer (some ⟨b, Nat.add off (Nat.mul m s), none⟩))
    | _, _ => none
  | _, _, _ => none

def fieldA (P : Program) (s : TypeId) (x : Value) (f : Nat) : Option Value :=
  match P.underlying s, x with
  | some (.struct fs), .pointer (some ⟨b, off, none⟩) =>
    match fs[f]? with
    | some fd => match sizeA P fd.type with
      | some n => if n = 0 then none else some (.pointer (some ⟨b, off + fd.offset, none⟩))
      | none => none
    | none => none
  | _, _ => none

def boundA : Value → Nat → Option Nat
  | .int _ i, y => if 0 ≤ i ∧ i ≤ y then some i.toNat else none
  | _, _ => none

/-- s[lo:hi] of a slice. -/
def sliceA (P : Program) (t : TypeId) (x : Value) (lo hi : Option Value) : Option Value :=
  match P.underlying t, x with
  | some (.slice e), .slice a len cap =>
    match (match hi with | some v => boundA v cap | none => some len) with
    | some h => match (match lo with | some v => boundA v h | none => some 0) with
      | some l => match a, sizeA P e with
        | some ⟨b, off, none⟩, some s => if (l = cap ∧ l ≠ 0) ∨ cap < l then none else some (.slice (some ⟨b, off + l * s, none⟩) (h - l) (cap - l))
        | none, some _ => some (.slice none (h - l) (cap - l))
        | _, _ => none
      | none => none
    | none => none
  | _, _ => none

def partA (P : Program) (t : TypeId) (cs : Array Value) (off : Nat) : Option Value :=
  match isAggA P t, sizeA P t with
  | some true, some n => some (.agg (cs.extract off (off + n)))
  | some false, _ => cs[off]?
  | _, _ => none

def fieldVA (P : Program) (t : TypeId) (x : Value) (f : Nat) : Option Value :=
  match P.underlying t, x with
  | some (.struct fs), .agg cs => match fs[f]? with
    | some fd => partA P fd.type cs fd.offset
    | none => none
  | _, _ => none

def indexVA (P : Program) (t : TypeId) (x ix : Value) : Option Value :=
  match P.underlying t, x, ix with
  | some (.array len e), .agg cs, .int _ i => match sizeA P e, idxN i len with
    | some s, some m => partA P e cs (Nat.mul m s)
    | _, _ => none
  | _, _, _ => none

def buildA (P : Program) (t : TypeId) (parts : List (Nat × Value)) : Option Value :=
  if (zeroA P t).isSome then (P.built t parts).map .agg else none

/-- The cells of n elements that are zero. -/
def zerosA (P : Program) (e : TypeId) (n : Nat) : Option (Array Value) :=
  match sizeA P e, zeroA P e with
  | some s, some z => if n * s = 0 then some #[] else some ((Array.range (n * s)).map (z.cells[· % z.cells.size]!))
  | _, _ => none

def buildSliceA (P : Program) (H : Mem) (t : TypeId) (len : Nat) (parts : List (Nat × Value)) : Option (Value × Mem) :=
  match P.underlying t with
  | some (.slice e) => match sizeA P e, zerosA P e len with
    | some s, some z => if len * s > 2 ^ 24 then none else
      match Instr.fill (fun i => some (i * s, s)) z parts with
      | some cs => newSlice H e cs.toList len len
      | none => none
    | _, _ => none
  | _ => none

def makeSliceA (P : Program) (H : Mem) (t : TypeId) (len cap : Value) : Option (Value × Mem) :=
  match P.underlying t, len, cap with
  | some (.slice e), .int _ l, .int _ c => match P.info? e, zerosA P e c.toNat with
    | some inf, some z => if 0 ≤ l ∧ l ≤ c ∧ c ≤ 1000000 ∧ inf.bytes ≤ 1000000 then newRoom H e z.toList l.toNat c.toNat else none
    | _, _ => none
  | _, _, _ => none

/-- The cells of the first n elements of a slice, or the bytes of a string. -/
def firstA (H : Mem) (s n : Nat) : Value → Option (List Value)
  | .slice (some ⟨b, off, none⟩) _ _ => readCells H b off (n * s)
  | .slice none _ _ => if n = 0 then some [] else none
  | .string x => if s = 1 ∧ n ≤ x.size then some ((x.extract 0 n).data.toList.map fun b => .int .u8 b.toNat) else none
  | _ => none

def lenA : Value → Option Nat
  | .slice _ n _ => some n
  | .string s => some s.size
  | _ => none

def isSliceType (P : Program) (t : TypeId) : Bool :=
  match P.underlying t with
  | some (.slice _) => true
  | some .string => true
  | _ => false

/-- A row that may be read and written no more. -/
def kill (H : Mem) (i : Nat) : Option Mem :=
  match H.get i with
  | some b => H.set i { b with live := false }
  | none => none

def appendA (P : Program) (H : Mem) (st xt : TypeId) (s x : Value) : Option (Value × Mem) :=
  match P.underlying st, s, isSliceType P xt with
  | some (.slice e), .slice base sLen sCap, true =>
    match P.info? e, zeroA P e, lenA x with
    | some inf, some z, some n =>
      match firstA H inf.size n x, firstA H inf.size sLen s with
      | some new, some old =>
        if inf.size = 0 ∨ inf.bytes = 0 ∨ inf.bytes > 100000 ∨ sLen + n > 1000000 ∨ sCap > 1000000 ∨ z.cells.size ≠ inf.size ∨ !new.all plainCell then none else
        if sLen + n ≤ sCap then
          match base with
          | some ⟨b, off, none⟩ => (writeCells H b (off + sLen * inf.size) new).map fun H' => (.slice base (sLen + n) sCap, H')
          | _ => if n = 0 then some (s, H) else none
        else
          match base with
          | some ⟨b, off, none⟩ =>
            if off = 0 ∧ old.length = sLen * inf.size ∧ (alive H b).any (fun k => decide (k.cells.length = sCap * inf.size) && (k.elem == e)) then
              match kill H b with
              | some H1 => newSlice H1 e (old ++ new) (sLen + n) (sLen + n)
              | none => none
            else none
          | none => newSlice H e (old ++ new) (sLen + n) (sLen + n)
          | _ => none
      | _, _ => none
    | _, _, _ => none
  | _, _, _ => none

def copyA (P : Program) (H : Mem) (dt : TypeId) (d x : Value) : Option (Value × Mem) :=
  match P.underlying dt, d, lenA x with
  | some (.slice e), .slice base dLen _, some n =>
    match sizeA P e with
    | some s => match firstA H s (Nat.min n dLen) x with
      | some cs => match base with
        | some ⟨b, off, none⟩ => (writeCells H b off cs).map fun H' => (goInt (Nat.min n dLen), H')
        | none => some (goInt (Nat.min n dLen), H)
        | _ => none
      | none => none
    | none => none
  | _, _, _ => none

def byteOfV : Value → Option UInt8
  | .int .u8 n => some (UInt8.ofNat n.toNat)
  | _ => none

def bytesA : List Value → ByteArray → Option ByteArray
  | [], acc => some acc
  | v :: vs, acc => match byteOfV v with
    | some b => bytesA vs (acc.push b)
    | none => none

def convertA (P : Program) (H : Mem) (src dst : TypeId) (x : Value) : Option (Value × Mem) :=
  match P.underlying src, P.underlying dst, x with
  | some (.slice e), some .string, .slice a len _ =>
    match P.underlying e, a with
    | some (.int .u8), some ⟨b, off, none⟩ => match readCells H b off len with
      | some cs => (bytesA cs .empty).map fun s => (.string s, H)
      | none => none
    | some (.int .u8), none => some (.string .empty, H)
    | _, _ => none
  | some .string, some (.slice e), .string s =>
    match P.underlying e, sizeA P e with
    | some (.int .u8), some 1 => newSlice H e (s.data.toList.map fun b => .int .u8 b.toNat) s.size s.size
    | _, _ => none
  | some (.slice _), some (.slice e), .slice (some ⟨i, off, none⟩) l c =>
    match alive H i, P.underlying e with
    | some _, some (.int .u8) => pick2 (Nat.ble H.lk i && Nat.beq src dst) (some (.slice (some ⟨i, off, none⟩) l c, H)) none
    | _, _ => none
  | some (.pointer t), some .unsafePointer, .pointer (some ⟨i, 0, none⟩) =>
    match alive H i, sizeA P t with
    | some b, some n => pick2 (Nat.ble 1 n && Nat.ble 1 b.cells.length) (some (.pointer (some ⟨i, 0, none⟩), H)) none
    | _, _ => none
  | some .unsafePointer, some (.pointer u), .pointer (some ⟨i, 0, none⟩) =>
    match alive H i, sizeA P u with
    | some b, some _ => pick2 (b.fix && liesAt P P.depth b.elem (b.cells.length / P.cellsOf b.elem) 0 u 1) (some (.pointer (some ⟨i, 0, none⟩), H)) none
    | _, _ => none
  | _, _, _ => none

def operandsFree (ev : Operand → Value) (o : Op) : Bool := o.operands.toList.all fun x => addrFree (ev x)

def pureA (P : Program) (ev : Operand → Value) (o : Oper) : Option Value :=
  match o.op with
  | .select _ _ => none
  | _ => if operandsFree ev o.op then
      match semPure P (execOp ev o) with
      | some (.value v) => if addrFree v then some v else none
      | _ => none
    else none

/-- An integer, reckoned out. -/
def forced (n : Int) : Int :=
  match n with
  | .ofNat 0 => 0
  | .ofNat (m + 1) => .ofNat (m + 1)
  | .negSucc 0 => -1
  | .negSucc (m + 1) => .negSucc (m + 1)

def inI64 (n : Int) : Bool :=
  match n with
  | .ofNat m => Nat.blt m 9223372036854775808
  | .negSucc m => Nat.blt m 9223372036854775808

def ltI (a b : Int) : Bool :=
  match a, b with
  | .ofNat m, .ofNat n => Nat.ble (Nat.succ m) n
  | .ofNat _, .negSucc _ => false
  | .negSucc _, .ofNat _ => true
  | .negSucc m, .negSucc n => Nat.ble (Nat.succ n) m

def eqI (a b : Int) : Bool :=
  match a, b with
  | .ofNat m, .ofNat n => Nat.beq m n
  | .negSucc m, .negSucc n => Nat.beq m n
  | _, _ => false

def eqKind : IntKind → IntKind → Bool
  | .i64, .i64 => true
  | .u8, .u8 => true
  | .i32, .i32 => true
  | .u64, .u64 => true
  | _, _ => false

def fastInt (op : BinOp) (a b : Int) : Option Bool :=
  match op with
  | .eql => some (eqI a b)
  | .neq => some (!eqI a b)
  | .lss => some (ltI a b)
  | .leq => some (!ltI b a)
  | .gtr => some (ltI b a)
  | .geq => some (!ltI a b)
  | _ => none

def fastSum (op : BinOp) (k : IntKind) (a b : Int) : Option Int :=
  match k, op with
  | .i64, .add => pick2 (inI64 (Int.add a b)) (some (forced (Int.add a b))) none
  | .i64, .sub => pick2 (inI64 (Int.sub a b)) (some (forced (Int.sub a b))) none
  | _, _ => none

/-- The everyday operations on integers and bools, by a short road. -/
def fastA (op : BinOp) (x y : Value) : Option Value :=
  match x, y with
  | .int k a, .int k' b => pick2 (eqKind k k')
      (match fastInt op a b with
        | some t => some (.bool t)
        | none => match fastSum op k a b with
          | some n => some (.int k n)
          | none => none)
      none
  | _, _ => none

/-- A slice, a pointer against nil. -/
def nilA (P : Program) (op : BinOp) (t : TypeId) (x y : Value) : Option Value :=
  match P.underlying t, x, y with
  | some .bool, .bool a, .bool b => match op with
    | .eql => some (.bool (pick2 a b (!b)))
    | .neq => some (.bool (pick2 a (!b) b))
    | _ => none
  | some (.slice _), .slice (some _) _ _, .slice none _ _ => match op with
    | .eql => some (.bool false)
    | .neq => some (.bool true)
    | _ => none
  | some (.pointer _), .pointer (some _), .pointer none => match op with
    | .eql => some (.bool false)
    | .neq => some (.bool true)
    | _ => none
  | some (.pointer e), .pointer (some ⟨i, a, none⟩), .pointer (some ⟨j, b, none⟩) => pick2 (Nat.beq i j && Nat.beq a b && (sizeA P e).isSome) (match op with
    | .eql => some (.bool true)
    | .neq => some (.bool false)
    | _ => none) none
  | _, _, _ => none

def partsA (ev : Operand → Value) (ps : Array (Nat × Operand)) : List (Nat × Value) := ps.toList.map fun q => (q.1, ev q.2)

def withMem (H : Mem) (v : Option Value) : Option (Value × Mem) := Option.rec (motive := fun _ => Option (Value × Mem)) none (fun v => some (v, H)) v
def orElse (x y : Option Value) : Option Value := Option.rec (motive := fun _ => Option Value) y (fun v => some v) x

def opPick (c a b : Value) (H : Mem) : Option (Value × Mem) :=
  match c with
  | .bool t => some (pick2 t a b, H)
  | _ => none

def opBin (P : Program) (ev : Operand → Value) (o : Oper) (op : BinOp) (t : TypeId) (x y : Value) (H : Mem) : Option (Value × Mem) :=
  withMem H (orElse (fastA op x y) (orElse (nilA P op t x y) (pureA P ev o)))

def opAlloc (P : Program) (t : TypeId) (H : Mem) : Option (Value × Mem) :=
  match zeroA P t with
  | some z => newPtr H t z.cells.toList
  | none => none

def opBox (P : Program) (t : TypeId) (x : Value) (H : Mem) : Option (Value × Mem) :=
  match sizeA P t with
  | some _ => newPtr H t x.cells.toList
  | none => none

def opStore (P : Program) (t : TypeId) (a x : Value) (H : Mem) : Option (Value × Mem) :=
  match storeA P H t a x with
  | some H' => some (undef, H')
  | none => none

def opNilCheck (x : Value) (H : Mem) : Option (Value × Mem) :=
  match x with
  | .pointer (some a) => some (.pointer (some a), H)
  | .func (.func f) a b => some (.func (.func f) a b, H)
  | _ => none

def opExtract (x : Value) (k : Nat) (H : Mem) : Option (Value × Mem) :=
  match x with
  | .tuple vs => withMem H (vs.toList[k]?)
  | _ => none

def indexStr (P : Program) (t : TypeId) (x ix : Value) : Option Value :=
  match P.underlying t, x, ix with
  | some .string, .string s, .int _ (.ofNat i) => match s.data.toList[i]? with
    | some b => some (.int .u8 (.ofNat b.toNat))
    | none => none
  | _, _, _ => none

def isArrT (P : Program) (t : TypeId) : Bool :=
  match P.underlying t with
  | some (.array _ _) => true
  | _ => false

/-- a[lo:hi] of an array that a pointer leads to. -/
def arrSlice (P : Program) (H : Mem) (t : TypeId) (x : Value) (lo hi : Option Value) : Option Value :=
  match P.underlying t, x with
  | some (.array n e), .pointer (some ⟨b, off, none⟩) =>
    match (match hi with | some v => boundA v n | none => some n) with
    | some h => match (match lo with | some v => boundA v h | none => some 0) with
      | some l => match alive H b, sizeA P e with
        | some k, some s => pick2 k.fix (some (.slice (some ⟨b, pick2 (Nat.beq n l) off (Nat.add off (Nat.mul l s)), none⟩) (h - l) (n - l))) none
        | _, _ => none
      | none => none
    | none => none
  | _, _ => none

def opSlice (P : Program) (ev : Operand → Value) (o : Oper) (t : TypeId) (x : Value) (lo hi : Option Value) (H : Mem) : Option (Value × Mem) :=
  pick2 (isArrT P t) (withMem H (arrSlice P H t x lo hi)) (withMem H (orElse (sliceA P t x lo hi) (pureA P ev o)))

def opIndex (P : Program) (ev : Operand → Value) (o : Oper) (t : TypeId) (x ix : Value) (H : Mem) : Option (Value × Mem) :=
  withMem H (orElse (indexStr P t x ix) (orElse (indexVA P t x ix) (pureA P ev o)))

/-- int(x) of a byte. -/
def widenA (P : Program) (d : TypeId) (x : Value) : Option Value :=
  match P.underlying d, x with
  | some (.int .i64), .int .u8 (.ofNat n) => pick2 (Nat.ble n 255) (some (.int .i64 (.ofNat n))) none
  | some (.int .i64), .int .i64 n => pick2 (inI64 n) (some (.int .i64 n)) none
  | _, _ => none

def opConvert (P : Program) (ev : Operand → Value) (o : Oper) (s d : TypeId) (x : Value) (H : Mem) : Option (Value × Mem) :=
  match orElse (match P.underlying s with | some _ => widenA P d x | none => none) (pureA P ev o) with
  | some v => some (v, H)
  | none => convertA P H s d x

def lenOfA (P : Program) (t : TypeId) (x : Value) : Option Value :=
  match P.underlying t, x with
  | some (.slice _), .slice _ n _ => some (goInt n)
  | some .string, .string s => some (goInt s.size)
  | _, _ => none

def opLen (P : Program) (ev : Operand → Value) (o : Oper) (args : Array Operand) (ats : Array TypeId) (H : Mem) : Option (Value × Mem) :=
  match args[0]?, ats[0]? with
  | some x, some t => withMem H (orElse (lenOfA P t (ev x)) (pureA P ev o))
  | _, _ => none

def opAppend (P : Program) (ev : Operand → Value) (args : Array Operand) (ats : Array TypeId) (H : Mem) : Option (Value × Mem) :=
  match args[0]?, args[1]?, ats[0]?, ats[1]? with
  | some s, some x, some st, some xt => appendA P H st xt (ev s) (ev x)
  | _, _, _, _ => none

def opCopy (P : Program) (ev : Operand → Value) (args : Array Operand) (ats : Array TypeId) (H : Mem) : Option (Value × Mem) :=
  match args[0]?, args[1]?, ats[0]? with
  | some d, some x, some dt => copyA P H dt (ev d) (ev x)
  | _, _, _ => none

abbrev CallF := FuncId → List Value → Mem → Option (Value × Mem)

/-- A call of a Go function. -/
def opCall (P : Program) (call : CallF) (fv : Value) (args : List Value) (H : Mem) : Option (Value × Mem) :=
  match fv with
  | .func (.func id) first captured => match P.funcs[id]? with
    | some fn => pick2 fn.body.isSome (call id (first.toList ++ (args ++ captured.toList)) H) none
    | none => none
  | _ => none

/-- A function without a body that hands back its one argument. -/
def isSame (P : Program) (fv : Value) : Bool :=
  match fv with
  | .func (.func id) ⟨[]⟩ ⟨[]⟩ => match P.funcs[id]? with
    | some fn => pick2 fn.body.isSome false (fn.name == "internal/abi.NoEscape" && fn.origin == "")
    | none => false
  | _ => false

/-- A call of a function without a body. -/
def opExt (P : Program) (ev : Operand → Value) (o : Oper) (fv : Value) (args : List Value) (H : Mem) : Option (Value × Mem) :=
  match args with
  | [x] => pick2 (isSame P fv) (some (x, H)) (withMem H (pureA P ev o))
  | _ => withMem H (pureA P ev o)

/-- How much room a slice has, where that is known. -/
def capA (P : Program) (H : Mem) (t : TypeId) (x : Value) : Option Value :=
  match P.underlying t, x with
  | some (.slice _), .slice (some ⟨i, _, none⟩) _ c => match alive H i with
    | some b => pick2 b.fix (some (goInt c)) none
    | none => none
  | some (.slice _), .slice none _ c => some (goInt c)
  | _, _ => none

def opCap (P : Program) (ev : Operand → Value) (args : Array Operand) (ats : Array TypeId) (H : Mem) : Option (Value × Mem) :=
  match args[0]?, ats[0]? with
  | some x, some t => withMem H (capA P H t (ev x))
  | _, _ => none

/-- Where a slice's elements begin. -/
def sliceDataA : Value → Option Value
  | .slice (some a) _ c => pick2 (Nat.beq c 0) none (some (.pointer (some a)))
  | .slice none _ _ => some (.pointer none)
  | _ => none

def opSliceData (ev : Operand → Value) (args : Array Operand) (H : Mem) : Option (Value × Mem) :=
  match args.toList with
  | [x] => withMem H (sliceDataA (ev x))
  | _ => none

def isByteV : Value → Bool
  | .int .u8 (.ofNat n) => Nat.ble n 255
  | _ => false

/-- The bytes at the head of a row as a text; the row goes. -/
def ustrA (P : Program) (H : Mem) (pt : TypeId) (p n : Value) : Option (Value × Mem) :=
  match p, n, P.underlying pt with
  | .pointer _, .int .i64 (.ofNat 0), _ => some (.string .empty, H)
  | .pointer (some ⟨i, 0, none⟩), .int .i64 (.ofNat (m + 1)), some (.pointer e) =>
    match alive H i, readCells H i 0 (m + 1) with
    | some b, some cs => pick2 ((b.elem == e) && Nat.beq (P.cellsOf e) 1 && Nat.ble (m + 1) 1000000 && cs.all isByteV)
        (match bytesA cs .empty, kill H i with
          | some s, some H' => some (.string s, H')
          | _, _ => none) none
    | _, _ => none
  | _, _, _ => none

def opUStr (P : Program) (ev : Operand → Value) (args : Array Operand) (ats : Array TypeId) (H : Mem) : Option (Value × Mem) :=
  match args.toList, ats.toList with
  | [p, n], [pt, _] => ustrA P H pt (ev p) (ev n)
  | _, _ => none

def opBuiltin (P : Program) (ev : Operand → Value) (o : Oper) (b : Builtin) (args : Array Operand) (ats : Array TypeId) (H : Mem) : Option (Value × Mem) :=
  match b with
  | .len => opLen P ev o args ats H
  | .append => opAppend P ev args ats H
  | .copy => opCopy P ev args ats H
  | .cap => opCap P ev args ats H
  | .unsafeSliceData => opSliceData ev args H
  | .unsafeString => opUStr P ev args ats H
  | _ => withMem H (pureA P ev o)

def opCalls (P : Program) (call : CallF) (ev : Operand → Value) (o : Oper) (c : Call) (H : Mem) : Option (Value × Mem) :=
  match c.callee with
  | .value f => match opCall P call (ev f) (c.args.toList.map ev) H with
    | some r => some r
    | none => opExt P ev o (ev f) (c.args.toList.map ev) H
  | .builtin b => opBuiltin P ev o b c.args c.argTypes H
  | .invoke _ _ => none

/-- What an operation does: the value in its slot, the memory behind it. -/
def opA (P : Program) (call : CallF) (ev : Operand → Value) (o : Oper) (H : Mem) : Option (Value × Mem) :=
  match o.op with
  | .move x => some (ev x, H)
  | .assign x => some (ev x, H)
  | .pick c a b => opPick (ev c) (ev a) (ev b) H
  | .binOp op t x y _ => opBin P ev o op t (ev x) (ev y) H
  | .alloc t => opAlloc P t H
  | .box t x => opBox P t (ev x) H
  | .build t ps => withMem H (buildA P t (partsA ev ps))
  | .buildSlice t len ps => buildSliceA P H t len (partsA ev ps)
  | .load t a => withMem H (loadA P H t (ev a))
  | .store t a x => opStore P t (ev a) (ev x) H
  | .nilCheck x => opNilCheck (ev x) H
  | .fieldAddr s x f => withMem H (fieldA P s (ev x) f)
  | .indexAddr t x ix => withMem H (idxA P t (ev x) (ev ix))
  | .extract x k => opExtract (ev x) k H
  | .makeSlice t l c => makeSliceA P H t (ev l) (ev c)
  | .makeFunc fn first captured => some (.func fn (first.map ev) (captured.map ev), H)
  | .slice t x lo hi none => opSlice P ev o t (ev x) (lo.map ev) (hi.map ev) H
  | .field t x f => withMem H (fieldVA P t (ev x) f)
  | .index t x ix => opIndex P ev o t (ev x) (ev ix) H
  | .convert s d x => opConvert P ev o s d (ev x) H
  | .call c => opCalls P call ev o c H
  | _ => withMem H (pureA P ev o)

def operandOk (G : Nat) : Operand → Bool
  | .global g => Nat.blt g G
  | .const v => addrFree v
  | _ => true

def isSliceT (P : Program) (t : TypeId) : Bool :=
  match P.underlying t with
  | some (.slice _) => true
  | _ => false

def isPtrT (P : Program) (t : TypeId) : Bool :=
  match P.underlying t with
  | some (.pointer _) => true
  | some .unsafePointer => true
  | _ => false

/-- Does the operation leave memory alone? (one that does may be taken before others.) -/
def quiet (P : Program) : Op → Bool
  | .alloc _ => false
  | .box _ _ => false
  | .buildSlice _ _ _ => false
  | .store _ _ _ => false
  | .makeSlice _ _ _ => false
  | .convert s d _ => !isSliceT P s && !isSliceT P d && !isPtrT P s
  | .slice t _ _ _ _ => !isArrT P t
  | .call { callee := .builtin .len, .. } => true
  | .call { callee := .builtin .cap, .. } => true
  | .call { callee := .builtin .min, .. } => true
  | .call { callee := .builtin .max, .. } => true
  | .call _ => false
  | _ => true

inductive Leave where
  | normal
  | exit (id : Nat)
  | ret
  | goto (l : Nat)

/-- What the operation of this number has yielded. -/
def yieldedA (ops : List Oper) (f : Fr) (j : Nat) : Option Bool :=
  match ops[j]? with
  | some o => match o.dst with
    | some d => match f.get d with
      | .bool b => some b
      | _ => none
    | none => none
  | none => none

def wantedA (o : Oper) (ops : List Oper) (f : Fr) : Bool :=
  match o.guard with
  | none => true
  | some (j, want) => match yieldedA ops f j with
    | some b => pick2 b want (!want)
    | none => false

def putA (f : Fr) (dst : Option Tmp) (r : Option (Value × Mem)) : Option (Fr × Mem) :=
  match r with
  | some (v, H) => match f.put dst v with
    | some f' => some (f', H)
    | none => none
  | none => none

def stepA (P : Program) (call : CallF) (ops : List Oper) (o : Oper) (f : Fr) (H : Mem) : Option (Fr × Mem) :=
  pick2 (wantedA o ops f) (putA f o.dst (opA P call f.eval o H)) (putA f o.dst (some (undef, H)))

def opsA (P : Program) (call : CallF) (ops : List Oper) (l : List Oper) : Fr → Mem → Option (Fr × Mem) :=
  List.rec (motive := fun _ => Fr → Mem → Option (Fr × Mem)) (fun f H => some (f, H))
    (fun o _ go f H => Option.rec (motive := fun _ => Option (Fr × Mem)) none (fun r => go r.1 r.2) (stepA P call ops o f H)) l

/-- All operands may be evaluated: no package-level variable from number G on, no constant with memory. -/
def okOps (G : Nat) (ops : List Oper) : Bool := ops.all fun o => o.op.operands.toList.all (operandOk G)

/-! ### Regions whose order is drawn: a plan, made once a region -/

def bit (m i : Nat) : Bool := Nat.beq (Nat.land (Nat.shiftRight m i) 1) 1
def addBit (m i : Nat) : Nat := Nat.lor m (Nat.shiftLeft 1 i)

def isLoad : Op → Bool
  | .load _ _ => true
  | .call { callee := .builtin .cap, .. } => true
  | _ => false

/-- An operation, its number, those that it waits for, those that come ahead of it, the slots that it looks at, whether it is quiet, whether it loads. -/
structure PO where
  o : Oper
  i : Nat
  pre : Nat
  anc : Nat
  looks : Nat
  q : Bool
  ld : Bool

def preMask (o : Oper) : Nat := o.after.toList.foldr (fun e m => pick2 (Region.binds .any e) (addBit m e.on) m) 0

def looksMask (ops : Array Oper) (o : Oper) : Nat := (o.looksAt ops).foldr (fun d m => addBit m d) 0

/-- All that come ahead of one that waits for 'pre', out of those of the earlier ones (the last first). -/
def ancMask (pre : Nat) : List PO → Nat
  | [] => pre
  | p :: l => pick2 (bit pre p.i) (Nat.lor p.anc (ancMask pre l)) (ancMask pre l)

/-- The region's operations, the last first. -/
def posRev (P : Program) (ops : Array Oper) : List Oper → Nat → List PO → List PO
  | [], _, acc => acc
  | o :: l, i, acc => posRev P ops l (i + 1) (⟨o, i, preMask o, ancMask (preMask o) acc, looksMask ops o, quiet P o.op, isLoad o.op⟩ :: acc)

def readyM (L : Nat) (p : PO) : Bool := pick2 (bit L p.i) false (Nat.beq (Nat.land p.pre L) p.pre)

def apartM (x y : PO) : Bool :=
  match x.o.dst, y.o.dst with
  | some d, some e => !bit y.looks d && !Nat.beq d e && !bit x.looks e
  | some d, none => !bit y.looks d
  | none, some e => !bit x.looks e
  | none, none => true

def freeM (pos : List PO) (L : Nat) (p : PO) : Bool := pos.all fun r => Nat.beq r.i p.i || bit L r.i || bit r.pre p.i || apartM p r

/-- All loads that are listed come ahead of p. -/
def loadsM (pos : List PO) (L : Nat) (p : PO) : Bool := pos.all fun r => !r.ld || !bit L r.i || bit p.anc r.i

/-- The order in which the evaluator takes a region's operations; of each whether it may write no row that is there. -/
def planM (pos : List PO) : Nat → Nat → Option (List (Oper × Bool))
  | 0, L => match pos.find? (readyM L) with
    | none => some []
    | some _ => none
  | n + 1, L => match pos.find? fun p => p.q && readyM L p with
    | some p => pick2 (freeM pos L p)
        (match planM pos n (addBit L p.i) with
          | some l => some ((p.o, false) :: l)
          | none => none)
        none
    | none => match pos.filter (readyM L) with
      | [] => some []
      | [p] => match planM pos n (addBit L p.i) with
        | some l => some ((p.o, !loadsM pos L p) :: l)
        | none => none
      | _ => none

def noSelectA (ops : List Oper) : Bool := ops.all fun o => match o.op with | .select _ _ => false | _ => true

def planOf (P : Program) (ops : Array Oper) : Option (List (Oper × Bool)) := pick2 (noSelectA ops.toList) (planM (posRev P ops ops.toList 0 []).reverse ops.toList.length 0) none

def plan (P : Program) (ops : Array Oper) : Option (List (Oper × Bool)) := planOf P ops

/-- A step; under 'lk' it may write no row that is there already. -/
def stepL (P : Program) (call : CallF) (ops : List Oper) (lk : Bool) (o : Oper) (f : Fr) (H : Mem) : Option (Fr × Mem) :=
  pick2 lk
    (match stepA P call ops o f { H with lk := H.size } with
      | some (f', H') => some (f', { H' with lk := H.lk })
      | none => none)
    (stepA P call ops o f H)

def drawA (P : Program) (call : CallF) (ops : List Oper) (l : List (Oper × Bool)) : Fr → Mem → Option (Fr × Mem) :=
  List.rec (motive := fun _ => Fr → Mem → Option (Fr × Mem)) (fun f H => some (f, H))
    (fun q _ go f H => Option.rec (motive := fun _ => Option (Fr × Mem)) none (fun r => go r.1 r.2) (stepL P call ops q.2 q.1 f H)) l

abbrev Out := Option (Leave × Fr × Mem)

/-- On with the next piece, if the first one is left at its end. -/
def andThen (r : Out) (k : Fr → Mem → Out) : Out :=
  match r with
  | some (.normal, f, H) => k f H
  | some (.exit id, f, H) => some (.exit id, f, H)
  | some (.ret, f, H) => some (.ret, f, H)
  | some (.goto l, f, H) => some (.goto l, f, H)
  | none => none

def leaveBlock (id : Nat) (r : Out) : Out :=
  match r with
  | some (.exit id', f, H) => pick2 (Nat.beq id' id) (some (.normal, f, H)) (some (.exit id', f, H))
  | some (.normal, f, H) => some (.normal, f, H)
  | some (.ret, f, H) => some (.ret, f, H)
  | some (.goto l, f, H) => some (.goto l, f, H)
  | none => none

def loopA (body : Fr → Mem → Out) (n : Nat) : Fr → Mem → Out :=
  Nat.rec (motive := fun _ => Fr → Mem → Out) (fun _ _ => none) (fun _ go f H => andThen (body f H) go) n

def atEnd (r : Option (Fr × Mem)) : Out := Option.rec (motive := fun _ => Out) none (fun q => some (.normal, q.1, q.2)) r

def regionA (P : Program) (G : Nat) (call : CallF) (ops : Array Oper) (draw : Bool) (f : Fr) (H : Mem) : Out :=
  pick2 (okOps G ops.toList)
    (pick2 draw
      (Option.rec (motive := fun _ => Out) none (fun l => atEnd (drawA P call ops.toList l f H)) (plan P ops))
      (atEnd (opsA P call ops.toList ops.toList f H)))
    none

def condA (v : Value) (x y : Fr → Mem → Out) (f : Fr) (H : Mem) : Out :=
  match v with
  | .bool b => pick2 b (x f H) (y f H)
  | _ => none

abbrev JumpF := Code → Code → Fr → Mem → Out

/-- Behind a scope's code: a jump to a label of it goes on there. -/
def afterScope (c : Code) (J : JumpF) (r : Out) : Out :=
  match r with
  | some (.goto l, f, H) => match findLabel c l with
    | some rest => J c rest f H
    | none => some (.goto l, f, H)
  | some (.normal, f, H) => some (.normal, f, H)
  | some (.exit id, f, H) => some (.exit id, f, H)
  | some (.ret, f, H) => some (.ret, f, H)
  | none => none

def codeA (P : Program) (G : Nat) (call : CallF) (jump : JumpF) (rounds : Nat) (c : Code) : Fr → Mem → Out :=
  Code.rec (motive := fun _ => Fr → Mem → Out)
    (fun f H => some (.normal, f, H))
    (fun _ ops draw => regionA P G call ops draw)
    (fun _ _ x y f H => andThen (x f H) y)
    (fun c _ _ x y f H => pick2 (operandOk G c) (condA (f.eval c) x y f H) none)
    (fun id _ b f H => leaveBlock id (b f H))
    (fun _ b => loopA b rounds)
    (fun _ _ _ _ _ _ _ _ => none)
    (fun id f H => some (.exit id, f, H))
    (fun c b f H => afterScope c jump (b f H))
    (fun _ f H => some (.normal, f, H))
    (fun l f H => some (.goto l, f, H))
    (fun f H => some (.ret, f, H))
    (fun _ _ _ => none) c

/-- The code behind a label of a scope, and whatever it jumps to: at most so many jumps. -/
def jumpsA (P : Program) (G : Nat) (call : CallF) (rounds : Nat) (n : Nat) : JumpF :=
  Nat.rec (motive := fun _ => JumpF) (fun _ _ _ _ => none)
    (fun _ go c rest f H => afterScope c go (codeA P G call go rounds rest f H)) n

def resultA (P : Program) (H : Mem) (f : Fr) : ResultVar → Option Value
  | .tmp t => some (f.get t)
  | .cell x t => loadA P H t (f.get x)

def resultsA (P : Program) (H : Mem) (f : Fr) : List ResultVar → Option (List Value)
  | [] => some []
  | r :: l => match resultA P H f r, resultsA P H f l with
    | some v, some vs => some (v :: vs)
    | _, _ => none

def oneA : List Value → Value
  | [v] => v
  | l => .tuple l.toArray

def returnA (P : Program) (fn : Func) (r : Out) : Option (Value × Mem) :=
  match r with
  | some (.normal, f, H) => withMem H ((resultsA P H f fn.results.toList).map oneA)
  | some (.ret, f, H) => withMem H ((resultsA P H f fn.results.toList).map oneA)
  | _ => none

/-- Contracts that are known already: of values that lead to no memory. -/
abbrev Known := FuncId → List Value → Option Value

def enterA (P : Program) (G : Nat) (call : CallF) (rounds : Nat) (id : FuncId) (args : List Value) (H : Mem) : Option (Value × Mem) :=
  match P.funcs[id]? with
  | some fn => match fn.body with
    | some c => match (Fr.mk fn.ntmps (Tr.full (depthOf fn.ntmps))).fill 0 args with
      | some f0 => pick2 (Nat.ble args.length fn.ntmps) (returnA P fn (codeA P G call (jumpsA P G call rounds rounds) rounds c f0 H)) none
      | none => none
    | none => none
  | none => none

def callA (P : Program) (G : Nat) (K : Known) (rounds : Nat) (n : Nat) : CallF :=
  Nat.rec (motive := fun _ => CallF) (fun _ _ _ => none)
    (fun _ go id args H => Option.rec (motive := fun _ => Option (Value × Mem)) (enterA P G go rounds id args H)
      (fun v => pick2 (addrFreeL args && addrFree v) (some (v, H)) none) (K id args)) n

/-- The call of a function with arguments that lead to no memory, and its result, if that leads to none. -/
def answer (P : Program) (K : Known) (rounds depth : Nat) (f : FuncId) (args : List Value) : Option Value :=
  match callA P 0 K rounds depth f args Mem.empty with
  | some (v, _) => pick2 (addrFree v && addrFreeL args) (some v) none
  | none => none

def noKnown : Known := fun _ _ => none

/-- A memory of given rows, all of them only read. -/
def Mem.ofRows (H : Mem) (l : List Blk) : Option Mem :=
  match l with
  | [] => some ⟨H.size, H.size, H.t⟩
  | b :: l => match H.push b with
    | some H' => H'.ofRows l
    | none => none

/-- The call of a function where the first rows are given: package-level variables. -/
def answerG (P : Program) (K : Known) (rows : List Blk) (rounds depth : Nat) (f : FuncId) (args : List Value) : Option Value :=
  match Mem.ofRows Mem.empty rows with
  | some H => match callA P rows.length K rounds depth f args H with
    | some (v, _) => pick2 (addrFree v && addrFreeL args && rows.all fun b => addrFreeL b.cells) (some v) none
    | none => none
  | none => none

end
end Go.Ev

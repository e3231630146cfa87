/- A closed run of a function, by an evaluator over memory of its own: its definitions. -/
import Derived.Calls
import Derived.Orders
import Derived.LoopN
import Derived.KernelRfl
import Derived.Laws.Tables
namespace Go.Ex

/-- A row of cells that the run itself has made: its cells, its element type, whether it may still be read and written. -/
structure Blk where
  cells : List Value
  elem : TypeId
  live : Bool
  lock : Bool

abbrev Mem := List Blk

mutual
def addrFree : Value → Bool
  | .bool _ => true
  | .int _ _ => true
  | .float _ _ => true
  | .complex _ _ _ => true
  | .string _ => true
  | .pointer none => true
  | .pointer (some _) => false
  | .slice none _ _ => true
  | .slice (some _) _ _ => false
  | .map none => true
  | .map (some _) => false
  | .chan _ => false
  | .func _ a b => addrFreeA a && addrFreeA b
  | .nilFunc => true
  | .iface _ v => addrFree v
  | .nilIface => true
  | .agg cs => addrFreeA cs
  | .tuple cs => addrFreeA cs
def addrFreeA : Array Value → Bool
  | ⟨l⟩ => addrFreeL l
def addrFreeL : List Value → Bool
  | [] => true
  | v :: l => addrFree v && addrFreeL l
end

def semPure (P : Program) {α : Type} : Sem α → Option α
  | .pure a => some a
  | .program k => semPure P (k P)
  | .mark _ k => semPure P k
  | _ => none

def sizeA (P : Program) (t : TypeId) : Option Nat := (P.info? t).map (·.size)

def isAggA (P : Program) (t : TypeId) : Option Bool :=
  match P.underlying t with
  | some (.struct _) => some true
  | some (.array _ _) => some true
  | some _ => some false
  | none => none

def alive (H : Mem) (i : Nat) : Option Blk :=
  match H[i]? with
  | some b => if b.live then some b else none
  | none => none

/-- n cells from 'off' on. -/
def readCells (H : Mem) (i off n : Nat) : Option (List Value) :=
  match alive H i with
  | some b => if off + n ≤ b.cells.length then some ((b.cells.drop off).take n) else none
  | none => none

def loadA (P : Program) (H : Mem) (t : TypeId) (v : Value) : Option Value :=
  match v with
  | .pointer (some ⟨i, off, none⟩) =>
    match isAggA P t, sizeA P t with
    | some true, some n => (readCells H i off n).map fun l => .agg l.toArray
    | some false, _ => match alive H i with
      | some b => b.cells[off]?
      | none => none
    | _, _ => none
  | _ => none

def plainCell : Value → Bool
  | .agg _ => false
  | .tuple _ => false
  | _ => true

def putCells (l : List Value) (off : Nat) : List Value → List Value
  | [] => l
  | v :: vs => putCells (l.set off v) (off + 1) vs

def writeCells (H : Mem) (i off : Nat) (vs : List Value) : Option Mem :=
  if vs.isEmpty then some H else
  match alive H i with
  | some b => if off + vs.length ≤ b.cells.length && vs.all plainCell && !b.lock then some (H.set i { b with cells := putCells b.cells off vs }) else none
  | none => none

def storeA (P : Program) (H : Mem) (t : TypeId) (v x : Value) : Option Mem :=
  match v, sizeA P t with
  | .pointer (some ⟨i, off, none⟩), some n => if x.cells.size = n then writeCells H i off x.cells.toList else none
  | _, _ => none

def newA (H : Mem) (t : TypeId) (cs : List Value) : Nat × Mem := (H.length, H ++ [⟨cs, t, true, false⟩])

def zeroA (P : Program) (t : TypeId) : Option Value :=
  match P.info? t with
  | some i => match i.zero with
    | some z => if addrFree z then some z else none
    | none => none
  | none => none

def addA (off n : Nat) : Nat := off + n

def idxA (P : Program) (t : TypeId) (x ix : Value) : Option Value :=
  match P.underlying t, x, ix with
  | some (.slice e), .slice (some ⟨b, off, none⟩) len _, .int _ i =>
    match sizeA P e with
    | some s => if 0 ≤ i ∧ i < len then some (.pointer (some ⟨b, off + i.toNat * s, none⟩)) else none
    | none => none
  | some (.array len e), .pointer (some ⟨b, off, none⟩), .int _ i =>
    match sizeA P e with
    | some s => if 0 ≤ i ∧ i < len then some (.pointer (some ⟨b, off + i.toNat * s, none⟩)) else none
    | none => none
  | _, _, _ => none

def fieldA (P : Program) (s : TypeId) (x : Value) (f : Nat) : Option Value :=
  match P.underlying s, x with
  | some (.struct fs), .pointer (some ⟨b, off, none⟩) =>
    match fs[f]? with
    | some fd => match sizeA P fd.type with
      | some n => if n = 0 then none else some (.pointer (some ⟨b, off + fd.offset, none⟩))
      | none => none
    | none => none
  | _, _ => none

def boundA : Value → Nat → Option Nat
  | .int _ i, y => if 0 ≤ i ∧ i ≤ y then some i.toNat else none
  | _, _ => none

/-- s[lo:hi] of a slice. -/
def sliceA (P : Program) (t : TypeId) (x : Value) (lo hi : Option Value) : Option Value :=
  match P.underlying t, x with
  | some (.slice e), .slice a len cap =>
    match (match hi with | some v => boundA v cap | none => some len) with
    | some h => match (match lo with | some v => boundA v h | none => some 0) with
      | some l => match a, sizeA P e with
        | some ⟨b, off, none⟩, some s => if (l = cap ∧ l ≠ 0) ∨ cap < l then none else some (.slice (some ⟨b, off + l * s, none⟩) (h - l) (cap - l))
        | none, some _ => some (.slice none (h - l) (cap - l))
        | _, _ => none
      | none => none
    | none => none
  | _, _ => none

def partA (P : Program) (t : TypeId) (cs : Array Value) (off : Nat) : Option Value :=
  match isAggA P t, sizeA P t with
  | some true, some n => some (.agg (cs.extract off (off + n)))
  | some false, _ => cs[off]?
  | _, _ => none

def fieldVA (P : Program) (t : TypeId) (x : Value) (f : Nat) : Option Value :=
  match P.underlying t, x with
  | some (.struct fs), .agg cs => match fs[f]? with
    | some fd => partA P fd.type cs fd.offset
    | none => none
  | _, _ => none

def indexVA (P : Program) (t : TypeId) (x ix : Value) : Option Value :=
  match P.underlying t, x, ix with
  | some (.array len e), .agg cs, .int _ i => match sizeA P e with
    | some s => if 0 ≤ i ∧ i < len then partA P e cs (i.toNat * s) else none
    | none => none
  | _, _, _ => none

def builtFree (P : Program) (t : TypeId) : Bool := (zeroA P t).isSome

def buildA (P : Program) (t : TypeId) (parts : List (Nat × Value)) : Option Value :=
  if builtFree P t then (P.built t parts).map .agg else none

/-- The cells of n elements that are zero. -/
def zerosA (P : Program) (e : TypeId) (n : Nat) : Option (Array Value) :=
  match sizeA P e, zeroA P e with
  | some s, some z => if n * s = 0 then some #[] else some ((Array.range (n * s)).map (z.cells[· % z.cells.size]!))
  | _, _ => none

def buildSliceA (P : Program) (H : Mem) (t : TypeId) (len : Nat) (parts : List (Nat × Value)) : Option (Value × Mem) :=
  match P.underlying t with
  | some (.slice e) => match sizeA P e, zerosA P e len with
    | some s, some z => if len * s > 2 ^ 24 then none else
      match Instr.fill (fun i => some (i * s, s)) z parts with
      | some cs => some (.slice (some ⟨(newA H e cs.toList).1, 0, none⟩) len len, (newA H e cs.toList).2)
      | none => none
    | _, _ => none
  | _ => none

def makeSliceA (P : Program) (H : Mem) (t : TypeId) (len cap : Value) : Option (Value × Mem) :=
  match P.underlying t, len, cap with
  | some (.slice e), .int _ l, .int _ c => match P.info? e, zerosA P e c.toNat with
    | some inf, some z => if 0 ≤ l ∧ l ≤ c ∧ c ≤ 1000000 ∧ inf.bytes ≤ 1000000 then some (.slice (some ⟨(newA H e z.toList).1, 0, none⟩) l.toNat c.toNat, (newA H e z.toList).2) else none
    | _, _ => none
  | _, _, _ => none

/-- The cells of the first n elements of a slice, or the bytes of a string. -/
def firstA (H : Mem) (s n : Nat) : Value → Option (List Value)
  | .slice (some ⟨b, off, none⟩) _ _ => readCells H b off (n * s)
  | .slice none _ _ => if n = 0 then some [] else none
  | .string x => if s = 1 ∧ n ≤ x.size then some ((x.extract 0 n).data.toList.map fun b => .int .u8 b.toNat) else none
  | _ => none

def lenA : Value → Option Nat
  | .slice _ n _ => some n
  | .string s => some s.size
  | _ => none

def isSliceType (P : Program) (t : TypeId) : Bool :=
  match P.underlying t with
  | some (.slice _) => true
  | some .string => true
  | _ => false

/-- A row that may be read and written no more. -/
def kill (H : Mem) (i : Nat) : Mem :=
  match H[i]? with
  | some b => H.set i { b with live := false }
  | none => H

def appendA (P : Program) (H : Mem) (st xt : TypeId) (s x : Value) : Option (Value × Mem) :=
  match P.underlying st, s, isSliceType P xt with
  | some (.slice e), .slice base sLen sCap, true =>
    match P.info? e, zeroA P e, lenA x with
    | some inf, some z, some n =>
      match firstA H inf.size n x, firstA H inf.size sLen s with
      | some new, some old =>
        if inf.size = 0 ∨ inf.bytes = 0 ∨ inf.bytes > 100000 ∨ sLen + n > 1000000 ∨ sCap > 1000000 ∨ z.cells.size ≠ inf.size ∨ !new.all plainCell then none else
        if sLen + n ≤ sCap then
          match base with
          | some ⟨b, off, none⟩ => (writeCells H b (off + sLen * inf.size) new).map fun H' => (.slice base (sLen + n) sCap, H')
          | _ => if n = 0 then some (s, H) else none
        else
          match base with
          | some ⟨b, off, none⟩ =>
            if off = 0 ∧ old.length = sLen * inf.size ∧ (alive H b).any (fun k => decide (k.cells.length = sCap * inf.size) && !k.lock && (k.elem == e)) then
              some (.slice (some ⟨(newA (kill H b) e (old ++ new)).1, 0, none⟩) (sLen + n) (sLen + n), (newA (kill H b) e (old ++ new)).2)
            else none
          | none => some (.slice (some ⟨(newA H e (old ++ new)).1, 0, none⟩) (sLen + n) (sLen + n), (newA H e (old ++ new)).2)
          | _ => none
      | _, _ => none
    | _, _, _ => none
  | _, _, _ => none

def copyA (P : Program) (H : Mem) (dt : TypeId) (d x : Value) : Option (Value × Mem) :=
  match P.underlying dt, d, lenA x with
  | some (.slice e), .slice base dLen _, some n =>
    match sizeA P e with
    | some s => match firstA H s (Nat.min n dLen) x with
      | some cs => match base with
        | some ⟨b, off, none⟩ => (writeCells H b off cs).map fun H' => (goInt (Nat.min n dLen), H')
        | none => some (goInt (Nat.min n dLen), H)
        | _ => none
      | none => none
    | none => none
  | _, _, _ => none

def byteOfV : Value → Option UInt8
  | .int .u8 n => some (UInt8.ofNat n.toNat)
  | _ => none

def bytesA : List Value → ByteArray → Option ByteArray
  | [], acc => some acc
  | v :: vs, acc => match byteOfV v with
    | some b => bytesA vs (acc.push b)
    | none => none

def convertA (P : Program) (H : Mem) (src dst : TypeId) (x : Value) : Option (Value × Mem) :=
  match P.underlying src, P.underlying dst, x with
  | some (.slice e), some .string, .slice a len _ =>
    match P.underlying e, a with
    | some (.int .u8), some ⟨b, off, none⟩ => match readCells H b off len with
      | some cs => (bytesA cs .empty).map fun s => (.string s, H)
      | none => none
    | some (.int .u8), none => some (.string .empty, H)
    | _, _ => none
  | some .string, some (.slice e), .string s =>
    match P.underlying e, sizeA P e with
    | some (.int .u8), some 1 => some (.slice (some ⟨(newA H e (s.data.toList.map fun b => .int .u8 b.toNat)).1, 0, none⟩) s.size s.size, (newA H e (s.data.toList.map fun b => .int .u8 b.toNat)).2)
    | _, _ => none
  | _, _, _ => none

def operandsFree (ev : Operand → Value) (o : Op) : Bool := o.operands.toList.all fun x => addrFree (ev x)

def pureA (P : Program) (ev : Operand → Value) (o : Oper) : Option Value :=
  match o.op with
  | .select _ _ => none
  | _ => if operandsFree ev o.op then
      match semPure P (execOp ev o) with
      | some (.value v) => if addrFree v then some v else none
      | _ => none
    else none

def partsA (ev : Operand → Value) (ps : Array (Nat × Operand)) : List (Nat × Value) := ps.toList.map fun q => (q.1, ev q.2)

/-- What an operation that is no call of a Go function does: the value in its slot, the memory behind it. -/
def opA (P : Program) (ev : Operand → Value) (o : Oper) (H : Mem) : Option (Value × Mem) :=
  match o.op with
  | .move x => some (ev x, H)
  | .assign x => some (ev x, H)
  | .pick c a b => match ev c with
    | .bool t => some (if t then ev a else ev b, H)
    | _ => none
  | .alloc t => (zeroA P t).map fun z => (.pointer (some ⟨(newA H t z.cells.toList).1, 0, none⟩), (newA H t z.cells.toList).2)
  | .box t x => if (sizeA P t).isNone then none else some (.pointer (some ⟨(newA H t (ev x).cells.toList).1, 0, none⟩), (newA H t (ev x).cells.toList).2)
  | .build t ps => (buildA P t (partsA ev ps)).map fun v => (v, H)
  | .buildSlice t len ps => buildSliceA P H t len (partsA ev ps)
  | .load t a => (loadA P H t (ev a)).map fun v => (v, H)
  | .store t a x => (storeA P H t (ev a) (ev x)).map fun H' => (undef, H')
  | .nilCheck x => match ev x with
    | .pointer (some a) => some (.pointer (some a), H)
    | .func (.func f) a b => some (.func (.func f) a b, H)
    | _ => none
  | .fieldAddr s x f => (fieldA P s (ev x) f).map fun v => (v, H)
  | .indexAddr t x ix => (idxA P t (ev x) (ev ix)).map fun v => (v, H)
  | .extract x k => match ev x with
    | .tuple vs => (vs[k]?).map fun v => (v, H)
    | _ => none
  | .makeSlice t l c => makeSliceA P H t (ev l) (ev c)
  | .makeFunc fn first captured => some (.func fn (first.map ev) (captured.map ev), H)
  | .slice t x lo hi none => match pureA P ev o with
    | some v => some (v, H)
    | none => (sliceA P t (ev x) (lo.map ev) (hi.map ev)).map fun v => (v, H)
  | .field t x f => (fieldVA P t (ev x) f).map fun v => (v, H)
  | .index t x ix => match pureA P ev o with
    | some v => some (v, H)
    | none => (indexVA P t (ev x) (ev ix)).map fun v => (v, H)
  | .convert s d x => match pureA P ev o with
    | some v => some (v, H)
    | none => convertA P H s d (ev x)
  | .call { callee := .builtin .len, args, argTypes } => match args[0]?, argTypes[0]? with
    | some x, some t => match P.underlying t, ev x with
      | some (.slice _), .slice _ n _ => some (goInt n, H)
      | _, _ => (pureA P ev o).map fun v => (v, H)
    | _, _ => none
  | .call { callee := .builtin .append, args, argTypes } => match args[0]?, args[1]?, argTypes[0]?, argTypes[1]? with
    | some s, some x, some st, some xt => appendA P H st xt (ev s) (ev x)
    | _, _, _, _ => none
  | .call { callee := .builtin .copy, args, argTypes } => match args[0]?, args[1]?, argTypes[0]? with
    | some d, some x, some dt => copyA P H dt (ev d) (ev x)
    | _, _, _ => none
  | _ => (pureA P ev o).map fun v => (v, H)

def operandOk : Operand → Bool
  | .global _ => false
  | .const v => addrFree v
  | _ => true

def isSliceT (P : Program) (t : TypeId) : Bool :=
  match P.underlying t with
  | some (.slice _) => true
  | _ => false

/-- Does the operation leave memory alone? (one that does may be taken before others.) -/
def quiet (P : Program) : Op → Bool
  | .alloc _ => false
  | .box _ _ => false
  | .buildSlice _ _ _ => false
  | .store _ _ _ => false
  | .makeSlice _ _ _ => false
  | .convert s d _ => !isSliceT P s && !isSliceT P d
  | .call { callee := .builtin .len, .. } => true
  | .call { callee := .builtin .min, .. } => true
  | .call { callee := .builtin .max, .. } => true
  | .call _ => false
  | _ => true

inductive Leave where
  | normal
  | exit (id : Nat)
  | ret

abbrev CallF := FuncId → Array Value → Mem → Option (Value × Mem)

/-- The callee of an operation that calls a Go function. -/
def calleeA (P : Program) (ev : Operand → Value) (o : Oper) : Option (FuncId × Array Value) :=
  match o.op with
  | .call { callee := .value f, args, .. } => match ev f with
    | .func (.func id) first captured => match P.funcs[id]? with
      | some fn => if fn.body.isSome && !(fn.name == "runtime.NumGoroutine") then some (id, first ++ args.map ev ++ captured) else none
      | none => none
    | _ => none
  | _ => none

def stepA (P : Program) (call : CallF) (ops : Array Oper) (o : Oper) (a : Act) (H : Mem) : Option (Act × Mem) :=
  if Region.wanted o (yielded ops a.tmps) then
    if o.op.operands.toList.all operandOk then
      match calleeA P a.eval o with
      | some (f, args) => (call f args H).map fun r => (a.put o.dst r.1, r.2)
      | none => (opA P a.eval o H).map fun r => (a.put o.dst r.1, r.2)
    else none
  else some (a.put o.dst undef, H)

def opsA (P : Program) (call : CallF) (ops : Array Oper) : List Oper → Act → Mem → Option (Act × Mem)
  | [], a, H => some (a, H)
  | o :: l, a, H => match stepA P call ops o a H with
    | some r => opsA P call ops l r.1 r.2
    | none => none

/-- May operation i be taken first: all others that are not listed wait for it, or are apart from it. -/
def freeA (ops : Array Oper) (listed : Array Bool) (i : Nat) (oi : Oper) : Bool :=
  (List.range ops.size).all fun j => match ops[j]? with
    | some oj => j == i || listed.getD j true || (oj.after.toList.any fun e => Region.binds .any e && e.on == i) || oi.apart ops oj
    | none => true

def isLoad : Op → Bool
  | .load _ _ => true
  | _ => false

/-- All rows may be read alone. -/
def locked (H : Mem) : Mem := H.map fun b => { b with lock := true }

/-- A step; under 'lk' it may write no row that is there already. -/
def stepL (P : Program) (call : CallF) (ops : Array Oper) (lk : Bool) (o : Oper) (a : Act) (H : Mem) : Option (Act × Mem) :=
  if lk then (stepA P call ops o a (locked H)).map fun r => (r.1, H ++ r.2.drop H.length)
  else stepA P call ops o a H

/-- Does operation i come after j, by edges of at most n steps? -/
def behind (ops : Array Oper) (j : Nat) : Nat → Nat → Bool
  | 0, _ => false
  | n + 1, i => match ops[i]? with
    | some o => o.after.toList.any fun e => Region.binds .any e && (e.on == j || behind ops j n e.on)
    | none => false

/-- All loads that are listed come ahead of i. -/
def loadsAhead (ops : Array Oper) (listed : Array Bool) (i : Nat) : Bool :=
  (List.range ops.size).all fun j => match ops[j]? with
    | some oj => !isLoad oj.op || !listed.getD j true || behind ops j ops.size i
    | none => true

def drawA (P : Program) (call : CallF) (ops : Array Oper) : Nat → Array Bool → Act → Mem → Option (Act × Mem)
  | 0, listed, a, H => if (Region.ready .any ops listed).isEmpty then some (a, H) else none
  | n + 1, listed, a, H =>
    match (Region.ready .any ops listed).find? fun i => ((ops[i]?).map fun o => quiet P o.op).getD false with
    | some i => match ops[i]? with
      | some o => if freeA ops listed i o then
          match stepA P call ops o a H with
          | some r => drawA P call ops n (listed.setIfInBounds i true) r.1 r.2
          | none => none
        else none
      | none => none
    | none => match Region.ready .any ops listed with
      | [i] => match ops[i]? with
        | some o => match stepL P call ops (!loadsAhead ops listed i) o a H with
          | some r => drawA P call ops n (listed.setIfInBounds i true) r.1 r.2
          | none => none
        | none => none
      | [] => some (a, H)
      | _ => none

def noSelectA (ops : Array Oper) : Bool := ops.toList.all fun o => match o.op with | .select _ _ => false | _ => true

def loopA (body : Act → Mem → Option (Leave × Act × Mem)) : Nat → Act → Mem → Option (Leave × Act × Mem)
  | 0, _, _ => none
  | n + 1, a, H => match body a H with
    | some (.normal, a', H') => loopA body n a' H'
    | r => r

def codeA (P : Program) (call : CallF) (rounds : Nat) : Code → Act → Mem → Option (Leave × Act × Mem)
  | .skip, a, H => some (.normal, a, H)
  | .region _ ops false, a, H => (opsA P call ops ops.toList a H).map fun r => (.normal, r.1, r.2)
  | .region _ ops true, a, H => if noSelectA ops then (drawA P call ops ops.size (Array.replicate ops.size false) a H).map fun r => (.normal, r.1, r.2) else none
  | .seq x y, a, H => match codeA P call rounds x a H with
    | some (.normal, a', H') => codeA P call rounds y a' H'
    | r => r
  | .cond c x y, a, H => if operandOk c then
      match a.eval c with
      | .bool true => codeA P call rounds x a H
      | .bool false => codeA P call rounds y a H
      | _ => none
    else none
  | .block id c, a, H => match codeA P call rounds c a H with
    | some (.exit id', a', H') => if id' = id then some (.normal, a', H') else some (.exit id', a', H')
    | r => r
  | .loop c, a, H => loopA (codeA P call rounds c) rounds a H
  | .exit id, a, H => some (.exit id, a, H)
  | .ret, a, H => some (.ret, a, H)
  | _, _, _ => none

def resultA (P : Program) (H : Mem) (a : Act) : ResultVar → Option Value
  | .tmp t => some (a.tmps.getD t undef)
  | .cell x t => loadA P H t (a.tmps.getD x undef)

def resultsA (P : Program) (H : Mem) (a : Act) : List ResultVar → Option (List Value)
  | [] => some []
  | r :: l => match resultA P H a r, resultsA P H a l with
    | some v, some vs => some (v :: vs)
    | _, _ => none

def oneA : List Value → Value
  | [v] => v
  | l => .tuple l.toArray

abbrev Known := FuncId → Array Value → Option Value

def callA (P : Program) (K : Known) (rounds : Nat) : Nat → CallF
  | 0, _, _, _ => none
  | n + 1, f, args, H =>
    match (if addrFreeA args then K f args else none) with
    | some v => if addrFree v then some (v, H) else none
    | none => match P.funcs[f]? with
    | some fn => match fn.body with
      | some c => match codeA P (callA P K rounds n) rounds c { tmps := args ++ Array.replicate (fn.ntmps - args.size) undef, defers := [] } H with
        | some (.normal, a, H') => (resultsA P H' a fn.results.toList).map fun l => (oneA l, H')
        | some (.ret, a, H') => (resultsA P H' a fn.results.toList).map fun l => (oneA l, H')
        | _ => none
      | none => none
    | none => none

/-- The call of a function with arguments that lead to no memory, and its result, if that leads to none. -/
def answer (P : Program) (K : Known) (rounds depth : Nat) (f : FuncId) (args : Array Value) : Option Value :=
  match callA P K rounds depth f args [] with
  | some (v, _) => if addrFree v && addrFreeA args then some v else none
  | none => none

def noKnown : Known := fun _ _ => none

end Go.Ex

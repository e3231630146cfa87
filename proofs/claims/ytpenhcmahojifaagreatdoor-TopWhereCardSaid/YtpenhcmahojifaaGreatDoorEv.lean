/- A closed run of a function, by an evaluator with memory of its own: its definitions. -/
import Derived.Calls
import Derived.Orders
import Derived.LoopN
import Derived.KernelRfl
import Derived.Laws.Tables
set_option linter.unusedVariables false
set_option linter.unusedSimpArgs false
set_option linter.unusedSectionVars false
namespace Go.Ev
noncomputable section
/-! ### Trees of values, by number -/
inductive Tr (α : Type) where
  | e
  | n (l : Tr α) (v : Option α) (r : Tr α)
/-- A choice, by the recursor itself (the kernel reckons it in one step). -/
abbrev pick2 {α : Type} (b : Bool) (x y : α) : α := Bool.rec (motive := fun _ => α) y x b
def Tr.get {α : Type} (t : Tr α) : Nat → Option α :=
  Tr.rec (motive := fun _ => Nat → Option α) (fun _ => none)
    (fun _ v _ gl gr k => pick2 (Nat.beq k 0) v (pick2 (Nat.beq (Nat.mod k 2) 1) (gl (Nat.div k 2)) (gr (Nat.sub (Nat.div k 2) 1)))) t
/-- A tree of one value. -/
def Tr.mk1 {α : Type} (x : α) (d : Nat) : Nat → Tr α :=
  Nat.rec (motive := fun _ => Nat → Tr α) (fun _ => .n .e (some x) .e)
    (fun _ go k => pick2 (Nat.beq k 0) (.n .e (some x) .e) (pick2 (Nat.beq (Nat.mod k 2) 1) (.n (go (Nat.div k 2)) none .e) (.n .e none (go (Nat.sub (Nat.div k 2) 1))))) d
/-- A tree with another value at a number. -/
def Tr.set {α : Type} (t : Tr α) : Nat → α → Option (Tr α) :=
  Tr.rec (motive := fun _ => Nat → α → Option (Tr α)) (fun k x => some (Tr.mk1 x k k))
    (fun l v r gl gr k x => pick2 (Nat.beq k 0) (some (.n l (some x) r))
      (pick2 (Nat.beq (Nat.mod k 2) 1)
        (Option.rec (motive := fun _ => Option (Tr α)) none (fun l' => some (.n l' v r)) (gl (Nat.div k 2) x))
        (Option.rec (motive := fun _ => Option (Tr α)) none (fun r' => some (.n l v r')) (gr (Nat.sub (Nat.div k 2) 1) x)))) t
def Tr.full {α : Type} : Nat → Tr α
  | 0 => .e
  | d + 1 => .n (Tr.full d) none (Tr.full d)
/-- A row of cells that the run has made, or that was given: its cells, its element type, whether it may still be read and written, whether it is known to have no room more. -/
structure Blk where
  cells : List Value
  elem : TypeId
  live : Bool
  fix : Bool
/-- A row as it is kept: its first cells, and what was put behind them, the last first. -/
structure Row where
  base : List Value
  more : List (List Value)
  elem : TypeId
  live : Bool
  fix : Bool
def flatM (m : List (List Value)) : List Value → List Value :=
  List.rec (motive := fun _ => List Value → List Value) (fun acc => acc) (fun c _ go acc => go (c ++ acc)) m
def rowL (base : List Value) (more : List (List Value)) : List Value := List.rec (motive := fun _ => List Value) base (fun c m _ => base ++ flatM (c :: m) []) more
def Row.blk (r : Row) : Blk := Row.rec (motive := fun _ => Blk) (fun base more t lv fx => ⟨rowL base more, t, lv, fx⟩) r
def Row.of (b : Blk) : Row := Blk.rec (motive := fun _ => Row) (fun cs t lv fx => ⟨cs, [], t, lv, fx⟩) b
/-- Rows, by number; those below 'lk' are only read. -/
structure Mem where
  size : Nat
  lk : Nat
  t : Tr Row
def Mem.get (H : Mem) (i : Nat) : Option Blk := pick2 (Nat.ble (Nat.succ i) H.size) (Option.rec (motive := fun _ => Option Blk) none (fun r => some r.blk) (H.t.get i)) none
def Mem.pushR (H : Mem) (r : Row) : Option Mem :=
  Option.rec (motive := fun _ => Option Mem) none (fun t => some ⟨Nat.add H.size 1, H.lk, t⟩) (H.t.set H.size r)
def Mem.push (H : Mem) (b : Blk) : Option Mem := H.pushR (Row.of b)
def Mem.set (H : Mem) (i : Nat) (b : Blk) : Option Mem :=
  pick2 (Nat.ble (Nat.succ i) H.size) (pick2 (Nat.ble H.lk i) (Option.rec (motive := fun _ => Option Mem) none (fun t => some ⟨H.size, H.lk, t⟩) (H.t.set i (Row.of b))) none) none
def Mem.empty : Mem := ⟨0, 0, .e⟩
/-- The slots of a function. -/
structure Fr where
  n : Nat
  t : Tr Value
def Fr.get (f : Fr) (i : Nat) : Value := pick2 (Nat.ble (Nat.succ i) f.n) (Option.rec (motive := fun _ => Value) undef (fun v => v) (f.t.get i)) undef
def Fr.put (f : Fr) (dst : Option Tmp) (v : Value) : Option Fr :=
  Option.rec (motive := fun _ => Option Fr) (some f)
    (fun d => pick2 (Nat.ble (Nat.succ d) f.n) (Option.rec (motive := fun _ => Option Fr) none (fun t => some (Fr.rec (motive := fun _ => Fr) (fun n _ => ⟨n, t⟩) f)) (f.t.set d v)) (some f)) dst
def Fr.eval (f : Fr) : Operand → Value
  | .tmp t => f.get t
  | .const v => v
  | .global g => .pointer (some ⟨g, 0, none⟩)
  | .func f => .func (.func f) #[] #[]
def depthOf (n : Nat) : Nat := cond (Nat.blt n 31) 5 (cond (Nat.blt n 127) 7 (cond (Nat.blt n 511) 9 12))
def Fr.fill (f : Fr) : Nat → List Value → Option Fr
  | _, [] => some f
  | i, v :: l => match f.put (some i) v with
    | some f' => f'.fill (i + 1) l
    | none => none
/-- A function that is none of a loop's own. -/
def notYield : Fn → Bool
  | .yield _ => false
  | _ => true
mutual
def addrFree : Value → Bool
  | .bool _ => true
  | .int _ _ => true
  | .float _ _ => true
  | .complex _ _ _ => true
  | .string _ => true
  | .pointer none => true
  | .pointer (some _) => false
  | .slice none _ _ => true
  | .slice (some _) _ _ => false
  | .map none => true
  | .map (some _) => false
  | .chan _ => false
  | .func fn a b => notYield fn && (addrFreeA a && addrFreeA b)
  | .nilFunc => true
  | .iface _ v => addrFree v
  | .nilIface => true
  | .agg cs => addrFreeA cs
  | .tuple cs => addrFreeA cs
def addrFreeA : Array Value → Bool
  | ⟨l⟩ => addrFreeL l
def addrFreeL : List Value → Bool
  | [] => true
  | v :: l => addrFree v && addrFreeL l
end
def semPure (P : Program) {α : Type} : Sem α → Option α
  | .pure a => some a
  | .program k => semPure P (k P)
  | .mark _ k => semPure P k
  | _ => none
def sizeA (P : Program) (t : TypeId) : Option Nat := (P.info? t).map (·.size)
def isAggA (P : Program) (t : TypeId) : Option Bool :=
  match P.underlying t with
  | some (.struct _) => some true
  | some (.array _ _) => some true
  | some _ => some false
  | none => none
def alive (H : Mem) (i : Nat) : Option Blk :=
  match H.get i with
  | some b => cond b.live (some b) none
  | none => none
/-- What stands in a given row where nothing is known. -/
def isJunk : Value → Bool
  | .chan _ => true
  | _ => false
/-! #### Lists, reckoned out -/
/-- The list behind its first n elements, if it has so many. -/
def dropS (n : Nat) : List Value → Option (List Value) :=
  Nat.rec (motive := fun _ => List Value → Option (List Value)) (fun l => some l) (fun _ go l => List.rec (motive := fun _ => Option (List Value)) none (fun _ t _ => go t) l) n
/-- The list behind q times 16 elements: each q's is made of the one's before. -/
def dropB (l : List Value) (q : Nat) : Option (List Value) :=
  Nat.rec (motive := fun _ => Option (List Value)) (some l) (fun _ r => Option.rec (motive := fun _ => Option (List Value)) none (fun t => dropS 16 t) r) q
def dropO (n : Nat) (l : List Value) : Option (List Value) :=
  Option.rec (motive := fun _ => Option (List Value)) none (fun t => dropS (Nat.mod n 16) t) (dropB l (Nat.div n 16))
/-- Its first n elements, if all of them are known. -/
def takeO (n : Nat) : List Value → Option (List Value) :=
  Nat.rec (motive := fun _ => List Value → Option (List Value)) (fun _ => some [])
    (fun _ go l => List.rec (motive := fun _ => Option (List Value)) none (fun v t _ => pick2 (isJunk v) none (Option.rec (motive := fun _ => Option (List Value)) none (fun r => some (v :: r)) (go t))) l) n
/-- Its first n elements. -/
def firstO (n : Nat) : List Value → Option (List Value) :=
  Nat.rec (motive := fun _ => List Value → Option (List Value)) (fun _ => some [])
    (fun _ go l => List.rec (motive := fun _ => Option (List Value)) none (fun v t _ => Option.rec (motive := fun _ => Option (List Value)) none (fun r => some (v :: r)) (go t)) l) n
/-- Others over its first elements, each of which may stand there. -/
def overO (ok : Value → Bool) (vs : List Value) : List Value → Option (List Value) :=
  List.rec (motive := fun _ => List Value → Option (List Value)) (fun l => some l)
    (fun v _ go l => List.rec (motive := fun _ => Option (List Value)) none (fun _ t _ => pick2 (ok v) (Option.rec (motive := fun _ => Option (List Value)) none (fun r => some (v :: r)) (go t)) none) l) vs
/-- The same from one of its elements on. -/
def putO (ok : Value → Bool) (vs : List Value) (off : Nat) : List Value → Option (List Value) :=
  Nat.rec (motive := fun _ => List Value → Option (List Value)) (fun l => overO ok vs l)
    (fun _ go l => List.rec (motive := fun _ => Option (List Value)) none (fun u t _ => Option.rec (motive := fun _ => Option (List Value)) none (fun r => some (u :: r)) (go t)) l) off
def lenL (l : List Value) : Nat := List.rec (motive := fun _ => Nat) 0 (fun _ _ n => Nat.succ n) l
def cellsL : Value → List Value
  | .agg ⟨l⟩ => l
  | v => [v]
def nthO (l : List (Nat × Nat)) : Nat → Option (Nat × Nat) :=
  List.rec (motive := fun _ => Nat → Option (Nat × Nat)) (fun _ => none) (fun q _ go i => Nat.rec (motive := fun _ => Option (Nat × Nat)) (some q) (fun j _ => go j) i) l
/-- Parts put to their places. -/
def fillO (place : Nat → Option (Nat × Nat)) (parts : List (Nat × Value)) : List Value → Option (List Value) :=
  List.rec (motive := fun _ => List Value → Option (List Value)) (fun cs => some cs)
    (fun q _ go cs => Option.rec (motive := fun _ => Option (List Value)) none
      (fun os => pick2 (Nat.beq (lenL (cellsL q.2)) os.2) (Option.rec (motive := fun _ => Option (List Value)) none (fun r => go r) (putO (fun _ => true) (cellsL q.2) os.1 cs)) none) (place q.1)) parts
def fillA (place : Nat → Option (Nat × Nat)) (z : Array Value) (parts : List (Nat × Value)) : Option (Array Value) :=
  Option.rec (motive := fun _ => Option (Array Value)) none (fun l => some ⟨l⟩) (fillO place parts z.toList)
def repL (v : Value) (n : Nat) : List Value := Nat.rec (motive := fun _ => List Value) [] (fun _ l => v :: l) n
/-- n cells from 'off' on. -/
def readCells (H : Mem) (i off n : Nat) : Option (List Value) :=
  Option.rec (motive := fun _ => Option (List Value)) none (fun b => Option.rec (motive := fun _ => Option (List Value)) none (fun l => takeO n l) (dropO off b.cells)) (alive H i)
def known1 : Option Value → Option Value
  | some v => pick2 (isJunk v) none (some v)
  | none => none
def loadA (P : Program) (H : Mem) (t : TypeId) (v : Value) : Option Value :=
  match v with
  | .pointer (some ⟨i, off, none⟩) =>
    match isAggA P t, sizeA P t with
    | some true, some n => (readCells H i off n).map fun l => .agg l.toArray
    | some false, _ => match alive H i with
      | some b => known1 b.cells[off]?
      | none => none
    | _, _ => none
  | _ => none
def plainCell : Value → Bool
  | .agg _ => false
  | .tuple _ => false
  | _ => true
def putCells (l : List Value) (off : Nat) : List Value → List Value
  | [] => l
  | v :: vs => putCells (l.set off v) (off + 1) vs
def writeCells (H : Mem) (i off : Nat) (vs : List Value) : Option Mem :=
  List.rec (motive := fun _ => Option Mem) (some H) (fun _ _ _ =>
    Option.rec (motive := fun _ => Option Mem) none (fun b => Option.rec (motive := fun _ => Option Mem) none (fun cs => H.set i (Blk.rec (motive := fun _ => Blk) (fun _ t lv fx => ⟨cs, t, lv, fx⟩) b)) (putO plainCell vs off b.cells)) (alive H i)) vs
def storeA (P : Program) (H : Mem) (t : TypeId) (v x : Value) : Option Mem :=
  match v, sizeA P t with
  | .pointer (some ⟨i, off, none⟩), some n => if x.cells.size = n then writeCells H i off x.cells.toList else none
  | _, _ => none
/-- A pointer to a new row. -/
def newPtr (H : Mem) (t : TypeId) (cs : List Value) : Option (Value × Mem) :=
  match H.push ⟨cs, t, true, true⟩ with
  | some H' => some (.pointer (some ⟨H.size, 0, none⟩), H')
  | none => none
def newSlice (H : Mem) (t : TypeId) (cs : List Value) (len cap : Nat) : Option (Value × Mem) :=
  match H.push ⟨cs, t, true, false⟩ with
  | some H' => some (.slice (some ⟨H.size, 0, none⟩) len cap, H')
  | none => none
/-- A slice of a new row whose room is known. -/
def newRoom (H : Mem) (t : TypeId) (cs : List Value) (len cap : Nat) : Option (Value × Mem) :=
  match H.push ⟨cs, t, true, true⟩ with
  | some H' => some (.slice (some ⟨H.size, 0, none⟩) len cap, H')
  | none => none
def zeroA (P : Program) (t : TypeId) : Option Value :=
  match P.info? t with
  | some i => match i.zero with
    | some z => if addrFree z then some z else none
    | none => none
  | none => none
/-- An index below a length. -/
def idxN (i : Int) (len : Nat) : Option Nat :=
  match i with
  | .ofNat m => pick2 (Nat.ble (Nat.succ m) len) (some m) none
  | .negSucc _ => none
def idxA (P : Program) (t : TypeId) (x ix : Value) : Option Value :=
  match P.underlying t, x, ix with
  | some (.slice e), .slice (some ⟨b, off, none⟩) len _, .int _ i =>
    match sizeA P e, idxN i len with
    | some s, some m => some (.pointer (some ⟨b, Nat.add off (Nat.mul m s), none⟩))
    | _, _ => none
  | some (.array len e), .pointer (some ⟨b, off, none⟩), .int _ i =>
    match sizeA P e, idxN i len with
    | some s, some m => some (.pointer (some ⟨b, Nat.add off (Nat.mul m s), none⟩))
    | _, _ => none
  | _, _, _ => none
def fieldA (P : Program) (s : TypeId) (x : Value) (f : Nat) : Option Value :=
  match P.underlying s, x with
  | some (.struct fs), .pointer (some ⟨b, off, none⟩) =>
    match fs[f]? with
    | some fd => match sizeA P fd.type with
      | some n => if n = 0 then none else some (.pointer (some ⟨b, off + fd.offset, none⟩))
      | none => none
    | none => none
  | _, _ => none
def boundA : Value → Nat → Option Nat
  | .int _ i, y => if 0 ≤ i ∧ i ≤ y then some i.toNat else none
  | _, _ => none
def dropU (n : Nat) : List UInt8 → List UInt8 := Nat.rec (motive := fun _ => List UInt8 → List UInt8) (fun l => l) (fun _ go l => List.rec (motive := fun _ => List UInt8) [] (fun _ t _ => go t) l) n
def takeU (n : Nat) : List UInt8 → List UInt8 := Nat.rec (motive := fun _ => List UInt8 → List UInt8) (fun _ => []) (fun _ go l => List.rec (motive := fun _ => List UInt8) [] (fun b t _ => b :: go t) l) n
/-- A text behind q times 16 bytes: each q's is made of the one's before. -/
def dropUB (l : List UInt8) (q : Nat) : List UInt8 := Nat.rec (motive := fun _ => List UInt8) l (fun _ r => dropU 16 r) q
def fromU (n : Nat) (l : List UInt8) : List UInt8 := dropU (Nat.mod n 16) (dropUB l (Nat.div n 16))
def nthU (n : Nat) (l : List UInt8) : Option UInt8 := List.rec (motive := fun _ => Option UInt8) none (fun b _ _ => some b) (fromU n l)
/-- The list's spine is reckoned out ahead of what is made of it. -/
def forceU {α : Type} (l : List UInt8) : (List UInt8 → α) → α := List.rec (motive := fun _ => (List UInt8 → α) → α) (fun k => k []) (fun b _ go k => go fun r => k (b :: r)) l
/-- The list's first cell alone is reckoned out: what is behind it is shared. -/
def headU {α : Type} (l : List UInt8) (k : List UInt8 → α) : α := List.rec (motive := fun _ => α) (k []) (fun b t _ => k (b :: t)) l
/-- s[lo:hi] of a slice, or of a text. -/
def sliceA (P : Program) (t : TypeId) (x : Value) (lo hi : Option Value) : Option Value :=
  match P.underlying t, x with
  | some (.slice e), .slice a len cap =>
    match (match hi with | some v => boundA v cap | none => some len) with
    | some h => match (match lo with | some v => boundA v h | none => some 0) with
      | some l => match a, sizeA P e with
        | some ⟨b, off, none⟩, some s => if (l = cap ∧ l ≠ 0) ∨ cap < l then none else some (.slice (some ⟨b, off + l * s, none⟩) (h - l) (cap - l))
        | none, some _ => some (.slice none (h - l) (cap - l))
        | some ⟨b, off, some 0⟩, some _ => if h = 0 then some (.slice (some ⟨b, off, some 0⟩) 0 0) else none
        | _, _ => none
      | none => none
    | none => none
  | some .string, .string s =>
    match (match hi with | some v => boundA v s.size | none => some s.size) with
    | some h => match (match lo with | some v => boundA v h | none => some 0) with
      | some l => pick2 (Nat.beq h s.size) (headU (fromU l s.data.toList) fun r => some (.string ⟨⟨r⟩⟩)) (forceU (takeU (h - l) (fromU l s.data.toList)) fun r => some (.string ⟨⟨r⟩⟩))
      | none => none
    | none => none
  | _, _ => none
def partA (P : Program) (t : TypeId) (cs : Array Value) (off : Nat) : Option Value :=
  match isAggA P t, sizeA P t with
  | some true, some n => match dropO off cs.toList with
    | some l => match firstO n l with
      | some r => some (.agg ⟨r⟩)
      | none => some (.agg (cs.extract off (off + n)))
    | none => some (.agg (cs.extract off (off + n)))
  | some false, _ => cs[off]?
  | _, _ => none
def fieldVA (P : Program) (t : TypeId) (x : Value) (f : Nat) : Option Value :=
  match P.underlying t, x with
  | some (.struct fs), .agg cs => match fs[f]? with
    | some fd => partA P fd.type cs fd.offset
    | none => none
  | _, _ => none
def indexVA (P : Program) (t : TypeId) (x ix : Value) : Option Value :=
  match P.underlying t, x, ix with
  | some (.array len e), .agg cs, .int _ i => match sizeA P e, idxN i len with
    | some s, some m => partA P e cs (Nat.mul m s)
    | _, _ => none
  | _, _, _ => none
def placesA (P : Program) (fs : List Field) : Option (List (Nat × Nat)) := fs.mapM fun f => (P.info? f.type).map fun i => (f.offset, i.size)
def buildA (P : Program) (t : TypeId) (parts : List (Nat × Value)) : Option Value :=
  match zeroA P t, P.underlying t with
  | some z, some (.array _ e) => match sizeA P e with
    | some s => Option.rec (motive := fun _ => Option Value) none (fun l => some (.agg ⟨l⟩)) (fillO (fun i => some (Nat.mul i s, s)) parts (cellsL z))
    | none => none
  | some z, some (.struct fs) => match placesA P fs.toList with
    | some ps => Option.rec (motive := fun _ => Option Value) none (fun l => some (.agg ⟨l⟩)) (fillO (nthO ps) parts (cellsL z))
    | none => none
  | _, _ => none
/-- The cells of n elements that are zero. -/
def zerosA (P : Program) (e : TypeId) (n : Nat) : Option (Array Value) :=
  match sizeA P e, zeroA P e with
  | some s, some z => pick2 (Nat.beq (Nat.mul n s) 0) (some #[]) (match s, cellsL z with
    | 1, [c] => some ⟨repL c n⟩
    | _, _ => some ((Array.range (n * s)).map (z.cells[· % z.cells.size]!)))
  | _, _ => none
def buildSliceA (P : Program) (H : Mem) (t : TypeId) (len : Nat) (parts : List (Nat × Value)) : Option (Value × Mem) :=
  match P.underlying t with
  | some (.slice e) => match sizeA P e, zerosA P e len with
    | some s, some z => if len * s > 2 ^ 24 then none else
      match fillA (fun i => some (i * s, s)) z parts with
      | some cs => newRoom H e cs.toList len len
      | none => none
    | _, _ => none
  | _ => none
def makeSliceA (P : Program) (H : Mem) (t : TypeId) (len cap : Value) : Option (Value × Mem) :=
  match P.underlying t, len, cap with
  | some (.slice e), .int _ l, .int _ c => match P.info? e, zerosA P e c.toNat with
    | some inf, some z => if 0 ≤ l ∧ l ≤ c ∧ c ≤ 2000000 ∧ inf.bytes ≤ 2000000 then newRoom H e z.toList l.toNat c.toNat else none
    | _, _ => none
  | _, _, _ => none
/-- The cells of the first n elements of a slice, or the bytes of a string. -/
def firstA (H : Mem) (s n : Nat) : Value → Option (List Value)
  | .slice (some ⟨b, off, none⟩) _ _ => readCells H b off (n * s)
  | .slice none _ _ => if n = 0 then some [] else none
  | .slice (some ⟨_, _, some 0⟩) _ _ => if n = 0 then some [] else none
  | .string x => if s = 1 ∧ n ≤ x.size then some ((x.extract 0 n).data.toList.map fun b => .int .u8 b.toNat) else none
  | _ => none
def lenA : Value → Option Nat
  | .slice _ n _ => some n
  | .string s => some s.size
  | _ => none
def isSliceType (P : Program) (t : TypeId) : Bool :=
  match P.underlying t with
  | some (.slice _) => true
  | some .string => true
  | _ => false
/-- A row that may be read and written no more. -/
def kill (H : Mem) (i : Nat) : Option Mem :=
  match H.get i with
  | some b => H.set i { b with live := false, fix := false }
  | none => none
def appendB (P : Program) (H : Mem) (st xt : TypeId) (s x : Value) : Option (Value × Mem) :=
  match P.underlying st, s, isSliceType P xt with
  | some (.slice e), .slice base sLen sCap, true =>
    match P.info? e, zeroA P e, lenA x with
    | some inf, some z, some n =>
      match firstA H inf.size n x, firstA H inf.size sLen s with
      | some new, some old =>
        if inf.size = 0 ∨ inf.bytes = 0 ∨ inf.bytes > 100000 ∨ sLen + n > 2000000 ∨ sCap > 2000000 ∨ z.cells.size ≠ inf.size ∨ !new.all plainCell then none else
        if sLen + n ≤ sCap then
          match base with
          | some ⟨b, off, none⟩ => (writeCells H b (off + sLen * inf.size) new).map fun H' => (.slice base (sLen + n) sCap, H')
          | none => if n = 0 then some (s, H) else none
          | _ => none
        else
          match base with
          | some ⟨b, off, none⟩ =>
            if off = 0 ∧ old.length = sLen * inf.size ∧ (alive H b).any (fun k => decide (k.cells.length = sCap * inf.size) && (k.elem == e)) then
              match kill H b with
              | some H1 => newSlice H1 e (old ++ new) (sLen + n) (sLen + n)
              | none => none
            else none
          | none => newSlice H e (old ++ new) (sLen + n) (sLen + n)
          | _ => none
      | _, _ => none
    | _, _, _ => none
  | _, _, _ => none
def lenM (m : List (List Value)) : Nat := List.rec (motive := fun _ => Nat) 0 (fun c _ k => Nat.add (lenL c) k) m
def okL (l : List Value) : Bool := List.rec (motive := fun _ => Bool) true (fun v _ k => pick2 (isJunk v) false k) l
def okM (m : List (List Value)) : Bool := List.rec (motive := fun _ => Bool) true (fun c _ k => pick2 (okL c) k false) m
def Mem.rowAt (H : Mem) (i : Nat) : Option Row := pick2 (Nat.ble (Nat.succ i) H.size) (H.t.get i) none
/-- An append to all of a row: what is appended is put behind the rest. -/
def growA (P : Program) (H : Mem) (st xt : TypeId) (s x : Value) : Option (Value × Mem) :=
  match P.underlying st, s, isSliceType P xt with
  | some (.slice e), .slice (some ⟨i, 0, none⟩) sLen sCap, true =>
    match P.info? e, zeroA P e, lenA x, H.rowAt i with
    | some inf, some z, some n, some ⟨base, more, t, true, _⟩ =>
      pick2 (Nat.beq t e && Nat.beq sLen sCap && Nat.ble 1 n && Nat.beq (Nat.add (lenM more) (lenL base)) (Nat.mul sLen inf.size) && okM more && okL base &&
          (Nat.ble 1 inf.size && Nat.ble 1 inf.bytes && Nat.ble inf.bytes 100000 && Nat.ble (Nat.add sLen n) 2000000 && Nat.ble sCap 2000000 && Nat.beq z.cells.size inf.size))
        (match firstA H inf.size n x with
          | some new => pick2 (new.all plainCell) (match kill H i with
            | some H1 => match H1.pushR ⟨base, new :: more, e, true, false⟩ with
              | some H2 => some (.slice (some ⟨H1.size, 0, none⟩) (Nat.add sLen n) (Nat.add sLen n), H2)
              | none => none
            | none => none) none
          | none => none) none
    | _, _, _, _ => none
  | _, _, _ => none
def appendA (P : Program) (H : Mem) (st xt : TypeId) (s x : Value) : Option (Value × Mem) :=
  match growA P H st xt s x with
  | some r => some r
  | none => appendB P H st xt s x
def copyA (P : Program) (H : Mem) (dt : TypeId) (d x : Value) : Option (Value × Mem) :=
  match P.underlying dt, d, lenA x with
  | some (.slice e), .slice base dLen _, some n =>
    match sizeA P e with
    | some s => match firstA H s (Nat.min n dLen) x with
      | some cs => match base with
        | some ⟨b, off, none⟩ => (writeCells H b off cs).map fun H' => (goInt (Nat.min n dLen), H')
        | none => some (goInt (Nat.min n dLen), H)
        | _ => none
      | none => none
    | none => none
  | _, _, _ => none
def byteOfV : Value → Option UInt8
  | .int .u8 n => some (UInt8.ofNat n.toNat)
  | _ => none
def bytesA : List Value → ByteArray → Option ByteArray
  | [], acc => some acc
  | v :: vs, acc => match byteOfV v with
    | some b => bytesA vs (acc.push b)
    | none => none
def convertA (P : Program) (H : Mem) (src dst : TypeId) (x : Value) : Option (Value × Mem) :=
  match P.underlying src, P.underlying dst, x with
  | some (.slice e), some .string, .slice a len _ =>
    match P.underlying e, a with
    | some (.int .u8), some ⟨b, off, none⟩ => match readCells H b off len with
      | some cs => (bytesA cs .empty).map fun s => (.string s, H)
      | none => none
    | some (.int .u8), none => some (.string .empty, H)
    | some (.int .u8), some ⟨_, _, some 0⟩ => some (.string .empty, H)
    | _, _ => none
  | some .string, some (.slice e), .string s =>
    match P.underlying e, sizeA P e with
    | some (.int .u8), some 1 => newSlice H e (s.data.toList.map fun b => .int .u8 b.toNat) s.size s.size
    | _, _ => none
  | some (.slice _), some (.slice e), .slice (some ⟨i, off, none⟩) l c =>
    match alive H i, P.underlying e with
    | some _, some (.int .u8) => pick2 (Nat.ble H.lk i && Nat.beq src dst) (some (.slice (some ⟨i, off, none⟩) l c, H)) none
    | _, _ => none
  | some (.pointer t), some .unsafePointer, .pointer (some ⟨i, 0, none⟩) =>
    match alive H i, sizeA P t with
    | some b, some n => pick2 (Nat.ble 1 n && Nat.ble 1 b.cells.length) (some (.pointer (some ⟨i, 0, none⟩), H)) none
    | _, _ => none
  | some .unsafePointer, some (.pointer u), .pointer (some ⟨i, 0, none⟩) =>
    match alive H i, sizeA P u with
    | some b, some _ => pick2 (b.fix && liesAt P P.depth b.elem (b.cells.length / P.cellsOf b.elem) 0 u 1) (some (.pointer (some ⟨i, 0, none⟩), H)) none
    | _, _ => none
  | _, _, _ => none
def operandsFree (ev : Operand → Value) (o : Op) : Bool := o.operands.toList.all fun x => addrFree (ev x)
/-- An integer, reckoned out. -/
def forced (n : Int) : Int :=
  match n with
  | .ofNat 0 => 0
  | .ofNat (m + 1) => .ofNat (m + 1)
  | .negSucc 0 => -1
  | .negSucc (m + 1) => .negSucc (m + 1)
def inI64 (n : Int) : Bool :=
  match n with
  | .ofNat m => Nat.blt m 9223372036854775808
  | .negSucc m => Nat.blt m 9223372036854775808
def ltI (a b : Int) : Bool :=
  match a, b with
  | .ofNat m, .ofNat n => Nat.ble (Nat.succ m) n
  | .ofNat _, .negSucc _ => false
  | .negSucc _, .ofNat _ => true
  | .negSucc m, .negSucc n => Nat.ble (Nat.succ n) m
def eqI (a b : Int) : Bool :=
  match a, b with
  | .ofNat m, .ofNat n => Nat.beq m n
  | .negSucc m, .negSucc n => Nat.beq m n
  | _, _ => false
def eqKind : IntKind → IntKind → Bool
  | .i64, .i64 => true
  | .u8, .u8 => true
  | .i32, .i32 => true
  | .u64, .u64 => true
  | _, _ => false
def fastInt (op : BinOp) (a b : Int) : Option Bool :=
  match op with
  | .eql => some (eqI a b)
  | .neq => some (!eqI a b)
  | .lss => some (ltI a b)
  | .leq => some (!ltI b a)
  | .gtr => some (ltI b a)
  | .geq => some (!ltI a b)
  | _ => none
def fastSum (op : BinOp) (k : IntKind) (a b : Int) : Option Int :=
  match k, op with
  | .i64, .add => pick2 (inI64 (Int.add a b)) (some (forced (Int.add a b))) none
  | .i64, .sub => pick2 (inI64 (Int.sub a b)) (some (forced (Int.sub a b))) none
  | _, _ => none
/-- The everyday operations on integers and bools, by a short road. -/
def fastA (op : BinOp) (x y : Value) : Option Value :=
  match x, y with
  | .int k a, .int k' b => pick2 (eqKind k k')
      (match fastInt op a b with
        | some t => some (.bool t)
        | none => match fastSum op k a b with
          | some n => some (.int k n)
          | none => none)
      none
  | _, _ => none
/-! ### Numbers of which not all is known: .func (.yield c) with something in it -/
/-- What is known of them: how some compare, what some come to. -/
class TokD where
  facts : List (BinOp × Value × Value × Bool)
  rews : List (Value × Value)
/-- A number of which nothing is known but its sort. -/
def tokVar (k : IntKind) (i : Nat) : Value := .func (.yield 0) ⟨[.int k (.ofNat i)]⟩ ⟨[]⟩
def tokBin (c : Nat) (k : IntKind) (x y : Value) : Value := .func (.yield c) ⟨[.int k 0, x, y]⟩ ⟨[]⟩
def tokConv (k : IntKind) (x : Value) : Value := .func (.yield 20) ⟨[.int k 0, x]⟩ ⟨[]⟩
def kindT : Value → Option IntKind
  | .int k _ => some k
  | .func (.yield _) ⟨.int k _ :: _⟩ ⟨[]⟩ => some k
  | _ => none
mutual
def eqT : Value → Value → Bool
  | .int k a, .int k' b => pick2 (eqKind k k') (eqI a b) false
  | .func (.yield c) x ⟨[]⟩, .func (.yield c') y ⟨[]⟩ => pick2 (Nat.beq c c') (eqTA x y) false
  | _, _ => false
def eqTA : Array Value → Array Value → Bool
  | ⟨l⟩, ⟨m⟩ => eqTL l m
def eqTL : List Value → List Value → Bool
  | [], [] => true
  | a :: l, b :: m => pick2 (eqT a b) (eqTL l m) false
  | _, _ => false
end
def binN : BinOp → Nat
  | .add => 1
  | .sub => 2
  | .mul => 3
  | .and => 4
  | .or => 5
  | .xor => 6
  | .andNot => 7
  | .shl => 8
  | .shr => 9
  | .quo => 10
  | .rem => 11
  | .eql => 12
  | .neq => 13
  | .lss => 14
  | .leq => 15
  | .gtr => 16
  | .geq => 17
def lookR : List (Value × Value) → Value → Value
  | [], v => v
  | q :: l, v => pick2 (eqT q.1 v) q.2 (lookR l v)
def lookF : List (BinOp × Value × Value × Bool) → BinOp → Value → Value → Option Bool
  | [], _, _, _ => none
  | q :: l, op, x, y => pick2 (Nat.beq (binN q.1) (binN op) && (eqT q.2.1 x && eqT q.2.2.1 y)) (some q.2.2.2) (lookF l op x y)
/-- The operation goes well, whatever the first number is. -/
def okBin (op : BinOp) (k k' : IntKind) (y : Value) : Bool :=
  match op with
  | .add => eqKind k k'
  | .sub => eqKind k k'
  | .mul => eqKind k k'
  | .and => eqKind k k'
  | .or => eqKind k k'
  | .xor => eqKind k k'
  | .andNot => eqKind k k'
  | .shl => match y with
    | .int _ (.ofNat _) => true
    | _ => false
  | .shr => match y with
    | .int _ (.ofNat _) => true
    | _ => false
  | .quo => match y with
    | .int _ (.ofNat (_ + 1)) => eqKind k k'
    | _ => false
  | .rem => match y with
    | .int _ (.ofNat (_ + 1)) => eqKind k k'
    | _ => false
  | _ => false
/-- What an operation on two numbers comes to. -/
def intRun (op : BinOp) (k : IntKind) (x : Int) (k' : IntKind) (y : Int) : Option (IntKind × Int) :=
  match op with
  | .add => if k = k' then some (k, k.wrap (x + y)) else none
  | .sub => if k = k' then some (k, k.wrap (x - y)) else none
  | .mul => if k = k' then some (k, k.wrap (x * y)) else none
  | .and => if k = k' then some (k, k.wrap (BitVec.ofInt k.bits x &&& BitVec.ofInt k.bits y).toNat) else none
  | .or => if k = k' then some (k, k.wrap (BitVec.ofInt k.bits x ||| BitVec.ofInt k.bits y).toNat) else none
  | .xor => if k = k' then some (k, k.wrap (BitVec.ofInt k.bits x ^^^ BitVec.ofInt k.bits y).toNat) else none
  | .andNot => if k = k' then some (k, k.wrap (BitVec.ofInt k.bits x &&& ~~~ BitVec.ofInt k.bits y).toNat) else none
  | .shl => if y < 0 then none else some (k, k.wrap (x * 2 ^ (min y.toNat k.bits)))
  | .shr => if y < 0 then none else some (k, x.fdiv (2 ^ (min y.toNat k.bits)))
  | .quo => if k = k' then (if y = 0 then none else some (k, k.wrap (x.tdiv y))) else none
  | .rem => if k = k' then (if y = 0 then none else some (k, x.tmod y)) else none
  | _ => none
/-! A number that is one thing in each of some cases, lane by lane. -/
def vecT (k : IntKind) (l : List Value) : Value := .func (.yield 30) ⟨.int k 0 :: l⟩ ⟨[]⟩
def lanesT : Value → Option (List Value)
  | .func (.yield c) ⟨_ :: l⟩ ⟨[]⟩ => pick2 (Nat.beq c 30) (some l) none
  | _ => none
def mapL (f : Value → Option Value) (l : List Value) : Option (List Value) := List.rec (motive := fun _ => Option (List Value)) (some []) (fun a _ go => match f a with
  | some b => match go with
    | some t => some (b :: t)
    | none => none
  | none => none) l
def zipL (f : Value → Value → Option Value) (l : List Value) : List Value → Option (List Value) := List.rec (motive := fun _ => List Value → Option (List Value)) (fun m => match m with
  | [] => some []
  | _ => none) (fun a _ go m => match m with
    | b :: m => match f a b with
      | some c => match go m with
        | some t => some (c :: t)
        | none => none
      | none => none
    | [] => none) l
def zipT (f : Value → Value → Option Value) (x y : Value) : Option (List Value) :=
  match lanesT x with
  | some l => match lanesT y with
    | some m => zipL f l m
    | none => mapL (fun a => f a y) l
  | none => match lanesT y with
    | some m => mapL (fun b => f x b) m
    | none => none
def laneI (op : BinOp) : Value → Value → Option Value
  | .int k m, .int k' n => match intRun op k m k' n with
    | some (k2, z) => some (.int k2 (forced z))
    | none => none
  | _, _ => none
def laneC (op : BinOp) : Value → Value → Option Value
  | .int k m, .int k' n => pick2 (eqKind k k') (match fastInt op m n with
    | some t => some (.bool t)
    | none => none) none
  | _, _ => none
def laneW (k : IntKind) : Value → Option Value
  | .int _ m => some (.int k (forced (k.wrap m)))
  | _ => none
def allT (v : Value) (l : List Value) : Bool := List.rec (motive := fun _ => Bool) true (fun a _ go => pick2 (eqT v a) go false) l
def vecR (k : IntKind) : List Value → Value
  | [] => vecT k []
  | v :: t => pick2 (allT v t) v (vecT k (v :: t))
def allB (b : Bool) (l : List Value) : Bool := List.rec (motive := fun _ => Bool) true (fun a _ go => match a with
  | .bool c => pick2 (pick2 b c (!c)) go false
  | _ => false) l
def laneB : List Value → Option Bool
  | .bool b :: t => pick2 (allB b t) (some b) none
  | _ => none
/-- How two numbers compare. -/
def cmpT [TokD] (op : BinOp) (x y : Value) : Option Bool :=
  match x, y with
  | .int k a, .int k' b => pick2 (eqKind k k') (fastInt op a b) none
  | x, y => match kindT x, kindT y with
    | some k, some k' => pick2 (eqKind k k' && Nat.blt 11 (binN op)) (pick2 (eqT x y) (fastInt op 0 0) (match zipT (laneC op) x y with
        | some l => laneB l
        | none => lookF TokD.facts op x y)) none
    | _, _ => none
def binT [TokD] (op : BinOp) (x y : Value) : Option Value :=
  match kindT x, kindT y with
  | some k, some k' => match zipT (laneI op) x y with
    | some l => some (vecR k l)
    | none => pick2 (okBin op k k' y) (some (lookR TokD.rews (tokBin (binN op) k x y)))
      (match cmpT op x y with
        | some b => some (.bool b)
        | none => none)
  | _, _ => none
def convT [TokD] (k : IntKind) (x : Value) : Value :=
  match lanesT x with
  | some l => match mapL (laneW k) l with
    | some m => vecR k m
    | none => lookR TokD.rews (tokConv k x)
  | none => lookR TokD.rews (tokConv k x)
def isIntT (P : Program) (t : TypeId) : Bool :=
  match P.underlying t, sizeA P t with
  | some (.int _), some 1 => true
  | _, _ => false
/-- Two structs of two numbers each. -/
def pairT [TokD] (P : Program) (t : TypeId) (x y : Value) : Option Bool :=
  match P.underlying t, x, y with
  | some (.struct fs), .agg ⟨[a, b]⟩, .agg ⟨[c, d]⟩ => match fs.toList with
    | [f, g] => pick2 (isIntT P f.type && isIntT P g.type && (f.name != "_") && (g.name != "_") && Nat.beq f.offset 0 && Nat.beq g.offset 1 && !P.stoodInHeld t && !P.eqGuardType P.depth t)
        (match cmpT .eql a c with
          | some true => cmpT .eql b d
          | some false => some false
          | none => none) none
    | _ => none
  | _, _, _ => none
def orcA [TokD] (P : Program) (ev : Operand → Value) (o : Oper) : Option Value :=
  match o.op with
  | .binOp op t x y _ => match binT op (ev x) (ev y) with
    | some v => some v
    | none => match op, pairT P t (ev x) (ev y) with
      | .eql, some b => some (.bool b)
      | .neq, some b => some (.bool (!b))
      | _, _ => none
  | .convert s d x => match P.underlying s, P.underlying d, kindT (ev x) with
    | some (.int _), some (.int k), some _ => some (convT k (ev x))
    | _, _, _ => none
  | _ => none
variable [TokD]
def pureA (P : Program) (ev : Operand → Value) (o : Oper) : Option Value :=
  match o.op with
  | .select _ _ => none
  | _ => if operandsFree ev o.op then
      match semPure P (execOp ev o) with
      | some (.value v) => if addrFree v then some v else none
      | _ => none
    else orcA P ev o
/-- A slice, a pointer against nil. -/
def nilA (P : Program) (op : BinOp) (t : TypeId) (x y : Value) : Option Value :=
  match P.underlying t, x, y with
  | some .bool, .bool a, .bool b => match op with
    | .eql => some (.bool (pick2 a b (!b)))
    | .neq => some (.bool (pick2 a (!b) b))
    | _ => none
  | some (.slice _), .slice (some _) _ _, .slice none _ _ => match op with
    | .eql => some (.bool false)
    | .neq => some (.bool true)
    | _ => none
  | some (.pointer _), .pointer (some _), .pointer none => match op with
    | .eql => some (.bool false)
    | .neq => some (.bool true)
    | _ => none
  | some (.pointer e), .pointer (some ⟨i, a, none⟩), .pointer (some ⟨j, b, none⟩) => pick2 (Nat.beq i j && Nat.beq a b && (sizeA P e).isSome) (match op with
    | .eql => some (.bool true)
    | .neq => some (.bool false)
    | _ => none) none
  | some (.pointer _), .pointer none, .pointer none => match op with
    | .eql => some (.bool true)
    | .neq => some (.bool false)
    | _ => none
  | _, _, _ => none
def partsA (ev : Operand → Value) (ps : Array (Nat × Operand)) : List (Nat × Value) := ps.toList.map fun q => (q.1, ev q.2)
def withMem (H : Mem) (v : Option Value) : Option (Value × Mem) := Option.rec (motive := fun _ => Option (Value × Mem)) none (fun v => some (v, H)) v
def orElse (x y : Option Value) : Option Value := Option.rec (motive := fun _ => Option Value) y (fun v => some v) x
def opPick (c a b : Value) (H : Mem) : Option (Value × Mem) :=
  match c with
  | .bool t => some (pick2 t a b, H)
  | _ => none
def opBin (P : Program) (ev : Operand → Value) (o : Oper) (op : BinOp) (t : TypeId) (x y : Value) (H : Mem) : Option (Value × Mem) :=
  withMem H (orElse (fastA op x y) (orElse (nilA P op t x y) (pureA P ev o)))
def opAlloc (P : Program) (t : TypeId) (H : Mem) : Option (Value × Mem) :=
  match zeroA P t with
  | some z => newPtr H t z.cells.toList
  | none => none
def opBox (P : Program) (t : TypeId) (x : Value) (H : Mem) : Option (Value × Mem) :=
  match sizeA P t with
  | some _ => newPtr H t x.cells.toList
  | none => none
def opStore (P : Program) (t : TypeId) (a x : Value) (H : Mem) : Option (Value × Mem) :=
  match storeA P H t a x with
  | some H' => some (undef, H')
  | none => none
def opNilCheck (x : Value) (H : Mem) : Option (Value × Mem) :=
  match x with
  | .pointer (some a) => some (.pointer (some a), H)
  | .func (.func f) a b => some (.func (.func f) a b, H)
  | .func (.yield i) ⟨[]⟩ ⟨[]⟩ => some (.func (.yield i) ⟨[]⟩ ⟨[]⟩, H)
  | _ => none
def opExtract (x : Value) (k : Nat) (H : Mem) : Option (Value × Mem) :=
  match x with
  | .tuple vs => withMem H (vs.toList[k]?)
  | _ => none
def indexStr (P : Program) (t : TypeId) (x ix : Value) : Option Value :=
  match P.underlying t, x, ix with
  | some .string, .string s, .int _ (.ofNat i) => match nthU i s.data.toList with
    | some b => some (.int .u8 (.ofNat b.toNat))
    | none => none
  | _, _, _ => none
def isArrT (P : Program) (t : TypeId) : Bool :=
  match P.underlying t with
  | some (.array _ _) => true
  | _ => false
/-- a[lo:hi] of an array that a pointer leads to. -/
def arrSlice (P : Program) (H : Mem) (t : TypeId) (x : Value) (lo hi : Option Value) : Option Value :=
  match P.underlying t, x with
  | some (.array n e), .pointer (some ⟨b, off, none⟩) =>
    match (match hi with | some v => boundA v n | none => some n) with
    | some h => match (match lo with | some v => boundA v h | none => some 0) with
      | some l => match alive H b, sizeA P e with
        | some k, some s => pick2 k.fix (some (.slice (some ⟨b, pick2 (Nat.beq n l) off (Nat.add off (Nat.mul l s)), none⟩) (h - l) (n - l))) none
        | _, _ => none
      | none => none
    | none => none
  | _, _ => none
def opSlice (P : Program) (ev : Operand → Value) (o : Oper) (t : TypeId) (x : Value) (lo hi : Option Value) (H : Mem) : Option (Value × Mem) :=
  pick2 (isArrT P t) (withMem H (arrSlice P H t x lo hi)) (withMem H (orElse (sliceA P t x lo hi) (pureA P ev o)))
def opIndex (P : Program) (ev : Operand → Value) (o : Oper) (t : TypeId) (x ix : Value) (H : Mem) : Option (Value × Mem) :=
  withMem H (orElse (indexStr P t x ix) (orElse (indexVA P t x ix) (pureA P ev o)))
/-- int(x) of a byte. -/
def widenA (P : Program) (d : TypeId) (x : Value) : Option Value :=
  match P.underlying d, x with
  | some (.int .i64), .int .u8 (.ofNat n) => pick2 (Nat.ble n 255) (some (.int .i64 (.ofNat n))) none
  | some (.int .i64), .int .i64 n => pick2 (inI64 n) (some (.int .i64 n)) none
  | _, _ => none
def opConvert (P : Program) (ev : Operand → Value) (o : Oper) (s d : TypeId) (x : Value) (H : Mem) : Option (Value × Mem) :=
  match orElse (match P.underlying s with | some _ => widenA P d x | none => none) (pureA P ev o) with
  | some v => some (v, H)
  | none => convertA P H s d x
def lenOfA (P : Program) (t : TypeId) (x : Value) : Option Value :=
  match P.underlying t, x with
  | some (.slice _), .slice _ n _ => some (goInt n)
  | some .string, .string s => some (goInt s.size)
  | _, _ => none
def opLen (P : Program) (ev : Operand → Value) (o : Oper) (args : Array Operand) (ats : Array TypeId) (H : Mem) : Option (Value × Mem) :=
  match args[0]?, ats[0]? with
  | some x, some t => withMem H (orElse (lenOfA P t (ev x)) (pureA P ev o))
  | _, _ => none
def opAppend (P : Program) (ev : Operand → Value) (args : Array Operand) (ats : Array TypeId) (H : Mem) : Option (Value × Mem) :=
  match args[0]?, args[1]?, ats[0]?, ats[1]? with
  | some s, some x, some st, some xt => appendA P H st xt (ev s) (ev x)
  | _, _, _, _ => none
def opCopy (P : Program) (ev : Operand → Value) (args : Array Operand) (ats : Array TypeId) (H : Mem) : Option (Value × Mem) :=
  match args[0]?, args[1]?, ats[0]? with
  | some d, some x, some dt => copyA P H dt (ev d) (ev x)
  | _, _, _ => none
abbrev CallF := FuncId → List Value → Mem → Option (Value × Mem)
/-- In the place of a function's number: a loop's own function. -/
def yieldId (i : Nat) : FuncId := Nat.add 8589934592 i
/-- A call of a Go function, or of a loop's own. -/
def opCall (P : Program) (call : CallF) (fv : Value) (args : List Value) (H : Mem) : Option (Value × Mem) :=
  match fv with
  | .func (.func id) first captured => match P.funcs[id]? with
    | some fn => pick2 (fn.body.isSome && !Nat.ble 8589934592 id) (call id (first.toList ++ (args ++ captured.toList)) H) none
    | none => none
  | .func (.yield i) ⟨[]⟩ ⟨[]⟩ => pick2 (Nat.blt i 4294967296) (call (yieldId i) args H) none
  | _ => none
/-- A function without a body that hands back its one argument. -/
def isSame (P : Program) (fv : Value) : Bool :=
  match fv with
  | .func (.func id) ⟨[]⟩ ⟨[]⟩ => match P.funcs[id]? with
    | some fn => pick2 fn.body.isSome false (fn.name == "internal/abi.NoEscape" && fn.origin == "")
    | none => false
  | _ => false
/-- A call of a function without a body. -/
def opExt (P : Program) (ev : Operand → Value) (o : Oper) (fv : Value) (args : List Value) (H : Mem) : Option (Value × Mem) :=
  match args with
  | [x] => pick2 (isSame P fv) (some (x, H)) (withMem H (pureA P ev o))
  | _ => withMem H (pureA P ev o)
/-- How much room a slice has, where that is known. -/
def capA (P : Program) (H : Mem) (t : TypeId) (x : Value) : Option Value :=
  match P.underlying t, x with
  | some (.slice _), .slice (some ⟨i, _, none⟩) _ c => match alive H i with
    | some b => pick2 b.fix (some (goInt c)) none
    | none => none
  | some (.slice _), .slice none _ c => some (goInt c)
  | _, _ => none
def opCap (P : Program) (ev : Operand → Value) (args : Array Operand) (ats : Array TypeId) (H : Mem) : Option (Value × Mem) :=
  match args[0]?, ats[0]? with
  | some x, some t => withMem H (capA P H t (ev x))
  | _, _ => none
/-- Where a slice's elements begin. -/
def sliceDataA : Value → Option Value
  | .slice (some a) _ c => pick2 (Nat.beq c 0) none (some (.pointer (some a)))
  | .slice none _ _ => some (.pointer none)
  | _ => none
def opSliceData (ev : Operand → Value) (args : Array Operand) (H : Mem) : Option (Value × Mem) :=
  match args.toList with
  | [x] => withMem H (sliceDataA (ev x))
  | _ => none
def isByteV : Value → Bool
  | .int .u8 (.ofNat n) => Nat.ble n 255
  | _ => false
/-- The bytes at the head of a row as a text; the row goes. -/
def ustrA (P : Program) (H : Mem) (pt : TypeId) (p n : Value) : Option (Value × Mem) :=
  match p, n, P.underlying pt with
  | .pointer _, .int .i64 (.ofNat 0), _ => some (.string .empty, H)
  | .pointer (some ⟨i, 0, none⟩), .int .i64 (.ofNat (m + 1)), some (.pointer e) =>
    match alive H i, readCells H i 0 (m + 1) with
    | some b, some cs => pick2 ((b.elem == e) && Nat.beq (P.cellsOf e) 1 && Nat.ble (m + 1) 2000000 && cs.all isByteV)
        (match bytesA cs .empty, kill H i with
          | some s, some H' => some (.string s, H')
          | _, _ => none) none
    | _, _ => none
  | _, _, _ => none
def opUStr (P : Program) (ev : Operand → Value) (args : Array Operand) (ats : Array TypeId) (H : Mem) : Option (Value × Mem) :=
  match args.toList, ats.toList with
  | [p, n], [pt, _] => ustrA P H pt (ev p) (ev n)
  | _, _ => none
def opBuiltin (P : Program) (ev : Operand → Value) (o : Oper) (b : Builtin) (args : Array Operand) (ats : Array TypeId) (H : Mem) : Option (Value × Mem) :=
  match b with
  | .len => opLen P ev o args ats H
  | .append => opAppend P ev args ats H
  | .copy => opCopy P ev args ats H
  | .cap => opCap P ev args ats H
  | .unsafeSliceData => opSliceData ev args H
  | .unsafeString => opUStr P ev args ats H
  | _ => withMem H (pureA P ev o)
/-- The function that a method of a value is, and its receiver. -/
def invokeA (P : Program) (fv : Value) (name : String) : Option (FuncId × Value) :=
  match fv with
  | .iface t v => pick2 (addrFree v) (match semPure P (method (Nat.add P.types.size Made.depth) t v name) with
      | some q => pick2 (addrFree q.2) (some q) none
      | none => none) none
  | _ => none
def opCalls (P : Program) (call : CallF) (ev : Operand → Value) (o : Oper) (c : Call) (H : Mem) : Option (Value × Mem) :=
  match c.callee with
  | .value f => match opCall P call (ev f) (c.args.toList.map ev) H with
    | some r => some r
    | none => opExt P ev o (ev f) (c.args.toList.map ev) H
  | .builtin b => opBuiltin P ev o b c.args c.argTypes H
  | .invoke r m => match invokeA P (ev r) m with
    | some q => opCall P call (.func (.func q.1) ⟨[]⟩ ⟨[]⟩) (q.2 :: c.args.toList.map ev) H
    | none => none
/-! ### Maps: rows that are not live, but fixed; keys and values by turns -/
def isMapB (b : Blk) : Bool := pick2 b.live false b.fix
/-- It is no map, but an iterator: what stands behind its mark tells which. -/
def isIterL : List Value → Bool
  | .chan none :: _ => true
  | _ => false
def mapOf (H : Mem) (i : Nat) : Option Blk :=
  match H.get i with
  | some b => pick2 (isMapB b) (pick2 (isIterL b.cells) none (some b)) none
  | none => none
def iterOf (H : Mem) (i : Nat) : Option (Blk × List Value) :=
  match H.get i with
  | some b => pick2 (isMapB b) (match b.cells with
    | .chan none :: l => some (b, l)
    | _ => none) none
  | none => none
def eqBytes : List UInt8 → List UInt8 → Bool
  | [], [] => true
  | a :: l, b :: m => pick2 (Nat.beq a.toNat b.toNat) (eqBytes l m) false
  | _, _ => false
/-- Are two keys the same? -/
def sameA : TypeDesc → Value → Value → Option Bool
  | .int d, .int k a, .int k' b => pick2 (decide (k = d) && decide (k = k')) (some (eqI a b)) none
  | .string, .string a, .string b => some (eqBytes a.data.toList b.data.toList)
  | _, _, _ => none
/-- Numbers and texts may be keys here. -/
def keyDesc : TypeDesc → Bool
  | .int _ => true
  | .string => true
  | _ => false
def findA (d : TypeDesc) (k : Value) : List Value → Nat → Option (Option (Nat × Value))
  | [], _ => some none
  | [_], _ => none
  | q :: v :: l, i => match sameA d k q with
    | some true => some (some (i, v))
    | some false => findA d k l (i + 1)
    | none => none
def opMakeMap (P : Program) (t : TypeId) (r : Option Value) (H : Mem) : Option (Value × Mem) :=
  match P.underlying t, r with
  | some (.map _ _), none => match H.push ⟨[], t, false, true⟩ with
    | some H' => some (.map (some H.size), H')
    | none => none
  | some (.map _ _), some (.int _ _) => match H.push ⟨[], t, false, true⟩ with
    | some H' => some (.map (some H.size), H')
    | none => none
  | _, _ => none
/-- What a map holds. -/
def entriesA (H : Mem) : Value → Option (List Value)
  | .map none => some []
  | .map (some i) => match mapOf H i with
    | some b => some b.cells
    | none => none
  | _ => none
def lookA (P : Program) (H : Mem) (t : TypeId) (x k : Value) (ok : Bool) : Option Value :=
  match P.underlying t with
  | some (.map kt e) => match P.underlying kt, zeroA P e, entriesA H x with
    | some d, some z, some cs => pick2 (keyDesc d) (match findA d k cs 0 with
      | some (some (_, v)) => some (pick2 ok (.tuple #[v, .bool true]) v)
      | some none => some (pick2 ok (.tuple #[z, .bool false]) z)
      | none => none) none
    | _, _, _ => none
  | _ => none
def opMapSet (P : Program) (t : TypeId) (m k x : Value) (H : Mem) : Option (Value × Mem) :=
  match P.underlying t, m with
  | some (.map kt _), .map (some i) => match P.underlying kt, mapOf H i with
    | some d, some b => pick2 (keyDesc d && addrFree k) (match findA d k b.cells 0 with
      | some (some (j, _)) => match H.set i { b with cells := b.cells.set (2 * j + 1) x } with
        | some H' => some (undef, H')
        | none => none
      | some none => match H.set i { b with cells := b.cells ++ [k, x] } with
        | some H' => some (undef, H')
        | none => none
      | none => none) none
    | _, _ => none
  | _, _ => none
def pushIter (H : Mem) (l : List Value) : Option (Value × Mem) :=
  match H.push ⟨.chan none :: l, 0, false, true⟩ with
  | some H' => some (.pointer (some ⟨H.size, 0, none⟩), H')
  | none => none
/-- Iterators: over a text, over a map of at most one entry. -/
def opRange (P : Program) (t : TypeId) (x : Value) (H : Mem) : Option (Value × Mem) :=
  match P.underlying t, x with
  | some .string, .string s => pushIter H [.string s, .int .i64 (.ofNat 0)]
  | some (.map _ _), .map (some i) => match mapOf H i with
    | some b => match b.cells with
      | [] => pushIter H [.map (some i), .int .i64 (.ofNat 0), .bool false]
      | [_, _] => pushIter H [.map (some i), .int .i64 (.ofNat 1), .bool false]
      | _ => none
    | none => none
  | _, _ => none
def setIter (H : Mem) (i : Nat) (b : Blk) (l : List Value) (v : Value) : Option (Value × Mem) :=
  match H.set i { b with cells := .chan none :: l } with
  | some H' => some (v, H')
  | none => none
def opNext (it : Value) (isStr : Bool) (H : Mem) : Option (Value × Mem) :=
  match it with
  | .pointer (some ⟨i, 0, none⟩) => match iterOf H i, isStr with
    | some (b, [.string s, .int .i64 (.ofNat p)]), true => match s.data.toList[p]? with
      | some c => pick2 (Nat.blt c.toNat 128) (setIter H i b [.string s, .int .i64 (.ofNat (Nat.add p 1))] (.tuple #[.bool true, .int .i64 (.ofNat p), .int .i32 (.ofNat c.toNat)])) none
      | none => some (.tuple #[.bool false], H)
    | some (b, [.map (some m), .int .i64 (.ofNat n), .bool d]), false => match mapOf H m with
      | some mb => match n, d, mb.cells with
        | 0, false, [] => some (.tuple #[.bool false], H)
        | 1, false, [k, v] => setIter H i b [.map (some m), .int .i64 (.ofNat 1), .bool true] (.tuple #[.bool true, k, v])
        | 1, true, [_, _] => some (.tuple #[.bool false], H)
        | _, _, _ => none
      | none => none
    | _, _ => none
  | _ => none
def opEntry (it : Value) (H : Mem) : Option (Value × Mem) :=
  match it with
  | .pointer (some ⟨i, 0, none⟩) => match iterOf H i with
    | some (_, [.map (some m), .int .i64 (.ofNat 1), .bool true]) => match mapOf H m with
      | some mb => match mb.cells with
        | [k, v] => some (.tuple #[k, v], H)
        | _ => none
      | none => none
    | _ => none
  | _ => none
/-- s[:n:n] of n elements, all that are known: no room is left. -/
def slice3A (P : Program) (t : TypeId) (x : Value) (hi mx : Value) (H : Mem) : Option (Value × Mem) :=
  match P.underlying t, x, hi, mx with
  | some (.slice e), .slice (some ⟨i, 0, none⟩) len cap, .int _ (.ofNat h), .int _ (.ofNat m) =>
    match alive H i, sizeA P e with
    | some b, some s => pick2 (Nat.beq h len && Nat.beq m len && Nat.beq cap len && Nat.ble 1 len && Nat.beq b.cells.length (Nat.mul len s) && Nat.beq b.elem e)
        (match kill H i with
          | some H1 => match H1.push ⟨b.cells, b.elem, true, false⟩ with
            | some H2 => some (.slice (some ⟨H1.size, 0, none⟩) len len, H2)
            | none => none
          | none => none) none
    | _, _ => none
  | some (.slice e), .slice none 0 0, .int _ (.ofNat 0), .int _ (.ofNat 0) => match sizeA P e with
    | some _ => some (.slice none 0 0, H)
    | none => none
  | _, _, _, _ => none
/-- The other operations. -/
def opRest (P : Program) (ev : Operand → Value) (o : Oper) (H : Mem) : Option (Value × Mem) :=
  match o.op with
  | .range t x => opRange P t (ev x) H
  | .next it s => opNext (ev it) s H
  | .entry it => opEntry (ev it) H
  | .slice t x none (some hi) (some m) => slice3A P t (ev x) (ev hi) (ev m) H
  | _ => withMem H (pureA P ev o)
/-- What an operation does: the value in its slot, the memory behind it. -/
def opA (P : Program) (call : CallF) (ev : Operand → Value) (o : Oper) (H : Mem) : Option (Value × Mem) :=
  match o.op with
  | .move x => some (ev x, H)
  | .assign x => some (ev x, H)
  | .pick c a b => opPick (ev c) (ev a) (ev b) H
  | .binOp op t x y _ => opBin P ev o op t (ev x) (ev y) H
  | .alloc t => opAlloc P t H
  | .box t x => opBox P t (ev x) H
  | .build t ps => withMem H (buildA P t (partsA ev ps))
  | .buildSlice t len ps => buildSliceA P H t len (partsA ev ps)
  | .load t a => withMem H (loadA P H t (ev a))
  | .store t a x => opStore P t (ev a) (ev x) H
  | .nilCheck x => opNilCheck (ev x) H
  | .fieldAddr s x f => withMem H (fieldA P s (ev x) f)
  | .indexAddr t x ix => withMem H (idxA P t (ev x) (ev ix))
  | .extract x k => opExtract (ev x) k H
  | .makeSlice t l c => makeSliceA P H t (ev l) (ev c)
  | .makeFunc fn first captured => pick2 (notYield fn) (some (.func fn (first.map ev) (captured.map ev), H)) none
  | .slice t x lo hi none => opSlice P ev o t (ev x) (lo.map ev) (hi.map ev) H
  | .field t x f => withMem H (fieldVA P t (ev x) f)
  | .index t x ix => opIndex P ev o t (ev x) (ev ix) H
  | .convert s d x => opConvert P ev o s d (ev x) H
  | .call c => opCalls P call ev o c H
  | .makeMap t r => opMakeMap P t (r.map ev) H
  | .lookup t x k ok => withMem H (lookA P H t (ev x) (ev k) ok)
  | .mapUpdate t m k x => opMapSet P t (ev m) (ev k) (ev x) H
  | .insert t m k x => opMapSet P t (ev m) (ev k) (ev x) H
  | _ => opRest P ev o H
/-! ### Floats of which it is known alone that they are none: .chan (some 1); complex numbers with such parts; numbers of which nothing is known -/
def flOf : Value → Option (Option Nat)
  | .float .f64 n => some (some n)
  | .chan (some 1) => some none
  | _ => none
def flV : Option Nat → Value
  | some n => .float .f64 n
  | none => .chan (some 1)
def fop (op : BinOp) (a b : Option Nat) : Option Nat :=
  match a, b with
  | some x, some y => match op with
    | .add => Ieee.double.add x y
    | .sub => Ieee.double.sub x y
    | .mul => Ieee.double.mul x y
    | _ => none
  | _, _ => none
def nanBin (op : BinOp) (x y : Value) : Option Value :=
  match flOf x, flOf y with
  | some a, some b => match op with
    | .add => some (flV (fop .add a b))
    | .sub => some (flV (fop .sub a b))
    | .mul => some (flV (fop .mul a b))
    | .neq => match a, b with
      | some _, some _ => none
      | _, _ => some (.bool true)
    | _ => none
  | _, _ => none
/-- Two numbers as one, and back. -/
def twoN (a b : Nat) : Nat := 2 ^ a * (2 * b + 1)
def unTwo : Nat → Nat → Nat × Nat
  | 0, _ => (0, 0)
  | f + 1, n => pick2 (Nat.beq (n % 2) 0) ((unTwo f (n / 2)).1 + 1, (unTwo f (n / 2)).2) (0, n / 2)
def codeN : Option Nat → Nat
  | none => 0
  | some n => n + 1
def uncodeN : Nat → Option Nat
  | 0 => none
  | n + 1 => some n
def cxOf : Value → Option (Option Nat × Option Nat)
  | .complex .f64 a b => some (some a, some b)
  | .chan (some (k + 2)) => some (uncodeN (unTwo k k).1, uncodeN (unTwo k k).2)
  | _ => none
def cxV (a b : Option Nat) : Value :=
  match a, b with
  | some a, some b => .complex .f64 a b
  | a, b => .chan (some (twoN (codeN a) (codeN b) + 2))
def isBits (P : Program) (fv : Value) : Bool :=
  match fv with
  | .func (.func id) ⟨[]⟩ ⟨[]⟩ => match P.funcs[id]? with
    | some fn => pick2 fn.body.isSome false (fn.name == "math.Float64bits" && fn.origin == "")
    | none => false
  | _ => false
/-- What an operation yields of which too little is known for opA. -/
def nanA (P : Program) (ev : Operand → Value) (o : Oper) : Option Value :=
  match o.op with
  | .binOp op _ x y _ => nanBin op (ev x) (ev y)
  | .call c => match c.callee, c.args.toList.map ev with
    | .builtin .complex, [x, y] => match flOf x, flOf y with
      | some a, some b => some (cxV a b)
      | _, _ => none
    | .builtin .real, [x] => match cxOf x with
      | some q => some (flV q.1)
      | none => none
    | .builtin .imag, [x] => match cxOf x with
      | some q => some (flV q.2)
      | none => none
    | .value f, [.chan (some 1)] => pick2 (isBits P (ev f)) (some (.chan none)) none
    | _, _ => none
  | _ => none
def operandOk (G : Nat) : Operand → Bool
  | .global g => Nat.blt g G
  | .const v => addrFree v
  | _ => true
def isSliceT (P : Program) (t : TypeId) : Bool :=
  match P.underlying t with
  | some (.slice _) => true
  | _ => false
def isPtrT (P : Program) (t : TypeId) : Bool :=
  match P.underlying t with
  | some (.pointer _) => true
  | some .unsafePointer => true
  | _ => false
/-- Does the operation leave memory alone? (one that does may be taken before others.) -/
def quiet (P : Program) : Op → Bool
  | .alloc _ => false
  | .box _ _ => false
  | .buildSlice _ _ _ => false
  | .store _ _ _ => false
  | .makeSlice _ _ _ => false
  | .convert s d _ => !isSliceT P s && !isSliceT P d && !isPtrT P s
  | .slice t _ _ _ none => !isArrT P t
  | .slice _ _ _ _ (some _) => false
  | .range _ _ => false
  | .next _ _ => false
  | .entry _ => false
  | .call { callee := .builtin .len, .. } => true
  | .call { callee := .builtin .cap, .. } => true
  | .call { callee := .builtin .min, .. } => true
  | .call { callee := .builtin .max, .. } => true
  | .call _ => false
  | .makeMap _ _ => false
  | .mapUpdate _ _ _ _ => false
  | .insert _ _ _ _ => false
  | _ => true
inductive Leave where
  | normal
  | exit (id : Nat)
  | ret
  | goto (l : Nat)
/-- What the operation of this number has yielded. -/
def yieldedA (ops : List Oper) (f : Fr) (j : Nat) : Option Bool :=
  match ops[j]? with
  | some o => match o.dst with
    | some d => match f.get d with
      | .bool b => some b
      | _ => none
    | none => none
  | none => none
def wantedA (o : Oper) (ops : List Oper) (f : Fr) : Bool :=
  match o.guard with
  | none => true
  | some (j, want) => match yieldedA ops f j with
    | some b => pick2 b want (!want)
    | none => false
def putA (f : Fr) (dst : Option Tmp) (r : Option (Value × Mem)) : Option (Fr × Mem) :=
  match r with
  | some (v, H) => match f.put dst v with
    | some f' => some (f', H)
    | none => none
  | none => none
def stepA (P : Program) (call : CallF) (ops : List Oper) (o : Oper) (f : Fr) (H : Mem) : Option (Fr × Mem) :=
  pick2 (wantedA o ops f) (putA f o.dst (opA P call f.eval o H)) (putA f o.dst (some (undef, H)))
def stepN (P : Program) (call : CallF) (ops : List Oper) (o : Oper) (f : Fr) (H : Mem) : Option (Fr × Mem) :=
  match stepA P call ops o f H with
  | some r => some r
  | none => pick2 (wantedA o ops f) (putA f o.dst (withMem H (nanA P f.eval o))) none
def opsA (P : Program) (call : CallF) (ops : List Oper) (l : List Oper) : Fr → Mem → Option (Fr × Mem) :=
  List.rec (motive := fun _ => Fr → Mem → Option (Fr × Mem)) (fun f H => some (f, H))
    (fun o _ go f H => Option.rec (motive := fun _ => Option (Fr × Mem)) none (fun r => go r.1 r.2) (stepN P call ops o f H)) l
/-- All operands may be evaluated: no package-level variable from number G on, no constant with memory. -/
def okOps (G : Nat) (ops : List Oper) : Bool := ops.all fun o => o.op.operands.toList.all (operandOk G)
/-! ### Regions whose order is drawn: a plan, made once a region -/
def bit (m i : Nat) : Bool := Nat.beq (Nat.land (Nat.shiftRight m i) 1) 1
def addBit (m i : Nat) : Nat := Nat.lor m (Nat.shiftLeft 1 i)
def isLoad : Op → Bool
  | .load _ _ => true
  | .call { callee := .builtin .cap, .. } => true
  | .lookup _ _ _ _ => true
  | _ => false
/-- An operation, its number, those that it waits for, those that come ahead of it, the slots that it looks at, whether it is quiet, whether it loads. -/
structure PO where
  o : Oper
  i : Nat
  pre : Nat
  anc : Nat
  looks : Nat
  q : Bool
  ld : Bool
  mkr : Bool
def preMask (o : Oper) : Nat := o.after.toList.foldr (fun e m => pick2 (Region.binds .any e) (addBit m e.on) m) 0
def looksMask (ops : Array Oper) (o : Oper) : Nat := (o.looksAt ops).foldr (fun d m => addBit m d) 0
/-- All that come ahead of one that waits for 'pre', out of those of the earlier ones (the last first). -/
def ancMask (pre : Nat) : List PO → Nat
  | [] => pre
  | p :: l => pick2 (bit pre p.i) (Nat.lor p.anc (ancMask pre l)) (ancMask pre l)
/-- It makes a row out of its operands alone, whatever there is. -/
def makes (_P : Program) (o : Oper) : Bool :=
  match o.op, o.guard, o.dst with
  | .alloc _, none, some _ => true
  | .buildSlice _ _ _, none, some _ => true
  | .makeSlice _ _ _, none, some _ => true
  | _, _, _ => false
/-- The row that it makes: its type, its cells; a pointer to it, or a slice so long, with so much room. -/
def madeA (P : Program) (ev : Operand → Value) (o : Oper) : Option (TypeId × List Value × Option (Nat × Nat)) :=
  match o.op with
  | .alloc t => match zeroA P t with
    | some z => some (t, z.cells.toList, none)
    | none => none
  | .buildSlice t len ps => match P.underlying t with
    | some (.slice e) => match sizeA P e, zerosA P e len with
      | some s, some z => if len * s > 2 ^ 24 then none else
        match fillA (fun i => some (i * s, s)) z (partsA ev ps) with
        | some cs => some (e, cs.toList, some (len, len))
        | none => none
      | _, _ => none
    | _ => none
  | .makeSlice t len cap => match P.underlying t, ev len, ev cap with
    | some (.slice e), .int _ l, .int _ c => match P.info? e, zerosA P e c.toNat with
      | some inf, some z => if 0 ≤ l ∧ l ≤ c ∧ c ≤ 2000000 ∧ inf.bytes ≤ 2000000 then some (e, z.toList, some (l.toNat, c.toNat)) else none
      | _, _ => none
    | _, _, _ => none
  | _ => none
def madeV : Option (Nat × Nat) → Nat → Value
  | none, n => .pointer (some ⟨n, 0, none⟩)
  | some q, n => .slice (some ⟨n, 0, none⟩) q.1 q.2
/-- The region's operations, the last first. -/
def posRev (P : Program) (ops : Array Oper) : List Oper → Nat → List PO → List PO
  | [], _, acc => acc
  | o :: l, i, acc => posRev P ops l (i + 1) (⟨o, i, preMask o, ancMask (preMask o) acc, looksMask ops o, quiet P o.op, isLoad o.op, makes P o⟩ :: acc)
def readyM (L : Nat) (p : PO) : Bool := pick2 (bit L p.i) false (Nat.beq (Nat.land p.pre L) p.pre)
def apartM (x y : PO) : Bool :=
  match x.o.dst, y.o.dst with
  | some d, some e => !bit y.looks d && !Nat.beq d e && !bit x.looks e
  | some d, none => !bit y.looks d
  | none, some e => !bit x.looks e
  | none, none => true
def freeM (pos : List PO) (L : Nat) (p : PO) : Bool := pos.all fun r => Nat.beq r.i p.i || bit L r.i || bit r.pre p.i || apartM p r
/-- All loads that are listed come ahead of p. -/
def loadsM (pos : List PO) (L : Nat) (p : PO) : Bool := pos.all fun r => !r.ld || !bit L r.i || bit p.anc r.i
/-- The next one of those that are ready, and those that may wait: they make rows. -/
def chooseM (l : List PO) : Option (PO × List PO) :=
  match l.filter (fun p => !p.mkr) with
  | [p] => some (p, l.filter fun p => p.mkr)
  | [] => match l with
    | p :: ms => some (p, ms)
    | [] => none
  | _ => none
/-- They may wait until p is done: nothing that comes behind one of them comes ahead of p. -/
def delayM (pos : List PO) (p : PO) (ms : List PO) : Bool :=
  ms.all fun m => apartM m p && (pos.all fun r => !bit r.pre m.i || bit r.anc p.i) && ms.all fun m' => Nat.beq m.i m'.i || apartM m m'
/-- The order in which the evaluator takes a region's operations; of each whether it may write no row that is there. -/
def planM (pos : List PO) : Nat → Nat → Option (List (Oper × Bool))
  | 0, L => match pos.find? (readyM L) with
    | none => some []
    | some _ => none
  | n + 1, L => match pos.find? fun p => p.q && readyM L p with
    | some p => pick2 (freeM pos L p)
        (match planM pos n (addBit L p.i) with
          | some l => some ((p.o, false) :: l)
          | none => none)
        none
    | none => match pos.filter (readyM L) with
      | [] => some []
      | q :: r => match chooseM (q :: r) with
        | some (p, ms) => pick2 (delayM pos p ms)
            (match planM pos n (addBit L p.i) with
              | some l => some ((p.o, !loadsM pos L p) :: l)
              | none => none)
            none
        | none => none
def noSelectA (ops : List Oper) : Bool := ops.all fun o => match o.op with | .select _ _ => false | _ => true
def planOf (P : Program) (ops : Array Oper) : Option (List (Oper × Bool)) := pick2 (noSelectA ops.toList) (planM (posRev P ops ops.toList 0 []).reverse ops.toList.length 0) none
def plan (P : Program) (ops : Array Oper) : Option (List (Oper × Bool)) := planOf P ops
/-- The rows that are read so far (none: not known). -/
def readsA (ev : Operand → Value) (o : Oper) (R : Option (List Nat)) : Option (List Nat) :=
  match o.op with
  | .load _ x => match R, ev x with
    | some l, .pointer (some ⟨b, _, _⟩) => some (b :: l)
    | _, _ => none
  | op => pick2 (isLoad op) none R
/-- The slice that is appended to. -/
def appBase : Op → Option Operand
  | .call { callee := .builtin .append, args, .. } => args[0]?
  | _ => none
/-- Where a value is stored. -/
def storeBase : Op → Option Operand
  | .store _ a _ => some a
  | _ => none
/-- Its row is none of those that are read. -/
def clearA (R : Option (List Nat)) (s : Value) : Bool :=
  match s, R with
  | .slice none _ _, _ => true
  | .slice (some ⟨b, _, _⟩) _ _, some l => l.all fun j => !Nat.beq j b
  | .pointer (some ⟨b, _, _⟩), some l => l.all fun j => !Nat.beq j b
  | _, _ => false
def storeClear (R : Option (List Nat)) (ev : Operand → Value) (o : Oper) : Bool :=
  match storeBase o.op with
  | some s => clearA R (ev s)
  | none => false
/-- The live rows of a list, as if they were not there; and back again. -/
def hideL (H0 : Mem) (l : List Nat) : Mem → Option Mem :=
  List.rec (motive := fun _ => Mem → Option Mem) (fun H => some H) (fun j _ go H =>
    match H0.get j with
    | some b => pick2 (Nat.ble H0.lk j) (pick2 b.live (match H.set j ⟨[], 0, false, false⟩ with
      | some H1 => go H1
      | none => none) none) (go H)
    | none => go H) l
def unhideL (H0 : Mem) (l : List Nat) : Mem → Option Mem :=
  List.rec (motive := fun _ => Mem → Option Mem) (fun H => some H) (fun j _ go H =>
    match H0.get j with
    | some b => pick2 (b.live && Nat.ble H0.lk j) (match H.set j b with
      | some H1 => go H1
      | none => none) (go H)
    | none => go H) l
def isCallO : Op → Bool
  | .call { callee := .value _, .. } => true
  | .call { callee := .invoke _ _, .. } => true
  | _ => false
/-- A call that looks at none of the rows that were read. -/
def hideA (P : Program) (call : CallF) (ops : List Oper) (R : Option (List Nat)) (o : Oper) (f : Fr) (H : Mem) : Option (Fr × Mem) :=
  match R, isCallO o.op with
  | some l, true => match hideL H l H with
    | some H1 => match stepA P call ops o f H1 with
      | some (f', H2) => match unhideL H l H2 with
        | some H3 => some (f', H3)
        | none => none
      | none => none
    | none => none
  | _, _ => none
/-- A step; under 'lk' it may write no row that is there already (an append, a store: none that is read; a call: it looks at none that is read). -/
def stepL (P : Program) (call : CallF) (ops : List Oper) (R : Option (List Nat)) (lk : Bool) (o : Oper) (f : Fr) (H : Mem) : Option (Fr × Mem) :=
  pick2 lk
    (match appBase o.op with
      | some s => pick2 (clearA R (f.eval s)) (stepA P call ops o f H) none
      | none => pick2 (storeClear R f.eval o) (stepA P call ops o f H)
        (match stepA P call ops o f { H with lk := H.size } with
          | some (f', H') => some (f', { H' with lk := H.lk })
          | none => hideA P call ops R o f H))
    (stepA P call ops o f H)
def drawA (P : Program) (call : CallF) (ops : List Oper) (l : List (Oper × Bool)) : Option (List Nat) → Fr → Mem → Option (Fr × Mem) :=
  List.rec (motive := fun _ => Option (List Nat) → Fr → Mem → Option (Fr × Mem)) (fun _ f H => some (f, H))
    (fun q _ go R f H => Option.rec (motive := fun _ => Option (Fr × Mem)) none (fun r => go (readsA f.eval q.1 R) r.1 r.2) (stepL P call ops R q.2 q.1 f H)) l
abbrev Out := Option (Leave × Fr × Mem)
/-- On with the next piece, if the first one is left at its end. -/
def andThen (r : Out) (k : Fr → Mem → Out) : Out :=
  match r with
  | some (.normal, f, H) => k f H
  | some (.exit id, f, H) => some (.exit id, f, H)
  | some (.ret, f, H) => some (.ret, f, H)
  | some (.goto l, f, H) => some (.goto l, f, H)
  | none => none
def leaveBlock (id : Nat) (r : Out) : Out :=
  match r with
  | some (.exit id', f, H) => pick2 (Nat.beq id' id) (some (.normal, f, H)) (some (.exit id', f, H))
  | some (.normal, f, H) => some (.normal, f, H)
  | some (.ret, f, H) => some (.ret, f, H)
  | some (.goto l, f, H) => some (.goto l, f, H)
  | none => none
def loopA (body : Fr → Mem → Out) (n : Nat) : Fr → Mem → Out :=
  Nat.rec (motive := fun _ => Fr → Mem → Out) (fun _ _ => none) (fun _ go f H => andThen (body f H) go) n
def atEnd (r : Option (Fr × Mem)) : Out := Option.rec (motive := fun _ => Out) none (fun q => some (.normal, q.1, q.2)) r
def regionA (P : Program) (G : Nat) (call : CallF) (ops : Array Oper) (draw : Bool) (f : Fr) (H : Mem) : Out :=
  pick2 (okOps G ops.toList)
    (pick2 draw
      (Option.rec (motive := fun _ => Out) none (fun l => atEnd (drawA P call ops.toList l (some []) f H)) (plan P ops))
      (atEnd (opsA P call ops.toList ops.toList f H)))
    none
/-- The last operation puts a call off. -/
def splitDefer : List Oper → Option (List Oper × Oper × Operand)
  | [] => none
  | [o] => match o.op, o.guard with
    | .defer { callee := .value f, args := ⟨[]⟩, .. }, none => some ([], o, f)
    | _, _ => none
  | o :: l => match splitDefer l with
    | some (i, q) => some (o :: i, q)
    | none => none
/-- In the place of a function's number: is it known to do nothing where it runs as a deferred call of a function that returns? -/
def deferId (f : FuncId) : FuncId := yieldId (Nat.add 4294967296 f)
/-- A region whose last operation may put a call off. -/
def regionD (P : Program) (G : Nat) (call : CallF) (ops : Array Oper) (draw : Bool) (f : Fr) (H : Mem) : Out :=
  pick2 draw (regionA P G call ops draw f H)
    (match splitDefer ops.toList with
      | some (l, o, g) => pick2 (okOps G ops.toList)
          (match opsA P call ops.toList l f H with
            | some (f1, H1) => match f1.eval g, o.dst with
              | .func (.func id) ⟨[]⟩ _, none => match P.funcs[id]?, call (deferId id) [] H1 with
                | some fn, some _ => pick2 fn.body.isSome (some (.normal, f1, H1)) none
                | _, _ => none
              | _, _ => none
            | none => none) none
      | none => regionA P G call ops draw f H)
def condA (v : Value) (x y : Fr → Mem → Out) (f : Fr) (H : Mem) : Out :=
  match v with
  | .bool b => pick2 b (x f H) (y f H)
  | _ => none
abbrev JumpF := Code → Code → Fr → Mem → Out
/-- Behind a scope's code: a jump to a label of it goes on there. -/
def afterScope (c : Code) (J : JumpF) (r : Out) : Out :=
  match r with
  | some (.goto l, f, H) => match findLabel c l with
    | some rest => J c rest f H
    | none => some (.goto l, f, H)
  | some (.normal, f, H) => some (.normal, f, H)
  | some (.exit id, f, H) => some (.exit id, f, H)
  | some (.ret, f, H) => some (.ret, f, H)
  | none => none
/-- What tells of a function (ahead of what its closure holds) that it hands a list of values, one by one, to a function that it is given. -/
def iterMark : Value := .pointer (some ⟨0, 0, some 0⟩)
/-- In the place of a function's number: what is known of it as one that hands values on. -/
def iterId (fid : FuncId) : FuncId := Nat.add 4294967296 fid
def notDefer (o : Oper) : Bool :=
  match o.op with
  | .defer _ => false
  | _ => true
/-- Code that may stand in a round: no deferred call, no scope, no range over a function. -/
def plainC (c : Code) : Bool :=
  Code.rec (motive := fun _ => Bool) true (fun _ ops _ => ops.toList.all notDefer) (fun _ _ x y => x && y) (fun _ _ _ x y => x && y) (fun _ _ b => b) (fun _ b => b)
    (fun _ _ _ _ _ _ => false) (fun _ => true) (fun _ _ => false) (fun _ => true) (fun _ => true) true (fun _ => true) c
/-- The rounds of a range over a function: one for each value; each begins with the frame as it was. -/
def roundsA (p : Tmp) (x y : Fr → Mem → Out) (f : Fr) (items : List Value) : Mem → Out :=
  List.rec (motive := fun _ => Mem → Out) (fun H => some (.normal, f, H))
    (fun v _ go H => match f.put (some p) v with
      | some f1 => match x f1 H with
        | some (.normal, f2, H2) => match y f2 H2 with
          | some (.normal, _, H3) => go H3
          | some (.ret, _, H3) => some (.ret, f, H3)
          | _ => none
        | _ => none
      | none => none) items
def rangeA (P : Program) (G : Nat) (call : CallF) (g : Operand) (ps : List Tmp) (plain : Bool) (x y : Fr → Mem → Out) (f : Fr) (H : Mem) : Out :=
  pick2 (operandOk G g && plain)
    (match ps, f.eval g with
      | [p], .func (.func fid) ta caps => match ta.toList, caps.toList, P.funcs[iterId fid]? with
        | [], [.pointer (some ⟨i, 0, none⟩)], none => match call (iterId fid) [.pointer (some ⟨i, 0, none⟩)] H with
          | some (.tuple items, H1) => match items.toList with
            | _ :: l => roundsA p x y f l H1
            | [] => none
          | _ => none
        | _, _, _ => none
      | _, _ => none) none
/-- What a loop's own function does, by the loop's number; what some calls come to, and the rows that they make. -/
structure YEnv where
  f : Nat → Option (List Value → Mem → Option Mem)
  m : FuncId → List Value → Mem → Option (Value × List Blk)
def noYields : YEnv := ⟨fun _ => none, fun _ _ _ => none⟩
def memos (m : FuncId → List Value → Mem → Option (Value × List Blk)) : YEnv := ⟨fun _ => none, m⟩
/-- The same, and functions that do nothing as deferred calls. -/
def memosD (m : FuncId → List Value → Mem → Option (Value × List Blk)) (d : FuncId → Bool) : YEnv := ⟨fun j => pick2 (Nat.ble 4294967296 j && d (Nat.sub j 4294967296)) (some fun _ H => some H) none, m⟩
def YEnv.put (ye : YEnv) (i : Nat) (F : List Value → Mem → Option Mem) : YEnv := ⟨fun j => pick2 (Nat.beq j i) (some F) (ye.f j), ye.m⟩
mutual
/-- Rows by other numbers. -/
def renV (τ : Nat → Nat) : Value → Value
  | .pointer (some ⟨i, o, none⟩) => .pointer (some ⟨τ i, o, none⟩)
  | .slice (some ⟨i, o, none⟩) l c => .slice (some ⟨τ i, o, none⟩) l c
  | .map (some i) => .map (some (τ i))
  | .func (.yield i) ⟨[]⟩ ⟨[]⟩ => .func (.yield (τ i)) #[] #[]
  | .func (.yield i) a b => .func (.yield i) a b
  | .func fn a b => .func fn (renA τ a) (renA τ b)
  | .iface t v => .iface t (renV τ v)
  | .agg cs => .agg (renA τ cs)
  | .tuple cs => .tuple (renA τ cs)
  | v => v
def renA (τ : Nat → Nat) : Array Value → Array Value
  | ⟨l⟩ => ⟨renL τ l⟩
def renL (τ : Nat → Nat) : List Value → List Value
  | [] => []
  | v :: l => renV τ v :: renL τ l
end
/-- Rows more, by numbers from n on. -/
def Mem.app (n : Nat) (H : Mem) : List Blk → Option Mem
  | [] => some H
  | b :: l => match H.push { b with cells := renL (Nat.add n) b.cells } with
    | some H' => H'.app n l
    | none => none
/-- A call that is told. -/
def memoA (m : Option (Value × List Blk)) (H : Mem) : Option (Value × Mem) :=
  match m with
  | some (v, rows) => match H.app H.size rows with
    | some H' => some (renV (Nat.add H.size) v, H')
    | none => none
  | none => none
/-- Code that may stand in a round: as plainC, ranges over functions too. -/
def roundC (c : Code) : Bool :=
  Code.rec (motive := fun _ => Bool) true (fun _ ops _ => ops.toList.all notDefer) (fun _ _ x y => x && y) (fun _ _ _ x y => x && y) (fun _ _ b => b) (fun _ b => b)
    (fun _ _ _ _ x y => x && y) (fun _ => true) (fun _ _ => false) (fun _ => true) (fun _ => true) true (fun _ => true) c
abbrev RangeF := Operand → List Tmp → (Fr → Mem → Out) → (Fr → Mem → Out) → Fr → Mem → Out
/-- A round: it begins with the frame as it was, and ends at its end. -/
def roundF (ps : List Tmp) (x y : Fr → Mem → Out) (f : Fr) : List Value → Mem → Option Mem := fun args H =>
  match ps, args with
  | [], [] => match x f H with
    | some (.normal, f2, H2) => match y f2 H2 with
      | some (.normal, _, H3) => some H3
      | _ => none
    | _ => none
  | [p], [v] => match f.put (some p) v with
    | some f1 => match x f1 H with
      | some (.normal, f2, H2) => match y f2 H2 with
        | some (.normal, _, H3) => some H3
        | _ => none
      | _ => none
    | none => none
  | _, _ => none
/-- A range over a function of the program's own: it is entered; what it calls runs the rounds. -/
def rangeG (P : Program) (G : Nat) (callE : YEnv → CallF) (ye : YEnv) : RangeF := fun g ps x y f H =>
  pick2 (operandOk G g)
    (match f.eval g, H.push ⟨[], 0, false, false⟩ with
      | .func (.func fid) ta caps, some H0 => match P.funcs[fid]? with
        | some fn => pick2 (fn.body.isSome && !Nat.ble 8589934592 fid && Nat.blt H.size 4294967296)
          (match callE (ye.put H.size (roundF ps x y f)) fid (ta.toList ++ (.func (.yield H.size) #[] #[] :: caps.toList)) H0 with
            | some (_, H1) => some (.normal, f, H1)
            | none => none) none
        | none => none
      | _, _ => none) none
/-- Contracts that are known already: of values that lead to no memory. -/
abbrev Known := FuncId → List Value → Option Value
/-- Is it a function of one text that is known as one that hands values on? -/
def iterB (K : Known) (fv : Value) (H : Mem) : Bool :=
  match fv with
  | .func (.func fid) ta caps => match ta.toList, caps.toList with
    | [], [.pointer (some ⟨i, 0, none⟩)] => match alive H i with
      | some b => match b.cells with
        | [.string s] => (K (iterId fid) [iterMark, .string s]).isSome
        | _ => false
      | none => false
    | _, _ => false
  | _ => false
/-- A range over a function, outside of a round. -/
def rangeO (P : Program) (G : Nat) (K : Known) (callE : YEnv → CallF) (ye : YEnv) : RangeF := fun g ps x y f H =>
  pick2 (iterB K (f.eval g) H) (rangeA P G (callE ye) g ps true x y f H) (rangeG P G callE ye g ps x y f H)
/-- Code in a round: no scope, no range over a function that is known otherwise. -/
def codeR (P : Program) (G : Nat) (call : CallF) (rg : RangeF) (rounds : Nat) (c : Code) : Fr → Mem → Out :=
  Code.rec (motive := fun _ => Fr → Mem → Out)
    (fun f H => some (.normal, f, H))
    (fun _ ops draw => regionA P G call ops draw)
    (fun _ _ x y f H => andThen (x f H) y)
    (fun c _ _ x y f H => pick2 (operandOk G c) (condA (f.eval c) x y f H) none)
    (fun id _ b f H => leaveBlock id (b f H))
    (fun _ b => loopA b rounds)
    (fun g ps a b x y f H => pick2 (roundC a && roundC b) (rg g ps.toList x y f H) none)
    (fun id f H => some (.exit id, f, H))
    (fun _ _ _ _ => none)
    (fun _ f H => some (.normal, f, H))
    (fun l f H => some (.goto l, f, H))
    (fun f H => some (.ret, f, H))
    (fun _ _ _ => none) c
def codeA (P : Program) (G : Nat) (call : CallF) (rgo rg : RangeF) (jump : JumpF) (rounds : Nat) (c : Code) : Fr → Mem → Out :=
  Code.rec (motive := fun _ => Fr → Mem → Out)
    (fun f H => some (.normal, f, H))
    (fun _ ops draw => regionD P G call ops draw)
    (fun _ _ x y f H => andThen (x f H) y)
    (fun c _ _ x y f H => pick2 (operandOk G c) (condA (f.eval c) x y f H) none)
    (fun id _ b f H => leaveBlock id (b f H))
    (fun _ b => loopA b rounds)
    (fun g ps a b _ _ f H => pick2 (roundC a && roundC b) (rgo g ps.toList (codeR P G call rg rounds a) (codeR P G call rg rounds b) f H) none)
    (fun id f H => some (.exit id, f, H))
    (fun c b f H => afterScope c jump (b f H))
    (fun _ f H => some (.normal, f, H))
    (fun l f H => some (.goto l, f, H))
    (fun f H => some (.ret, f, H))
    (fun _ _ _ => none) c
/-- The code behind a label of a scope, and whatever it jumps to: at most so many jumps. -/
def jumpsA (P : Program) (G : Nat) (call : CallF) (rgo rg : RangeF) (rounds : Nat) (n : Nat) : JumpF :=
  Nat.rec (motive := fun _ => JumpF) (fun _ _ _ _ => none)
    (fun _ go c rest f H => afterScope c go (codeA P G call rgo rg go rounds rest f H)) n
def resultA (P : Program) (H : Mem) (f : Fr) : ResultVar → Option Value
  | .tmp t => some (f.get t)
  | .cell x t => loadA P H t (f.get x)
def resultsA (P : Program) (H : Mem) (f : Fr) : List ResultVar → Option (List Value)
  | [] => some []
  | r :: l => match resultA P H f r, resultsA P H f l with
    | some v, some vs => some (v :: vs)
    | _, _ => none
def oneA : List Value → Value
  | [v] => v
  | l => .tuple l.toArray
def returnA (P : Program) (fn : Func) (r : Out) : Option (Value × Mem) :=
  match r with
  | some (.normal, f, H) => withMem H ((resultsA P H f fn.results.toList).map oneA)
  | some (.ret, f, H) => withMem H ((resultsA P H f fn.results.toList).map oneA)
  | _ => none
def enterA (P : Program) (G : Nat) (call : CallF) (rgo rg : RangeF) (rounds : Nat) (id : FuncId) (args : List Value) (H : Mem) : Option (Value × Mem) :=
  match P.funcs[id]? with
  | some fn => match fn.body with
    | some c => match (Fr.mk fn.ntmps (Tr.full (depthOf fn.ntmps))).fill 0 args with
      | some f0 => pick2 (Nat.ble args.length fn.ntmps && !Nat.ble 8589934592 id) (returnA P fn (codeA P G call rgo rg (jumpsA P G call rgo rg rounds rounds) rounds c f0 H)) none
      | none => none
    | none => none
  | none => none
def isU8V : Value → Bool
  | .int .u8 _ => true
  | _ => false
/-- What tells of a function (in the place of its arguments) that it writes over its one slice, its room too, and does nothing else. -/
def killMark : List Value := [.pointer (some ⟨0, 0, none⟩)]
/-- A type of bytes. -/
def u8Type (P : Program) (t : TypeId) : Bool :=
  match P.underlying t, zeroA P t, sizeA P t with
  | some (.int .u8), some (.int .u8 (.ofNat 0)), some 1 => true
  | _, _, _ => false
/-- A slice that is written over is not read any more. -/
def killsA (P : Program) (K : Known) (id : FuncId) (args : List Value) (H : Mem) : Option (Value × Mem) :=
  match args with
  | [.slice (some ⟨i, 0, none⟩) n c] => match K id killMark, alive H i with
    | some u, some b => pick2 (addrFree u && Nat.ble n c && Nat.beq b.cells.length c && Nat.ble c 2000000 && b.cells.all isU8V && u8Type P b.elem && b.fix)
        (match kill H i with
          | some H' => some (u, H')
          | none => none) none
    | _, _ => none
  | _ => none
def orEnter (a b : Option (Value × Mem)) : Option (Value × Mem) :=
  match a with
  | some r => some r
  | none => b
/-- What a function of a closure with one text hands over, if that is known; the text's cell is not read any more. -/
def itersA (P : Program) (K : Known) (id : FuncId) (args : List Value) (H : Mem) : Option (Value × Mem) :=
  match args with
  | [.pointer (some ⟨i, 0, none⟩)] => match P.funcs[id]? with
    | none => match alive H i with
      | some b => match b.cells with
        | [.string s] => match K id [iterMark, .string s] with
          | some (.tuple items) => pick2 (addrFreeL items.toList)
            (match kill H i with
              | some H' => some (.tuple (iterMark :: items.toList).toArray, H')
              | none => none) none
          | _ => none
        | _ => none
      | none => none
    | some _ => none
  | _ => none
/-- The call of a loop's own function. -/
def yieldA (F : Option (List Value → Mem → Option Mem)) (args : List Value) (H : Mem) : Option (Value × Mem) :=
  match F with
  | some F => match F args H with
    | some H' => some (.bool true, H')
    | none => none
  | none => none
def callA (P : Program) (G : Nat) (K : Known) (rounds : Nat) (n : Nat) : YEnv → CallF :=
  Nat.rec (motive := fun _ => YEnv → CallF) (fun _ _ _ _ => none)
    (fun _ go ye id args H => pick2 (Nat.ble 8589934592 id) (yieldA (ye.f (Nat.sub id 8589934592)) args H)
      (Option.rec (motive := fun _ => Option (Value × Mem)) (orEnter (killsA P K id args H) (orEnter (pick2 (P.funcs[id]?).isSome (memoA (ye.m id args H) H) none) (orEnter (enterA P G (go ye) (rangeO P G K go ye) (rangeG P G go ye) rounds id args H) (itersA P K id args H))))
      (fun v => pick2 (addrFreeL args && addrFree v) (some (v, H)) none) (K id args))) n
/-- The call of a function with arguments that lead to no memory, and its result, if that leads to none. -/
def answer (P : Program) (K : Known) (rounds depth : Nat) (f : FuncId) (args : List Value) : Option Value :=
  match callA P 0 K rounds depth noYields f args Mem.empty with
  | some (v, _) => pick2 (addrFree v && addrFreeL args) (some v) none
  | none => none
def noKnown : Known := fun _ _ => none
/-- A memory of given rows, all of them only read. -/
def Mem.ofRows (H : Mem) (l : List Blk) : Option Mem :=
  match l with
  | [] => some ⟨H.size, H.size, H.t⟩
  | b :: l => match H.push b with
    | some H' => H'.ofRows l
    | none => none
/-- The call of a function where the first rows are given: package-level variables. -/
def answerG (P : Program) (K : Known) (rows : List Blk) (rounds depth : Nat) (f : FuncId) (args : List Value) : Option Value :=
  match Mem.ofRows Mem.empty rows with
  | some H => match callA P rows.length K rounds depth noYields f args H with
    | some (v, _) => pick2 (addrFree v && addrFreeL args && rows.all fun b => addrFreeL b.cells && !isMapB b) (some v) none
    | none => none
  | none => none
end
end Go.Ev

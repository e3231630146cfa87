/- A layer above the evaluator: values that may be known by terms alone (numbers, texts, lists); definitions. -/
import Derived.Test.YtcafcgiemdlobaaDoorEvY
namespace Go.Tv
open Go.Ev (Tr pick2 Leave)
noncomputable section

/-! ### Types of plain data, and what they stand for -/

inductive Ty where
  | int (k : IntKind)
  | bool
  | str
  | flt
  | unit
  | sl (e : Ty)
  | pair (a b : Ty)
  deriving DecidableEq

@[reducible] def Ty.den (t : Ty) : Type :=
  Ty.rec (motive := fun _ => Type) (fun _ => Int) Bool (List UInt8) Nat Unit (fun _ d => List d) (fun _ _ a b => a × b) t

def Ty.size : Ty → Nat
  | .int _ => 1
  | .bool => 1
  | .str => 1
  | .flt => 1
  | .unit => 0
  | .sl _ => 1
  | .pair a b => a.size + b.size

def Ty.zero : (t : Ty) → t.den
  | .int _ => (0 : Int)
  | .bool => false
  | .str => ([] : List UInt8)
  | .flt => (0 : Nat)
  | .unit => ()
  | .sl e => ([] : List e.den)
  | .pair a b => (a.zero, b.zero)

/-- No list in it. -/
def Ty.flatB : Ty → Bool
  | .sl _ => false
  | .pair a b => a.flatB && b.flatB
  | _ => true

def castL (e e' : Ty) (l : List e.den) : Option (List e'.den) :=
  if h : e = e' then some (h ▸ l) else none

/-! ### Values -/

/-- lst: a slice whose cells stay as they are. own: a whole slice whose row is the run's own. osl: a part of such a row, of just this room. ptr, ept, apt: into rows of the run's own. fpt: to cells that stay. -/
inductive AV where
  | int (k : IntKind) (n : Int)
  | bool (b : Bool)
  | str (s : List UInt8)
  | flt (n : Nat)
  | lst (e : Ty) (l : List e.den)
  | nils
  | own (id n : Nat)
  | osl (id off len cap : Nat)
  | ptr (id off : Nat)
  | ept (id j fo ver : Nat) (cur : List AV)
  | apt (id n : Nat)
  | fpt (cs : List AV)
  | nilp
  | fn (f : FuncId) (a b : List AV)
  | agg (l : List AV)
  | tup (l : List AV)
  | opq (v : Value)
  | unk

/-- A row: cells; a list (its element's number, type, how often it was written, whether its room is known, whether it stays). -/
inductive Row where
  | dead
  | cells (cs : List AV)
  | list (t : TypeId) (e : Ty) (l : List e.den) (ver : Nat) (ex ro : Bool)

structure TMem where
  next : Nat
  lk : Nat
  par : Nat
  t : Tr Row

def TMem.get (H : TMem) (i : Nat) : Option Row :=
  match H.t.get i with
  | some .dead => none
  | some r => pick2 (Nat.ble (Nat.succ i) H.next) (some r) none
  | none => none

def TMem.put (H : TMem) (i : Nat) (r : Row) : TMem :=
  Option.rec (motive := fun _ => TMem) H (fun t => ⟨H.next, H.lk, H.par, t⟩) (H.t.set i r)

def TMem.push (H : TMem) (r : Row) : TMem :=
  Option.rec (motive := fun _ => TMem) H (fun t => ⟨Nat.add H.next 1, H.lk, H.par, t⟩) (H.t.set H.next r)

def TMem.empty : TMem := ⟨0, 0, 0, .e⟩

structure TFr where
  n : Nat
  t : Tr AV

def TFr.get (f : TFr) (i : Nat) : AV := Option.rec (motive := fun _ => AV) .unk (fun v => v) (f.t.get i)

def TFr.put (f : TFr) (dst : Option Tmp) (v : AV) : TFr :=
  Option.rec (motive := fun _ => TFr) f (fun d => pick2 (Nat.ble (Nat.succ d) f.n) (Option.rec (motive := fun _ => TFr) f (fun t => ⟨f.n, t⟩) (f.t.set d v)) f) dst

def TFr.fill (f : TFr) : Nat → List AV → TFr
  | _, [] => f
  | i, v :: l => (f.put (some i) v).fill (i + 1) l

/-- What is asked of a run: the program, how many package-level variables are given, and their cells; which arrays are kept as lists; which slice expressions of a function that is entered in place go on owning. -/
structure Cfg where
  P : Program
  G : Nat
  gv : Nat → List AV
  ar : TypeId → Bool := fun _ => false
  trs : FuncId → List Tmp := fun _ => []

/-- A cell that leads to no memory. -/
def ofC : Value → AV
  | .int k n => .int k n
  | .bool b => .bool b
  | .string s => .str s.data.toList
  | .float .f64 n => .flt n
  | .pointer none => .nilp
  | .slice none 0 0 => .nils
  | v => .opq v

def ofV : Value → AV
  | .agg cs => .agg (cs.toList.map ofC)
  | v => ofC v

/-- A pointer to cells that are known; else nothing is known of it. -/
def unkOr : List AV → AV
  | [] => .unk
  | c :: cs => .fpt (c :: cs)

def TFr.eval (X : Cfg) (f : TFr) : Operand → AV
  | .tmp t => f.get t
  | .const v => ofV v
  | .global g => unkOr (X.gv g)
  | .func f => .fn f [] []

/-! ### Plain data as cells, and back -/

def flat : (e : Ty) → e.den → List AV
  | .int k, n => [.int k n]
  | .bool, b => [.bool b]
  | .str, s => [.str s]
  | .flt, n => [.flt n]
  | .unit, _ => []
  | .sl e, l => [.lst e l]
  | .pair a b, x => flat a x.1 ++ flat b x.2

def hInt (k : IntKind) : List AV → Option (Int × List AV)
  | .int k' n :: r => if k = k' then some (n, r) else none
  | _ => none
def hBool : List AV → Option (Bool × List AV)
  | .bool b :: r => some (b, r)
  | _ => none
def hStr : List AV → Option (List UInt8 × List AV)
  | .str s :: r => some (s, r)
  | _ => none
def hFlt : List AV → Option (Nat × List AV)
  | .flt n :: r => some (n, r)
  | _ => none
def hSl (e : Ty) : List AV → Option (List e.den × List AV)
  | .lst e' l :: r => match castL e' e l with
    | some l' => some (l', r)
    | none => none
  | .nils :: r => some ([], r)
  | _ => none

def unflat : (e : Ty) → List AV → Option (e.den × List AV)
  | .int k, r => hInt k r
  | .bool, r => hBool r
  | .str, r => hStr r
  | .flt, r => hFlt r
  | .unit, r => some ((), r)
  | .sl e, r => hSl e r
  | .pair a b, r => match unflat a r with
    | some (x, r1) => match unflat b r1 with
      | some (y, r2) => some ((x, y), r2)
      | none => none
    | none => none

/-- So many elements out of cells. -/
def unflatN (e : Ty) : Nat → List AV → Option (List e.den)
  | 0, [] => some []
  | 0, _ :: _ => none
  | n + 1, r => match unflat e r with
    | some (x, r1) => match unflatN e n r1 with
      | some l => some (x :: l)
      | none => none
    | none => none

/-- The type of plain data that a type of the program's is. -/
def tyOf (P : Program) : Nat → TypeId → Option Ty
  | 0, _ => none
  | d + 1, t => match P.underlying t with
    | some (.int k) => some (.int k)
    | some .bool => some .bool
    | some .string => some .str
    | some (.float .f64) => some .flt
    | some (.slice e) => match tyOf P d e with
      | some x => some (.sl x)
      | none => none
    | some (.struct fs) => tyFields P d fs.toList
    | _ => none
where tyFields (P : Program) : Nat → List Field → Option Ty
  | 0, _ => none
  | _ + 1, [] => some .unit
  | d + 1, [f] => tyOf P d f.type
  | d + 1, f :: fs => match tyOf P d f.type, tyFields P d fs with
    | some a, some b => some (.pair a b)
    | _, _ => none

/-! ### Looking at values -/

def getI {α : Type} (l : List α) (i : Int) : Option α :=
  match i with
  | .ofNat n => l[n]?
  | .negSucc _ => none

def u8I (c : UInt8) : Int := Int.ofNat c.toNat
def iU8 (n : Int) : UInt8 := UInt8.ofNat n.toNat

/-- The elements of a slice, or of a text. -/
def viewL (H : TMem) (e : Ty) : AV → Option (List e.den)
  | .lst e' l => castL e' e l
  | .nils => some []
  | .own id _ => match H.get id with
    | some (.list _ e' l _ _ _) => castL e' e l
    | _ => none
  | .osl id off len _ => match H.get id with
    | some (.list _ e' l _ _ _) => match castL e' e l with
      | some l' => some ((l'.drop off).take len)
      | none => none
    | _ => none
  | .str s => castL (.int .u8) e (s.map u8I)
  | _ => none

/-- The cells of a value that is one. -/
def cellsT : AV → Option (List AV)
  | .agg l => some l
  | .tup _ => none
  | .unk => none
  | .opq v => pick2 (Ev.plainCell v) (some [.opq v]) none
  | v => some [v]

def plainT : AV → Bool
  | .agg _ => false
  | .tup _ => false
  | .unk => false
  | .opq v => Ev.plainCell v
  | _ => true

def putL {α : Type} (l : List α) (off : Nat) : List α → List α
  | [] => l
  | v :: vs => putL (l.set off v) (off + 1) vs

/-- May a row be written? -/
def TMem.mayB (H : TMem) (id : Nat) : Bool := Nat.ble H.lk id

section
variable {β : Type}

/-- A value of a type at the head of cells. -/
def headT (X : Cfg) (t : TypeId) (cs : List AV) (k : AV → Option β) : Option β :=
  match Ev.isAggA X.P t, Ev.sizeA X.P t with
  | some true, some n => pick2 (Nat.ble n cs.length && !(Nat.beq n 0) && (cs.take n).all plainT) (k (.agg (cs.take n))) none
  | some false, _ => match cs with
    | c :: _ => pick2 (plainT c) (k c) none
    | [] => none
  | _, _ => none

def loadT (X : Cfg) (H : TMem) (t : TypeId) (a : AV) (k : AV → Option β) : Option β :=
  match a with
  | .ptr id off => match H.get id with
    | some (.cells cs) => headT X t (cs.drop off) k
    | _ => none
  | .fpt cs => headT X t cs k
  | .ept id _ fo ver cur => match H.get id with
    | some (.list _ _ _ ver' _ _) => pick2 (Nat.beq ver ver') (headT X t (cur.drop fo) k) none
    | _ => none
  | _ => none

def storeT (X : Cfg) (H : TMem) (t : TypeId) (a x : AV) (k : TMem → Option β) : Option β :=
  match a, Ev.sizeA X.P t, cellsT x with
  | .ptr id off, some n, some vs => match H.get id with
    | some (.cells cs) => pick2 (H.mayB id && Nat.beq vs.length n && vs.all plainT && Nat.ble (Nat.add off n) cs.length) (k (H.put id (.cells (putL cs off vs)))) none
    | _ => none
  | .ept id j fo ver cur, some n, some vs => match H.get id with
    | some (.list t' e l ver' ex ro) => pick2 (H.mayB id && Nat.beq vs.length n && vs.all plainT && Nat.ble (Nat.add fo n) cur.length && Nat.beq ver ver' && !ro)
        (match unflat e (putL cur fo vs) with
          | some (y, []) => k (H.put id (.list t' e (l.set j y) (ver + 1) ex ro))
          | _ => none) none
    | _ => none
  | _, _, _ => none

/-- Which of n numbers one is. -/
def selT (i : Int) (k : Nat → Option β) : Nat → Nat → Option β
  | 0, _ => none
  | n + 1, j => pick2 (Ev.eqI i (Int.ofNat j)) (k j) (selT i k n (j + 1))

def idxT (X : Cfg) (H : TMem) (t : TypeId) (x ix : AV) (k : AV → Option β) : Option β :=
  match X.P.underlying t, ix with
  | some (.slice te), .int _ i => match Ev.sizeA X.P te with
    | some s => match x with
      | .lst e l => pick2 (Nat.beq s e.size) (Option.rec (motive := fun _ => Option β) none (fun y => k (.fpt (flat e y))) (getI l i)) none
      | .own id _ => match H.get id with
        | some (.list _ e l ver _ _) => pick2 (Nat.beq s e.size) (Option.rec (motive := fun _ => Option β) none (fun y => k (.ept id i.toNat 0 ver (flat e y))) (getI l i)) none
        | _ => none
      | .osl id off len _ => match H.get id with
        | some (.list _ e l ver _ _) => pick2 (Nat.beq s e.size) (Option.rec (motive := fun _ => Option β) none (fun y => k (.ept id (off + i.toNat) 0 ver (flat e y))) (getI ((l.drop off).take len) i)) none
        | _ => none
      | _ => none
    | none => none
  | some (.array n te), .int _ i => match Ev.sizeA X.P te with
    | some s => match x with
      | .ptr id off => selT i (fun j => k (.ptr id (Nat.add off (Nat.mul j s)))) n 0
      | .fpt cs => selT i (fun j => pick2 (Nat.ble (Nat.mul j s) cs.length) (k (.fpt (cs.drop (Nat.mul j s)))) none) n 0
      | .apt id n' => match H.get id with
        | some (.list _ e l ver _ _) => pick2 (Nat.beq s e.size && Nat.beq n' n) (Option.rec (motive := fun _ => Option β) none (fun y => k (.ept id i.toNat 0 ver (flat e y))) (getI l i)) none
        | _ => none
      | _ => none
    | none => none
  | _, _ => none

def fieldT (X : Cfg) (s : TypeId) (x : AV) (f : Nat) (k : AV → Option β) : Option β :=
  match X.P.underlying s with
  | some (.struct fs) => match fs[f]? with
    | some fd => match Ev.sizeA X.P fd.type with
      | some n => pick2 (Nat.beq n 0) none (match x with
        | .ptr id off => k (.ptr id (Nat.add off fd.offset))
        | .fpt cs => pick2 (Nat.ble fd.offset cs.length) (k (.fpt (cs.drop fd.offset))) none
        | .ept id j fo ver cur => k (.ept id j (Nat.add fo fd.offset) ver cur)
        | _ => none)
      | none => none
    | none => none
  | _ => none

/-- Bounds of a slice expression. -/
def boundsT (len cap : Nat) (lo hi : Option AV) (k : Int → Int → Option β) : Option β :=
  match lo, hi with
  | none, none => k 0 len
  | some (.int _ a), none => pick2 (!Ev.ltI a 0 && !Ev.ltI (Int.ofNat len) a) (k a len) none
  | none, some (.int _ b) => pick2 (!Ev.ltI b 0 && !Ev.ltI (Int.ofNat cap) b) (k 0 b) none
  | some (.int _ a), some (.int _ b) => pick2 (!Ev.ltI a 0 && !Ev.ltI b a && !Ev.ltI (Int.ofNat cap) b) (k a b) none
  | _, _ => none

def cutL {α : Type} (l : List α) (a b : Int) : List α := (l.drop a.toNat).take (b.toNat - a.toNat)

/-- A slice expression of a text, or of a slice that stays, or of a row of the run's own whose room is known. (not at the very end of a slice's room.) -/
def sliceT (X : Cfg) (H : TMem) (t : TypeId) (x : AV) (lo hi : Option AV) (k : AV → TMem → Option β) : Option β :=
  match X.P.underlying t, x with
  | some .string, .str s => boundsT s.length s.length lo hi fun a b => k (.str (cutL s a b)) H
  | some (.slice te), .lst e l => pick2 (Ev.sizeA X.P te == some e.size) (boundsT l.length l.length lo hi fun a b => pick2 (Ev.eqI a 0 || Ev.ltI a (Int.ofNat l.length)) (k (.lst e (cutL l a b)) H) none) none
  | some (.slice te), .osl id off len cap => match H.get id with
    | some (.list _ e _ _ true _) => pick2 (Ev.sizeA X.P te == some e.size) (boundsT len cap lo hi fun a b => pick2 (Ev.eqI a 0 || Ev.ltI a (Int.ofNat cap)) (k (.osl id (off + a.toNat) (b.toNat - a.toNat) (cap - a.toNat)) H) none) none
    | _ => none
  | some (.slice te), .own id n => match H.get id with
    | some (.list t' e l ver ex _) => pick2 (Ev.sizeA X.P te == some e.size && H.mayB id) (boundsT l.length l.length lo hi fun a b => pick2 (Ev.eqI a 0 || Ev.ltI a (Int.ofNat l.length)) (k (.lst e (cutL l a b)) (H.put id (.list t' e l ver ex true))) none) none
    | _ => none
  | some (.slice te), .nils => pick2 (Ev.sizeA X.P te).isSome (boundsT 0 0 lo hi fun _ _ => k .nils H) none
  | some (.array n te), .apt id n' => match H.get id with
    | some (.list _ e _ _ true _) => pick2 (Ev.sizeA X.P te == some e.size && Nat.beq n' n) (boundsT n n lo hi fun a b => pick2 (Ev.eqI a 0 || Ev.ltI a (Int.ofNat n)) (k (.osl id a.toNat (b.toNat - a.toNat) (n - a.toNat)) H) none) none
    | _ => none
  | _, _ => none

/-- x[:hi] that goes on owning the row: what was there is not used any more. -/
def truncT (X : Cfg) (H : TMem) (t : TypeId) (x : AV) (hi : AV) (k : AV → TMem → Option β) : Option β :=
  match X.P.underlying t, x, hi with
  | some (.slice te), .own id _, .int _ b => match H.get id with
    | some (.list t' e l _ _ false) => pick2 (Ev.sizeA X.P te == some e.size && H.mayB id)
        (pick2 (!Ev.ltI b 0 && !Ev.ltI (Int.ofNat l.length) b) (k (.own H.next b.toNat) ((H.put id .dead).push (.list t' e (l.take b.toNat) 0 false false))) none) none
    | _ => none
  | _, _, _ => none

def partsT (ev : Operand → AV) (ps : Array (Nat × Operand)) : List (Nat × AV) := ps.toList.map fun q => (q.1, ev q.2)

def fillT (place : Nat → Option (Nat × Nat)) (cells : List AV) : List (Nat × AV) → Option (List AV)
  | [] => some cells
  | (i, v) :: rest => match place i, cellsT v with
    | some (off, size), some vs => pick2 (Nat.beq vs.length size && Nat.ble (Nat.add off vs.length) cells.length) (fillT place (putL cells off vs) rest) none
    | _, _ => none

def placesOf (P : Program) : List Field → Option (List (Nat × Nat))
  | [] => some []
  | f :: fs => match P.info? f.type, placesOf P fs with
    | some i, some l => some ((f.offset, i.size) :: l)
    | _, _ => none

def zeroT (X : Cfg) (t : TypeId) : Option (List AV) :=
  match Ev.zeroA X.P t with
  | some z => some (z.cells.toList.map ofC)
  | none => none

/-- A new array, as a list. -/
def arrayT (X : Cfg) (H : TMem) (t : TypeId) (k : AV → TMem → Option β) : Option β :=
  match zeroT X t, X.P.underlying t with
  | some z, some (.array n te) => match tyOf X.P 40 te with
    | some e => match unflatN e n z with
      | some l => pick2 (Nat.ble n 1000000) (k (.apt H.next n) (H.push (.list t e l 0 true false))) none
      | none => none
    | none => none
  | _, _ => none

def buildT (X : Cfg) (t : TypeId) (parts : List (Nat × AV)) (k : AV → Option β) : Option β :=
  match zeroT X t, X.P.underlying t with
  | some z, some (.array _ e) => match X.P.info? e with
    | some ie => match fillT (fun i => some (i * ie.size, ie.size)) z parts with
      | some cs => k (.agg cs)
      | none => none
    | none => none
  | some z, some (.struct fs) => match placesOf X.P fs.toList with
    | some pl => match fillT (fun i => pl[i]?) z parts with
      | some cs => k (.agg cs)
      | none => none
    | none => none
  | _, _ => none

/-- Lists of rows that a struct's cells hold are made to stay, and told by their elements. -/
def freezeT (H : TMem) : List AV → Option (List AV × TMem)
  | [] => some ([], H)
  | .own id _ :: r => match H.get id with
    | some (.list t e l ver ex _) => pick2 (H.mayB id) (match freezeT (H.put id (.list t e l ver ex true)) r with
      | some (r', H') => some (.lst e l :: r', H')
      | none => none) none
    | _ => none
  | v :: r => match freezeT H r with
    | some (r', H') => some (v :: r', H')
    | none => none

def repl (n : Nat) (cs : List AV) : List AV := Nat.rec (motive := fun _ => List AV) [] (fun _ r => cs ++ r) n

def buildSliceT (X : Cfg) (H : TMem) (t : TypeId) (len : Nat) (parts : List (Nat × AV)) (k : AV → TMem → Option β) : Option β :=
  match X.P.underlying t with
  | some (.slice te) => match Ev.sizeA X.P te, zeroT X te, tyOf X.P 40 te with
    | some s, some z, some e => pick2 (Nat.ble (Nat.mul len s) 16777216 && Nat.ble len 1000000 && Nat.beq s e.size && Nat.beq z.length s)
        (match fillT (fun i => some (i * s, s)) (repl len z) parts with
          | some cs => match freezeT H cs with
            | some (cs', H') => match unflatN e len cs' with
              | some l => k (.own H'.next len) (H'.push (.list te e l 0 false false))
              | none => none
            | none => none
          | none => none) none
    | _, _, _ => none
  | _ => none

def makeSliceT (X : Cfg) (H : TMem) (t : TypeId) (len cap : AV) (k : AV → TMem → Option β) : Option β :=
  match X.P.underlying t, len, cap with
  | some (.slice te), .int _ l, .int _ c => match X.P.info? te, zeroT X te, tyOf X.P 40 te with
    | some inf, some z, some e => match unflat e z with
      | some (x, []) => pick2 (Nat.ble inf.bytes 1000000 && Nat.beq inf.size e.size && Nat.beq z.length inf.size)
          (pick2 (!Ev.ltI l 0 && !Ev.ltI c l && !Ev.ltI 1000000 c) (k (.osl H.next 0 l.toNat c.toNat) (H.push (.list te e (List.replicate c.toNat x) 0 true false))) none) none
      | _ => none
    | _, _, _ => none
  | _, _, _ => none

/-- What a slice that is appended to has, and its row, which goes. -/
def baseT (H : TMem) (te : TypeId) (e : Ty) : AV → Option (List e.den × TMem)
  | .nils => some ([], H)
  | .own id _ => match H.get id with
    | some (.list t' e' l _ _ false) => pick2 (H.mayB id && Nat.beq t' te) (match castL e' e l with
      | some l' => some (l', H.put id .dead)
      | none => none) none
    | _ => none
  | .osl id 0 len _ => match H.get id with
    | some (.list t' e' l _ true false) => pick2 (H.mayB id && Nat.beq t' te) (match castL e' e l with
      | some l' => some (l'.take len, H.put id .dead)
      | none => none) none
    | _ => none
  | _ => none

def appendT (X : Cfg) (H : TMem) (st xt : TypeId) (s x : AV) (k : AV → TMem → Option β) : Option β :=
  match X.P.underlying st, Ev.isSliceType X.P xt with
  | some (.slice te), true => match X.P.info? te, Ev.zeroA X.P te, tyOf X.P 40 te with
    | some inf, some z, some e => pick2 (Nat.beq inf.size e.size && !(Nat.beq inf.size 0) && !(Nat.beq inf.bytes 0) && Nat.ble inf.bytes 100000 && Nat.beq z.cells.size inf.size)
        (match viewL H e x, baseT H te e s with
          | some new, some (old, H') => pick2 (Nat.ble (old.length + new.length) 1000000) (k (.own H'.next (old.length + new.length)) (H'.push (.list te e (old ++ new) 0 false false))) none
          | _, _ => none) none
    | _, _, _ => none
  | _, _ => none

def copyT (X : Cfg) (H : TMem) (dt : TypeId) (d x : AV) (k : AV → TMem → Option β) : Option β :=
  match X.P.underlying dt, d with
  | some (.slice te), .osl id off len _ => match H.get id, Ev.sizeA X.P te with
    | some (.list t e l ver true false), some s => pick2 (H.mayB id && Nat.beq s e.size)
        (match viewL H e x with
          | some new => k (.int .i64 (Int.ofNat (Nat.min new.length len))) (H.put id (.list t e (putL l off (new.take (Nat.min new.length len))) (ver + 1) true false))
          | none => none) none
    | _, _ => none
  | _, _ => none

/-! ### Numbers, texts -/

def intT (op : BinOp) (k k' : IntKind) (a b : Int) (c : AV → Option β) : Option β :=
  match op with
  | .shl => pick2 (Ev.ltI b 0) none (c (.int k (k.wrap (a * 2 ^ (min b.toNat k.bits)))))
  | .shr => pick2 (Ev.ltI b 0) none (c (.int k (a.fdiv (2 ^ (min b.toNat k.bits)))))
  | op => pick2 (decide (k = k')) (match op with
    | .add => c (.int k (k.wrap (a + b)))
    | .sub => c (.int k (k.wrap (a - b)))
    | .mul => c (.int k (k.wrap (a * b)))
    | .quo => pick2 (Ev.eqI b 0) none (c (.int k (k.wrap (a.tdiv b))))
    | .rem => pick2 (Ev.eqI b 0) none (c (.int k (a.tmod b)))
    | .and => c (.int k (k.wrap (BitVec.ofInt k.bits a &&& BitVec.ofInt k.bits b).toNat))
    | .or => c (.int k (k.wrap (BitVec.ofInt k.bits a ||| BitVec.ofInt k.bits b).toNat))
    | .xor => c (.int k (k.wrap (BitVec.ofInt k.bits a ^^^ BitVec.ofInt k.bits b).toNat))
    | .andNot => c (.int k (k.wrap (BitVec.ofInt k.bits a &&& ~~~(BitVec.ofInt k.bits b)).toNat))
    | .eql => c (.bool (Ev.eqI a b))
    | .neq => c (.bool (!Ev.eqI a b))
    | .lss => c (.bool (Ev.ltI a b))
    | .leq => c (.bool (!Ev.ltI b a))
    | .gtr => c (.bool (Ev.ltI b a))
    | .geq => c (.bool (!Ev.ltI a b))
    | _ => none) none

def strT (op : BinOp) (a b : List UInt8) (c : AV → Option β) : Option β :=
  match op with
  | .add => pick2 (Nat.ble (a.length + b.length) 9223372036854775807) (c (.str (a ++ b))) none
  | .eql => c (.bool (decide (a = b)))
  | .neq => c (.bool (!decide (a = b)))
  | .lss => c (.bool (Op.bytesLess a b))
  | .leq => c (.bool (Op.bytesLess a b || decide (a = b)))
  | .gtr => c (.bool (!(Op.bytesLess a b || decide (a = b))))
  | .geq => c (.bool (!Op.bytesLess a b))
  | _ => none

/-- The cells of a type whose values are held by ==, one by one: 0 a number, 1 a bool, 2 a text. -/
def kindsT (P : Program) : Nat → TypeId → Option (List Nat)
  | 0, _ => none
  | d + 1, t => match P.underlying t with
    | some (.int _) => some [0]
    | some .bool => some [1]
    | some .string => some [2]
    | some (.struct fs) => pick2 (P.stoodInHeld t) none (kindsF P d 0 fs.toList)
    | _ => none
where kindsF (P : Program) : Nat → Nat → List Field → Option (List Nat)
  | 0, _, _ => none
  | _ + 1, _, [] => some []
  | d + 1, off, f :: fs => match kindsT P d f.type, Ev.sizeA P f.type with
    | some ks, some n => pick2 (decide (f.name ≠ "_") && Nat.beq f.offset off && Nat.beq ks.length n)
        (match kindsF P d (off + n) fs with
          | some ls => some (ks ++ ls)
          | none => none) none
    | _, _ => none

def eqK : Nat → AV → AV → Option Bool
  | 0, .int k a, .int k' b => if k = k' then some (decide (a = b)) else none
  | 1, .bool a, .bool b => some (a == b)
  | 2, .str a, .str b => some (decide (a = b))
  | _, _, _ => none

def eqKs : List Nat → List AV → List AV → Option Bool
  | [], [], [] => some true
  | k :: ks, x :: l, y :: m => match eqK k x y with
    | some a => match ks with
      | [] => match l, m with
        | [], [] => some a
        | _, _ => none
      | _ :: _ => match eqKs ks l m with
        | some b => some (a && b)
        | none => none
    | none => none
  | _, _, _ => none

def binT (X : Cfg) (op : BinOp) (t : TypeId) (x y : AV) (c : AV → Option β) : Option β :=
  match x, y with
  | .int k a, .int k' b => intT op k k' a b c
  | .str a, .str b => strT op a b c
  | .bool a, .bool b => match X.P.underlying t, op with
    | some .bool, .eql => c (.bool (a == b))
    | some .bool, .neq => c (.bool (!(a == b)))
    | _, _ => none
  | .agg l, .agg m => pick2 (X.P.eqGuardType X.P.depth t) none (match X.P.underlying t, kindsT X.P 40 t with
    | some (.struct _), some ks => match eqKs ks l m, op with
      | some b, .eql => c (.bool b)
      | some b, .neq => c (.bool (!b))
      | _, _ => none
    | _, _ => none)
  | _, _ => none

def unT (op : UnOp) (x : AV) (c : AV → Option β) : Option β :=
  match op, x with
  | .neg, .int k n => c (.int k (k.wrap (0 - n)))
  | .xor, .int k n => c (.int k (k.wrap (BitVec.ofInt k.bits (if k.signed then -1 else k.max) ^^^ BitVec.ofInt k.bits n).toNat))
  | .not, .bool b => c (.bool (!b))
  | _, _ => none

def convertT (X : Cfg) (H : TMem) (src dst : TypeId) (x : AV) (c : AV → TMem → Option β) : Option β :=
  match X.P.underlying src, X.P.underlying dst, x with
  | some (.int _), some (.int k), .int _ n => c (.int k (k.wrap n)) H
  | some .string, some .string, .str s => c (.str s) H
  | some .string, some (.slice te), .str s => match X.P.underlying te, Ev.sizeA X.P te with
    | some (.int .u8), some 1 => pick2 (Nat.ble s.length 1000000) (c (.own H.next s.length) (H.push (.list te (.int .u8) (s.map u8I) 0 false false))) none
    | _, _ => none
  | some (.slice _), some .string, .str _ => none
  | some (.slice te), some .string, x => match X.P.underlying te with
    | some (.int .u8) => match viewL H (.int .u8) x with
      | some l => c (.str (l.map iU8)) H
      | none => none
    | _ => none
  | _, _, _ => none

def lenT (X : Cfg) (t : TypeId) (x : AV) (c : AV → Option β) : Option β :=
  match X.P.underlying t, x with
  | some (.slice _), .lst _ l => c (.int .i64 l.length)
  | some (.slice _), .nils => c (.int .i64 0)
  | some (.slice _), .own _ n => c (.int .i64 n)
  | some (.slice _), .osl _ _ n _ => c (.int .i64 n)
  | some .string, .str s => c (.int .i64 s.length)
  | _, _ => none

/-- A call: arguments, memory, what follows. -/
abbrev CallT (β : Type) := FuncId → List AV → TMem → (AV → TMem → Option β) → Option β

def hasBody (P : Program) (id : FuncId) : Bool :=
  match P.funcs[id]? with
  | some fn => fn.body.isSome
  | none => false

/-- A value that leads to no memory, as the model has it. -/
def toV : AV → Option Value
  | .int k n => some (.int k n)
  | .bool b => some (.bool b)
  | .str s => some (.string ⟨s.toArray⟩)
  | .flt n => some (.float .f64 n)
  | .fn f [] [] => some (.func (.func f) #[] #[])
  | _ => none

def ofR : Value → AV
  | .tuple cs => .tup (cs.toList.map ofC)
  | v => ofV v

def orUndef : Option Value → Value
  | some v => v
  | none => undef

/-- A call of a function without a body, by the model's own entry. -/
def extT (X : Cfg) (ev : Operand → AV) (o : Oper) (k : AV → Option β) : Option β :=
  pick2 (o.op.operands.toList.all fun x => (toV (ev x)).isSome)
    (match Ev.semPure X.P (execOp (fun x => orUndef (toV (ev x))) o) with
      | some (.value v) => pick2 (Ev.addrFree v) (k (ofR v)) none
      | _ => none) none

/-- A function without a body that hands back its one argument. -/
def isSameT (P : Program) (id : FuncId) : Bool :=
  match P.funcs[id]? with
  | some fn => pick2 fn.body.isSome false (fn.name == "internal/abi.NoEscape" && fn.origin == "")
  | none => false

/-- What an operation does. tr: the slots whose slice expressions go on owning. -/
def opT (X : Cfg) (call : CallT β) (tr : List Tmp) (ev : Operand → AV) (o : Oper) (H : TMem) (k : AV → TMem → Option β) : Option β :=
  match o.op with
  | .move x => k (ev x) H
  | .assign x => k (ev x) H
  | .pick c a b => match ev c with
    | .bool t => pick2 t (k (ev a) H) (k (ev b) H)
    | _ => none
  | .binOp op t x y _ => binT X op t (ev x) (ev y) fun v => k v H
  | .unOp op _ x => unT op (ev x) fun v => k v H
  | .alloc t => pick2 (X.ar t) (arrayT X H t k) (match zeroT X t with
    | some z => k (.ptr H.next 0) (H.push (.cells z))
    | none => none)
  | .box t x => match Ev.sizeA X.P t, cellsT (ev x) with
    | some _, some cs => k (.ptr H.next 0) (H.push (.cells cs))
    | _, _ => none
  | .build t ps => buildT X t (partsT ev ps) fun v => k v H
  | .buildSlice t len ps => buildSliceT X H t len (partsT ev ps) k
  | .load t a => loadT X H t (ev a) fun v => k v H
  | .store t a x => storeT X H t (ev a) (ev x) fun H' => k .unk H'
  | .nilCheck x => match ev x with
    | .ptr id off => k (.ptr id off) H
    | .apt id n => k (.apt id n) H
    | .fpt cs => k (.fpt cs) H
    | .fn f a b => k (.fn f a b) H
    | _ => none
  | .fieldAddr s x f => fieldT X s (ev x) f fun v => k v H
  | .indexAddr t x ix => idxT X H t (ev x) (ev ix) fun v => k v H
  | .extract x i => match ev x with
    | .tup vs => match vs[i]? with
      | some v => k v H
      | none => none
    | _ => none
  | .makeSlice t l c => makeSliceT X H t (ev l) (ev c) k
  | .makeFunc (.func f) first captured => k (.fn f (first.toList.map ev) (captured.toList.map ev)) H
  | .slice t x lo hi none => match o.dst, lo, hi with
    | some d, none, some h => pick2 (tr.any (Nat.beq d)) (truncT X H t (ev x) (ev h) k) (sliceT X H t (ev x) (lo.map ev) (hi.map ev) k)
    | _, _, _ => sliceT X H t (ev x) (lo.map ev) (hi.map ev) k
  | .field t x f => match X.P.underlying t, ev x with
    | some (.struct fs), .agg cs => match fs[f]? with
      | some fd => headT X fd.type (cs.drop fd.offset) fun v => k v H
      | none => none
    | _, _ => none
  | .index t x ix => match X.P.underlying t, ev x, ev ix with
    | some .string, .str s, .int _ i => Option.rec (motive := fun _ => Option β) none (fun c => k (.int .u8 (u8I c)) H) (getI s i)
    | some (.array n te), .agg cs, .int _ i => match Ev.sizeA X.P te with
      | some s => selT i (fun j => headT X te (cs.drop (Nat.mul j s)) fun v => k v H) n 0
      | none => none
    | _, _, _ => none
  | .convert s d x => convertT X H s d (ev x) k
  | .call c => match c.callee with
    | .value f => match ev f with
      | .fn id a b => pick2 (hasBody X.P id) (call id (a ++ (c.args.toList.map ev ++ b)) H k)
          (pick2 (isSameT X.P id)
            (match a, b, c.args.toList with
              | [], [], [x] => k (ev x) H
              | _, _, _ => none)
            (extT X ev o fun v => k v H))
      | _ => none
    | .builtin .len => match c.args[0]?, c.argTypes[0]? with
      | some x, some t => lenT X t (ev x) fun v => k v H
      | _, _ => none
    | .builtin .append => match c.args[0]?, c.args[1]?, c.argTypes[0]?, c.argTypes[1]? with
      | some s, some x, some st, some xt => appendT X H st xt (ev s) (ev x) k
      | _, _, _, _ => none
    | .builtin .copy => match c.args[0]?, c.args[1]?, c.argTypes[0]? with
      | some d, some x, some dt => copyT X H dt (ev d) (ev x) k
      | _, _, _ => none
    | .builtin .cap => match c.args[0]?, c.argTypes[0]? with
      | some x, some t => match X.P.underlying t, ev x with
        | some (.slice _), .osl id off len cap => match H.get id with
          | some (.list _ _ _ _ true _) => k (.int .i64 cap) H
          | _ => none
        | _, _ => none
      | _, _ => none
    | _ => none
  | _ => none

/-- The slot of the operation of this number. -/
def slotOf (ops : List Oper) (j : Nat) : Option Tmp :=
  match ops[j]? with
  | some o => o.dst
  | none => none

/-- A step: an operation that is guarded parts the ways; the guard is known behind. What is not done leaves an empty tuple, and so does what is guarded by it. -/
def stepT (X : Cfg) (call : CallT β) (tr : List Tmp) (ops : List Oper) (o : Oper) (f : TFr) (H : TMem) (k : TFr → TMem → Option β) : Option β :=
  match o.guard with
  | none => opT X call tr (f.eval X) o H fun v H' => k (f.put o.dst v) H'
  | some (j, want) => match slotOf ops j with
    | some d => match f.get d with
      | .bool b => pick2 b
          (pick2 want (opT X call tr ((f.put (some d) (.bool true)).eval X) o H fun v H' => k ((f.put (some d) (.bool true)).put o.dst v) H') (k ((f.put (some d) (.bool true)).put o.dst (.tup [])) H))
          (pick2 want (k ((f.put (some d) (.bool false)).put o.dst (.tup [])) H) (opT X call tr ((f.put (some d) (.bool false)).eval X) o H fun v H' => k ((f.put (some d) (.bool false)).put o.dst v) H'))
      | .tup _ => k (f.put o.dst (.tup [])) H
      | _ => none
    | none => none

def stepLT (X : Cfg) (call : CallT β) (tr : List Tmp) (ops : List Oper) (lk : Bool) (o : Oper) (f : TFr) (H : TMem) (k : TFr → TMem → Option β) : Option β :=
  pick2 lk (stepT X call tr ops o f { H with lk := H.next } fun f' H' => k f' { H' with lk := H.lk }) (stepT X call tr ops o f H k)

def opsT (X : Cfg) (call : CallT β) (tr : List Tmp) (ops : List Oper) (l : List (Oper × Bool)) (k : TFr → TMem → Option β) : TFr → TMem → Option β :=
  List.rec (motive := fun _ => TFr → TMem → Option β) k (fun q _ go f H => stepLT X call tr ops q.2 q.1 f H go) l

def regionT (X : Cfg) (call : CallT β) (tr : List Tmp) (ops : Array Oper) (draw : Bool) (f : TFr) (H : TMem) (k : TFr → TMem → Option β) : Option β :=
  pick2 (Ev.okOps X.G ops.toList)
    (pick2 draw
      (Option.rec (motive := fun _ => Option β) none (fun l => opsT X call tr ops.toList l k f H) (Ev.plan X.P ops))
      (opsT X call tr ops.toList (ops.toList.map fun o => (o, false)) k f H))
    none

/-! ### Notes on code: which slots are kept at a place -/

/-- at: what is told here (slots to be kept); then of the parts. -/
inductive Ann where
  | none
  | node (keep : Option (List Tmp)) (a b : Ann)

def Ann.keep : Ann → Option (List Tmp)
  | .none => Option.none
  | .node k _ _ => k
def Ann.l : Ann → Ann
  | .none => .none
  | .node _ a _ => a
def Ann.r : Ann → Ann
  | .none => .none
  | .node _ _ b => b

/-- Where a number stands in a list, from n on. -/
def placeOf (id : Nat) : List Nat → Nat → Option Nat
  | [], _ => none
  | x :: l, n => pick2 (Nat.beq x id) (some n) (placeOf id l (n + 1))

mutual
def renA (ids : List Nat) : AV → AV
  | .own id n => match placeOf id ids 0 with
    | some i => .own i n
    | none => .unk
  | .osl id a b c => match placeOf id ids 0 with
    | some i => .osl i a b c
    | none => .unk
  | .ptr id off => match placeOf id ids 0 with
    | some i => .ptr i off
    | none => .unk
  | .apt id n => match placeOf id ids 0 with
    | some i => .apt i n
    | none => .unk
  | .ept _ _ _ _ _ => .unk
  | .fn f a b => .fn f (renL ids a) (renL ids b)
  | .agg l => .agg (renL ids l)
  | .tup l => .tup (renL ids l)
  | .int k n => .int k n
  | .bool b => .bool b
  | .str s => .str s
  | .flt n => .flt n
  | .lst e l => .lst e l
  | .nils => .nils
  | .fpt cs => .fpt (renL ids cs)
  | .nilp => .nilp
  | .opq v => .opq v
  | .unk => .unk
def renL (ids : List Nat) : List AV → List AV
  | [] => []
  | v :: l => renA ids v :: renL ids l
end

def renR (ids : List Nat) : Row → Row
  | .dead => .dead
  | .cells cs => .cells (renL ids cs)
  | .list t e l _ ex ro => .list t e l 0 ex ro

/-- Rows that a value leads to, ahead of those that are told already. -/
def refsA (acc : List Nat) : AV → List Nat
  | .own id _ => pick2 (acc.any (Nat.beq id)) acc (acc ++ [id])
  | .osl id _ _ _ => pick2 (acc.any (Nat.beq id)) acc (acc ++ [id])
  | .ptr id _ => pick2 (acc.any (Nat.beq id)) acc (acc ++ [id])
  | .apt id _ => pick2 (acc.any (Nat.beq id)) acc (acc ++ [id])
  | _ => acc

def refsIn (H : TMem) (acc : List Nat) (id : Nat) : List Nat :=
  match H.get id with
  | some (.cells cs) => cs.foldl refsA acc
  | _ => acc

def nodupB : List Nat → Bool
  | [] => true
  | x :: l => !l.any (Nat.beq x) && nodupB l

def keptRow (H : TMem) (ids : List Nat) (id : Nat) : Row :=
  match H.get id with
  | some r => renR ids r
  | none => .dead

/-- A frame and a memory with these slots alone; rows by their order. -/
def normT (keep : List Tmp) (f : TFr) (H : TMem) (k : TFr → TMem → Option β) : Option β :=
  let roots := keep.foldl (fun acc t => refsA acc (f.get t)) (List.range H.par)
  let ids := roots.foldl (refsIn H) roots
  pick2 (nodupB ids && (ids.take H.par == List.range H.par) && Nat.beq H.lk 0)
    (k (keep.foldl (fun g t => g.put (some t) (renA ids (f.get t))) ⟨f.n, .e⟩)
      (ids.foldl (fun M id => M.push (keptRow H ids id)) ⟨0, 0, H.par, .e⟩)) none

def atT (a : Ann) (f : TFr) (H : TMem) (k : TFr → TMem → Option β) : Option β :=
  match a.keep with
  | none => k f H
  | some l => normT l f H k

abbrev KT (β : Type) := Leave → TFr → TMem → Option β

def seqK (y : TFr → TMem → Option β) (k : KT β) : KT β := fun lv f H =>
  match lv with
  | .normal => y f H
  | .exit id => k (.exit id) f H
  | .ret => k .ret f H
  | .goto l => k (.goto l) f H

def blockK (id : Nat) (k : KT β) : KT β := fun lv f H =>
  match lv with
  | .exit id' => pick2 (Nat.beq id' id) (k .normal f H) (k (.exit id') f H)
  | .normal => k .normal f H
  | .ret => k .ret f H
  | .goto l => k (.goto l) f H

/-- At most n rounds; what is kept is kept ahead of each round but the first. -/
def loopT (a : Ann) (body : TFr → TMem → KT β → Option β) (k : KT β) (n : Nat) : TFr → TMem → Option β :=
  Nat.rec (motive := fun _ => TFr → TMem → Option β) (fun _ _ => none) (fun _ go f H => body f H (seqK (fun f H => atT a f H go) k)) n

abbrev JumpT (β : Type) := Code → Code → TFr → TMem → KT β → Option β

def scopeK (c : Code) (J : JumpT β) (k : KT β) : KT β := fun lv f H =>
  match lv with
  | .goto l => match findLabel c l with
    | some rest => J c rest f H k
    | none => k (.goto l) f H
  | .normal => k .normal f H
  | .exit id => k (.exit id) f H
  | .ret => k .ret f H

def codeT (X : Cfg) (call : CallT β) (tr : List Tmp) (J : JumpT β) (rounds : Nat) (c : Code) : Ann → TFr → TMem → KT β → Option β :=
  Code.rec (motive := fun _ => Ann → TFr → TMem → KT β → Option β)
    (fun _ f H k => k .normal f H)
    (fun _ ops draw a f H k => atT a f H fun f H => regionT X call tr ops draw f H fun f H => k .normal f H)
    (fun _ _ x y a f H k => atT a f H fun f H => x a.l f H (seqK (fun f H => y a.r f H k) k))
    (fun c _ _ x y a f H k => atT a f H fun f H => pick2 (Ev.operandOk X.G c) (match f.eval X c with
      | .bool b => pick2 b (x a.l f H k) (y a.r f H k)
      | _ => none) none)
    (fun id _ b a f H k => atT a f H fun f H => b a.l f H (blockK id k))
    (fun _ b a f H k => atT a f H (loopT a (fun f H k => b a.l f H k) k rounds))
    (fun _ _ _ _ _ _ _ _ _ _ => none)
    (fun id _ f H k => k (.exit id) f H)
    (fun c b a f H k => atT a f H fun f H => b a.l f H (scopeK c J k))
    (fun _ _ f H k => k .normal f H)
    (fun l _ f H k => k (.goto l) f H)
    (fun _ f H k => k .ret f H)
    (fun _ _ _ _ _ => none) c

/-- The code behind a label: at most n jumps. -/
def jumpsR (X : Cfg) (call : CallT β) (tr : List Tmp) (ja : Ann) (rounds : Nat) (n : Nat) : JumpT β :=
  Nat.rec (motive := fun _ => JumpT β) (fun _ _ _ _ _ => none)
    (fun _ go c rest f H k => codeT X call tr (fun c rest f H k => atT ja f H fun f H => go c rest f H k) rounds rest ja.l f H (scopeK c (fun c rest f H k => atT ja f H fun f H => go c rest f H k) k)) n

/-- ja: what is kept at each jump. -/
def jumpsT (X : Cfg) (call : CallT β) (tr : List Tmp) (ja : Ann) (rounds : Nat) (n : Nat) : JumpT β :=
  fun c rest f H k => atT ja f H fun f H => jumpsR X call tr ja rounds n c rest f H k

def resultT (X : Cfg) (H : TMem) (f : TFr) (r : ResultVar) (k : AV → Option β) : Option β :=
  match r with
  | .tmp t => k (f.get t)
  | .cell x t => loadT X H t (f.get x) k

def resultsT (X : Cfg) (H : TMem) (f : TFr) (k : List AV → Option β) : List ResultVar → Option β
  | [] => k []
  | r :: l => resultT X H f r fun v => resultsT X H f (fun vs => k (v :: vs)) l

def oneT : List AV → AV
  | [v] => v
  | l => .tup l

def returnK (X : Cfg) (fn : Func) (k : AV → TMem → Option β) : KT β := fun lv f H =>
  match lv with
  | .normal => resultsT X H f (fun vs => k (oneT vs) H) fn.results.toList
  | .ret => resultsT X H f (fun vs => k (oneT vs) H) fn.results.toList
  | _ => none

/-- Notes on a function: of its code, of its jumps, of slice expressions that go on owning. -/
structure FnAnn where
  ann : Ann
  ja : Ann
  tr : List Tmp

def enterT (X : Cfg) (call : CallT β) (an : FnAnn) (rounds : Nat) (id : FuncId) (args : List AV) (H : TMem) (k : AV → TMem → Option β) : Option β :=
  match X.P.funcs[id]? with
  | some fn => match fn.body with
    | some c => pick2 (Nat.ble args.length fn.ntmps)
        (codeT X call an.tr (jumpsT X call an.tr an.ja rounds rounds) rounds c an.ann ((TFr.mk fn.ntmps .e).fill 0 args) H (returnK X fn k)) none
    | none => none
  | none => none

end
end
end Go.Tv

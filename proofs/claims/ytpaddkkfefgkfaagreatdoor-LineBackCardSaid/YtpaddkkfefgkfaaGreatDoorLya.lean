/- A closed run of a function, by an evaluator with memory of its own: its definitions. The evaluator's values and memory beside the machine's own: how the two are held against each other. Each operation of the evaluator's is the machine's own. The evaluator's operations, second part: slices, appends, copies, conversions. The evaluator's operations, third part: append, copy, conversions, places; then all of them. -/
import Derived.Calls
import Derived.Orders
import Derived.LoopN
import Derived.KernelRfl
import Derived.Laws.Tables
import Derived.Below
import Derived.Laws.Cells
import Derived.Laws.Append
import Derived.Laws.IdiomStrings
import Derived.Laws.BytesString
import Derived.Still
import Derived.Lib.Builder
import Derived.Lib.UnsafeStr
import Derived.IntWalk
set_option linter.unusedVariables false
set_option linter.unusedSimpArgs false

namespace Go.Ev
noncomputable section
inductive Tr (α:Type) where
 |e
 |n (l:Tr α) (v:Option α) (r:Tr α)
abbrev pick2 {α:Type} (b:Bool) (x y:α):α:=Bool.rec (motive:=λ_=>α) y x b
def Tr.get {α:Type} (t:Tr α):Nat->Option α :=
 Tr.rec (motive:=λ_=>Nat->Option α) (λ_=>none)
  (λ_ v _ gl gr k=>pick2 (Nat.beq k 0) v (pick2 (Nat.beq (Nat.mod k 2) 1) (gl (Nat.div k 2)) (gr (Nat.sub (Nat.div k 2) 1)))) t
def Tr.mk1 {α:Type} (x:α) (d:Nat):Nat->Tr α :=
 Nat.rec (motive:=λ_=>Nat->Tr α) (λ_=>.n .e (some x) .e)
  (λ_ go k=>pick2 (Nat.beq k 0) (.n .e (some x) .e) (pick2 (Nat.beq (Nat.mod k 2) 1) (.n (go (Nat.div k 2)) none .e) (.n .e none (go (Nat.sub (Nat.div k 2) 1))))) d
def Tr.set {α:Type} (t:Tr α):Nat->α->Option (Tr α) :=
 Tr.rec (motive:=λ_=>Nat->α->Option (Tr α)) (λk x=>some (Tr.mk1 x k k))
  (λl v r gl gr k x=>pick2 (Nat.beq k 0) (some (.n l (some x) r))
   (pick2 (Nat.beq (Nat.mod k 2) 1)
    (Option.rec (motive:=λ_=>Option (Tr α)) none (λl'=>some (.n l' v r)) (gl (Nat.div k 2) x))
    (Option.rec (motive:=λ_=>Option (Tr α)) none (λr'=>some (.n l v r')) (gr (Nat.sub (Nat.div k 2) 1) x)))) t
def Tr.full {α:Type}:Nat->Tr α
 |0=>.e
 |d+1=>.n (Tr.full d) none (Tr.full d)
structure Blk where
 cells:List Value
 elem:TypeId
 live:Bool
 fix:Bool
structure Mem where
 size:Nat
 lk:Nat
 t:Tr Blk
def Mem.get (H:Mem) (i:Nat):Option Blk:=pick2 (Nat.ble (Nat.succ i) H.size) (H.t.get i) none
def Mem.push (H:Mem) (b:Blk):Option Mem :=
 Option.rec (motive:=λ_=>Option Mem) none (λt=>some ⟨Nat.add H.size 1,H.lk,t⟩) (H.t.set H.size b)
def Mem.set (H:Mem) (i:Nat) (b:Blk):Option Mem :=
 pick2 (Nat.ble (Nat.succ i) H.size) (pick2 (Nat.ble H.lk i) (Option.rec (motive:=λ_=>Option Mem) none (λt=>some ⟨H.size,H.lk,t⟩) (H.t.set i b)) none) none
def Mem.empty:Mem:=⟨0,0,.e⟩
structure Fr where
 n:Nat
 t:Tr Value
def Fr.get (f:Fr) (i:Nat):Value:=pick2 (Nat.ble (Nat.succ i) f.n) (Option.rec (motive:=λ_=>Value) undef (λv=>v) (f.t.get i)) undef
def Fr.put (f:Fr) (dst:Option Tmp) (v:Value):Option Fr :=
 Option.rec (motive:=λ_=>Option Fr) (some f)
  (λd=>pick2 (Nat.ble (Nat.succ d) f.n) (Option.rec (motive:=λ_=>Option Fr) none (λt=>some ⟨f.n,t⟩) (f.t.set d v)) (some f)) dst
def Fr.eval (f:Fr):Operand->Value
 |.tmp t=>f.get t
 |.const v=>v
 |.global g=>.pointer (some ⟨g,0,none⟩)
 |.func f=>.func (.func f) #[] #[]
def CM (n:Nat):Nat:=cond (Nat.blt n 31) 5 (cond (Nat.blt n 127) 7 (cond (Nat.blt n 511) 9 12))
def Fr.fill (f:Fr):Nat->List Value->Option Fr
 |_,[]=>some f
 |
  i,v::l=>match f.put (some i) v with
  |some f'=>f'.fill (i+1) l
  |none=>none
mutual
def addrFree:Value->Bool
 |.bool _=>true
 |.int _ _=>true
 |.float _ _=>true
 |.complex _ _ _=>true
 |.string _=>true
 |.pointer none=>true
 |.pointer (some _)=>false
 |.slice none _ _=>true
 |.slice (some _) _ _=>false
 |.map none=>true
 |.map (some _)=>false
 |.chan _=>false
 |.func _ a b=>fG a&&fG b
 |.nilFunc=>true
 |.iface _ v=>addrFree v
 |.nilIface=>true
 |.agg cs=>fG cs
 |.tuple cs=>fG cs
def fG:Array Value->Bool
 |⟨l⟩=>addrFreeL l
def addrFreeL:List Value->Bool
 |[]=>true
 |v::l=>addrFree v&&addrFreeL l
end
def semPure (P:Program) {α:Type}:Sem α->Option α
 |.pure a=>some a
 |.program k=>semPure P (k P)
 |.mark _ k=>semPure P k
 |_=>none
def aM (P:Program) (t:TypeId):Option Nat:=(P.info? t).map (·.size)
def rW (P:Program) (t:TypeId):Option Bool :=
 match P.underlying t with
 |some (.struct _)=>some true
 |some (.array _ _)=>some true
 |some _=>some false
 |none=>none
def alive (H:Mem) (i:Nat):Option Blk :=
 match H.get i with
 |some b=>cond b.live (some b) none
 |none=>none
def jf:Value->Bool
 |.chan _=>true
 |_=>false
def bT (H:Mem) (i off n:Nat):Option (List Value) :=
 match alive H i with
 |some b=>if off+n<=b.cells.length then pick2 (((b.cells.drop off).take n).any jf) none (some ((b.cells.drop off).take n)) else none
 |none=>none
def yf:Option Value->Option Value
 |some v=>pick2 (jf v) none (some v)
 |none=>none
def kS (P:Program) (H:Mem) (t:TypeId) (v:Value):Option Value :=
 match v with
 |
  .pointer (some ⟨i,off,none⟩) =>
  match rW P t,aM P t with
  |some true,some n=>(bT H i off n).map λl=>.agg l.toArray
  |
   some false,_=>match alive H i with
   |some b=>yf b.cells[off]?
   |none=>none
  |_,_=>none
 |_=>none
def plainCell:Value->Bool
 |.agg _=>false
 |.tuple _=>false
 |_=>true
def ij (l:List Value) (off:Nat):List Value->List Value
 |[]=>l
 |v::vs=>ij (l.set off v) (off+1) vs
def cD (H:Mem) (i off:Nat) (vs:List Value):Option Mem :=
 if vs.isEmpty then some H else
 match alive H i with
 |some b=>if off+vs.length<=b.cells.length&&vs.all plainCell then H.set i { b with cells:=ij b.cells off vs } else none
 |none=>none
def lR (P:Program) (H:Mem) (t:TypeId) (v x:Value):Option Mem :=
 match v,aM P t with
 |.pointer (some ⟨i,off,none⟩),some n=>if x.cells.size=n then cD H i off x.cells.toList else none
 |_,_=>none
def ow (H:Mem) (t:TypeId) (cs:List Value):Option (Value×Mem) :=
 match H.push ⟨cs,t,true,true⟩ with
 |some H'=>some (.pointer (some ⟨H.size,0,none⟩),H')
 |none=>none
def eo (H:Mem) (t:TypeId) (cs:List Value) (len cap:Nat):Option (Value×Mem) :=
 match H.push ⟨cs,t,true,false⟩ with
 |some H'=>some (.slice (some ⟨H.size,0,none⟩) len cap,H')
 |none=>none
def ox (H:Mem) (t:TypeId) (cs:List Value) (len cap:Nat):Option (Value×Mem) :=
 match H.push ⟨cs,t,true,true⟩ with
 |some H'=>some (.slice (some ⟨H.size,0,none⟩) len cap,H')
 |none=>none
def fj (P:Program) (t:TypeId):Option Value :=
 match P.info? t with
 |
  some i=>match i.zero with
  |some z=>if addrFree z then some z else none
  |none=>none
 |none=>none
def Lm (i:Int) (len:Nat):Option Nat :=
 match i with
 |.ofNat m=>pick2 (Nat.ble (Nat.succ m) len) (some m) none
 |.negSucc _=>none
def CN (P:Program) (t:TypeId) (x ix:Value):Option Value :=
 match P.underlying t,x,ix with
 |
  some (.slice e),.slice (some ⟨b,off,none⟩) len _,.int _ i =>
  match aM P e,Lm i len with
  |some s,some m=>some (.pointer (some ⟨b,Nat.add off (Nat.mul m s),none⟩))
  |_,_=>none
 |
  some (.array len e),.pointer (some ⟨b,off,none⟩),.int _ i =>
  match aM P e,Lm i len with
  |some s,some m=>some (.pointer (some ⟨b,Nat.add off (Nat.mul m s),none⟩))
  |_,_=>none
 |_,_,_=>none
def rX (P:Program) (s:TypeId) (x:Value) (f:Nat):Option Value :=
 match P.underlying s,x with
 |
  some (.struct fs),.pointer (some ⟨b,off,none⟩) =>
  match fs[f]? with
  |
   some fd=>match aM P fd.type with
   |some n=>if n=0 then none else some (.pointer (some ⟨b,off+fd.offset,none⟩))
   |none=>none
  |none=>none
 |_,_=>none
def gQ:Value->Nat->Option Nat
 |.int _ i,y=>if 0<=i/\i<=y then some i.toNat else none
 |_,_=>none
def ep (P:Program) (t:TypeId) (x:Value) (lo hi:Option Value):Option Value :=
 match P.underlying t,x with
 |
  some (.slice e),.slice a len cap =>
  match (match hi with|some v=>gQ v cap|none=>some len) with
  |
   some h=>match (match lo with|some v=>gQ v h|none=>some 0) with
   |
    some l=>match a,aM P e with
    |some ⟨b,off,none⟩,some s=>if (l=cap/\l≠0)\/cap<l then none else some (.slice (some ⟨b,off+l*s,none⟩) (h-l) (cap-l))
    |none,some _=>some (.slice none (h-l) (cap-l))
    |some ⟨b,off,some q⟩,some _=>if h=0 then some (.slice (some ⟨b,off,some q⟩) 0 0) else none
    |_,_=>none
   |none=>none
  |none=>none
 |_,_=>none
def yg (P:Program) (t:TypeId) (cs:Array Value) (off:Nat):Option Value :=
 match rW P t,aM P t with
 |some true,some n=>some (.agg (cs.extract off (off+n)))
 |some false,_=>cs[off]?
 |_,_=>none
def tj (P:Program) (t:TypeId) (x:Value) (f:Nat):Option Value :=
 match P.underlying t,x with
 |
  some (.struct fs),.agg cs=>match fs[f]? with
  |some fd=>yg P fd.type cs fd.offset
  |none=>none
 |_,_=>none
def qG (P:Program) (t:TypeId) (x ix:Value):Option Value :=
 match P.underlying t,x,ix with
 |
  some (.array len e),.agg cs,.int _ i=>match aM P e,Lm i len with
  |some s,some m=>yg P e cs (Nat.mul m s)
  |_,_=>none
 |_,_,_=>none
def yh (P:Program) (t:TypeId) (parts:List (Nat×Value)):Option Value :=
 if (fj P t).isSome then (P.built t parts).map .agg else none
def oy (P:Program) (e:TypeId) (n:Nat):Option (Array Value) :=
 match aM P e,fj P e with
 |some s,some z=>if n*s=0 then some #[] else some ((Array.range (n*s)).map (z.cells[· % z.cells.size]!))
 |_,_=>none
def fU (P:Program) (H:Mem) (t:TypeId) (len:Nat) (parts:List (Nat×Value)):Option (Value×Mem) :=
 match P.underlying t with
 |
  some (.slice e)=>match aM P e,oy P e len with
  |
   some s,some z=>if len*s>2 ^ 24 then none else
   match Instr.fill (λi=>some (i*s,s)) z parts with
   |some cs=>ox H e cs.toList len len
   |none=>none
  |_,_=>none
 |_=>none
def jB (P:Program) (H:Mem) (t:TypeId) (len cap:Value):Option (Value×Mem) :=
 match P.underlying t,len,cap with
 |
  some (.slice e),.int _ l,.int _ c=>match P.info? e,oy P e c.toNat with
  |some inf,some z=>if 0<=l/\l<=c/\c<=1000000/\inf.bytes<=1000000 then ox H e z.toList l.toNat c.toNat else none
  |_,_=>none
 |_,_,_=>none
def cK (H:Mem) (s n:Nat):Value->Option (List Value)
 |.slice (some ⟨b,off,none⟩) _ _=>bT H b off (n*s)
 |.slice none _ _=>if n=0 then some [] else none
 |.slice (some ⟨_,_,some _⟩) _ _=>if n=0 then some [] else none
 |.string x=>if s=1/\n<=x.size then some ((x.extract 0 n).data.toList.map λb=>.int .u8 b.toNat) else none
 |_=>none
def rY:Value->Option Nat
 |.slice _ n _=>some n
 |.string s=>some s.size
 |_=>none
def eO (P:Program) (t:TypeId):Bool :=
 match P.underlying t with
 |some (.slice _)=>true
 |some .string=>true
 |_=>false
def kill (H:Mem) (i:Nat):Option Mem :=
 match H.get i with
 |some b=>H.set i { b with live:=false,fix:=false }
 |none=>none
def lg (P:Program) (H:Mem) (st xt:TypeId) (s x:Value):Option (Value×Mem) :=
 match P.underlying st,s,eO P xt with
 |
  some (.slice e),.slice base sLen sCap,true =>
  match P.info? e,fj P e,rY x with
  |
   some inf,some z,some n =>
   match cK H inf.size n x,cK H inf.size sLen s with
   |
    some new,some old =>
    if inf.size=0\/inf.bytes=0\/inf.bytes>100000\/sLen+n>1000000\/sCap>1000000\/z.cells.size≠inf.size \/ !new.all plainCell then none else
    if sLen+n<=sCap then
     match base with
     |some ⟨b,off,none⟩=>(cD H b (off+sLen*inf.size) new).map λH'=>(.slice base (sLen+n) sCap,H')
     |none=>if n=0 then some (s,H) else none
     |_=>none
    else
     match base with
     |
      some ⟨b,off,none⟩ =>
      if off=0/\old.length=sLen*inf.size/\(alive H b).any (λk=>decide (k.cells.length=sCap*inf.size)&&(k.elem==e)) then
       match kill H b with
       |some H1=>eo H1 e (old++new) (sLen+n) (sLen+n)
       |none=>none
      else none
     |none=>eo H e (old++new) (sLen+n) (sLen+n)
     |_=>none
   |_,_=>none
  |_,_,_=>none
 |_,_,_=>none
def Bg (P:Program) (H:Mem) (dt:TypeId) (d x:Value):Option (Value×Mem) :=
 match P.underlying dt,d,rY x with
 |
  some (.slice e),.slice base dLen _,some n =>
  match aM P e with
  |
   some s=>match cK H s (Nat.min n dLen) x with
   |
    some cs=>match base with
    |some ⟨b,off,none⟩=>(cD H b off cs).map λH'=>(goInt (Nat.min n dLen),H')
    |none=>some (goInt (Nat.min n dLen),H)
    |_=>none
   |none=>none
  |none=>none
 |_,_,_=>none
def xL:Value->Option UInt8
 |.int .u8 n=>some (UInt8.ofNat n.toNat)
 |_=>none
def lS:List Value->ByteArray->Option ByteArray
 |[],acc=>some acc
 |
  v::vs,acc=>match xL v with
  |some b=>lS vs (acc.push b)
  |none=>none
def dc (P:Program) (H:Mem) (src dst:TypeId) (x:Value):Option (Value×Mem) :=
 match P.underlying src,P.underlying dst,x with
 |
  some (.slice e),some .string,.slice a len _ =>
  match P.underlying e,a with
  |
   some (.int .u8),some ⟨b,off,none⟩=>match bT H b off len with
   |some cs=>(lS cs .empty).map λs=>(.string s,H)
   |none=>none
  |some (.int .u8),none=>some (.string .empty,H)
  |some (.int .u8),some ⟨_,_,some _⟩=>some (.string .empty,H)
  |_,_=>none
 |
  some .string,some (.slice e),.string s =>
  match P.underlying e,aM P e with
  |some (.int .u8),some 1=>eo H e (s.data.toList.map λb=>.int .u8 b.toNat) s.size s.size
  |_,_=>none
 |
  some (.slice _),some (.slice e),.slice (some ⟨i,off,none⟩) l c =>
  match alive H i,P.underlying e with
  |some _,some (.int .u8)=>pick2 (Nat.ble H.lk i&&Nat.beq src dst) (some (.slice (some ⟨i,off,none⟩) l c,H)) none
  |_,_=>none
 |
  some (.pointer t),some .unsafePointer,.pointer (some ⟨i,0,none⟩) =>
  match alive H i,aM P t with
  |some b,some n=>pick2 (Nat.ble 1 n&&Nat.ble 1 b.cells.length) (some (.pointer (some ⟨i,0,none⟩),H)) none
  |_,_=>none
 |
  some .unsafePointer,some (.pointer u),.pointer (some ⟨i,0,none⟩) =>
  match alive H i,aM P u with
  |some b,some _=>pick2 (b.fix&&liesAt P P.depth b.elem (b.cells.length/P.cellsOf b.elem) 0 u 1) (some (.pointer (some ⟨i,0,none⟩),H)) none
  |_,_=>none
 |_,_,_=>none
def aQ (ev:Operand->Value) (o:Op):Bool:=o.operands.toList.all λx=>addrFree (ev x)
def pureA (P:Program) (ev:Operand->Value) (o:Oper):Option Value :=
 match o.op with
 |.select _ _=>none
 |
  _=>if aQ ev o.op then
   match semPure P (execOp ev o) with
   |some (.value v)=>if addrFree v then some v else none
   |_=>none
  else none
def forced (n:Int):Int :=
 match n with
 |.ofNat 0=>0
 |.ofNat (m+1)=>.ofNat (m+1)
 |.negSucc 0 => -1
 |.negSucc (m+1)=>.negSucc (m+1)
def Ex (n:Int):Bool :=
 match n with
 |.ofNat m=>Nat.blt m 9223372036854775808
 |.negSucc m=>Nat.blt m 9223372036854775808
def ltI (a b:Int):Bool :=
 match a,b with
 |.ofNat m,.ofNat n=>Nat.ble (Nat.succ m) n
 |.ofNat _,.negSucc _=>false
 |.negSucc _,.ofNat _=>true
 |.negSucc m,.negSucc n=>Nat.ble (Nat.succ n) m
def eqI (a b:Int):Bool :=
 match a,b with
 |.ofNat m,.ofNat n=>Nat.beq m n
 |.negSucc m,.negSucc n=>Nat.beq m n
 |_,_=>false
def Hq:IntKind->IntKind->Bool
 |.i64,.i64=>true
 |.u8,.u8=>true
 |.i32,.i32=>true
 |.u64,.u64=>true
 |_,_=>false
def JM (op:BinOp) (a b:Int):Option Bool :=
 match op with
 |.eql=>some (eqI a b)
 |.neq=>some (!eqI a b)
 |.lss=>some (ltI a b)
 |.leq=>some (!ltI b a)
 |.gtr=>some (ltI b a)
 |.geq=>some (!ltI a b)
 |_=>none
def JN (op:BinOp) (k:IntKind) (a b:Int):Option Int :=
 match k,op with
 |.i64,.add=>pick2 (Ex (Int.add a b)) (some (forced (Int.add a b))) none
 |.i64,.sub=>pick2 (Ex (Int.sub a b)) (some (forced (Int.sub a b))) none
 |_,_=>none
def yj (op:BinOp) (x y:Value):Option Value :=
 match x,y with
 |.int k a,.int k' b=>pick2 (Hq k k')
  (match JM op a b with
   |some t=>some (.bool t)
   |
    none=>match JN op k a b with
    |some n=>some (.int k n)
    |none=>none)
  none
 |_,_=>none
def nJ (P:Program) (op:BinOp) (t:TypeId) (x y:Value):Option Value :=
 match P.underlying t,x,y with
 |
  some .bool,.bool a,.bool b=>match op with
  |.eql=>some (.bool (pick2 a b (!b)))
  |.neq=>some (.bool (pick2 a (!b) b))
  |_=>none
 |
  some (.slice _),.slice (some _) _ _,.slice none _ _=>match op with
  |.eql=>some (.bool false)
  |.neq=>some (.bool true)
  |_=>none
 |
  some (.pointer _),.pointer (some _),.pointer none=>match op with
  |.eql=>some (.bool false)
  |.neq=>some (.bool true)
  |_=>none
 |
  some (.pointer e),.pointer (some ⟨i,a,none⟩),.pointer (some ⟨j,b,none⟩)=>pick2 (Nat.beq i j&&Nat.beq a b&&(aM P e).isSome) (match op with
  |.eql=>some (.bool true)
  |.neq=>some (.bool false)
  |_=>none) none
 |
  some (.pointer _),.pointer none,.pointer none=>match op with
  |.eql=>some (.bool true)
  |.neq=>some (.bool false)
  |_=>none
 |_,_,_=>none
def gR (ev:Operand->Value) (ps:Array (Nat×Operand)):List (Nat×Value):=ps.toList.map λq=>(q.1,ev q.2)
def withMem (H:Mem) (v:Option Value):Option (Value×Mem):=Option.rec (motive:=λ_=>Option (Value×Mem)) none (λv=>some (v,H)) v
def orElse (x y:Option Value):Option Value:=Option.rec (motive:=λ_=>Option Value) y (λv=>some v) x
def yl (c a b:Value) (H:Mem):Option (Value×Mem) :=
 match c with
 |.bool t=>some (pick2 t a b,H)
 |_=>none
def pF (P:Program) (ev:Operand->Value) (o:Oper) (op:BinOp) (t:TypeId) (x y:Value) (H:Mem):Option (Value×Mem) :=
 withMem H (orElse (yj op x y) (orElse (nJ P op t x y) (pureA P ev o)))
def lp (P:Program) (t:TypeId) (H:Mem):Option (Value×Mem) :=
 match fj P t with
 |some z=>ow H t z.cells.toList
 |none=>none
def Bh (P:Program) (t:TypeId) (x:Value) (H:Mem):Option (Value×Mem) :=
 match aM P t with
 |some _=>ow H t x.cells.toList
 |none=>none
def jY (P:Program) (t:TypeId) (a x:Value) (H:Mem):Option (Value×Mem) :=
 match lR P H t a x with
 |some H'=>some (undef,H')
 |none=>none
def lU (x:Value) (H:Mem):Option (Value×Mem) :=
 match x with
 |.pointer (some a)=>some (.pointer (some a),H)
 |.func (.func f) a b=>some (.func (.func f) a b,H)
 |_=>none
def lI (x:Value) (k:Nat) (H:Mem):Option (Value×Mem) :=
 match x with
 |.tuple vs=>withMem H (vs.toList[k]?)
 |_=>none
def j8 (P:Program) (t:TypeId) (x ix:Value):Option Value :=
 match P.underlying t,x,ix with
 |
  some .string,.string s,.int _ (.ofNat i)=>match s.data.toList[i]? with
  |some b=>some (.int .u8 (.ofNat b.toNat))
  |none=>none
 |_,_,_=>none
def pG (P:Program) (t:TypeId):Bool :=
 match P.underlying t with
 |some (.array _ _)=>true
 |_=>false
def ke (P:Program) (H:Mem) (t:TypeId) (x:Value) (lo hi:Option Value):Option Value :=
 match P.underlying t,x with
 |
  some (.array n e),.pointer (some ⟨b,off,none⟩) =>
  match (match hi with|some v=>gQ v n|none=>some n) with
  |
   some h=>match (match lo with|some v=>gQ v h|none=>some 0) with
   |
    some l=>match alive H b,aM P e with
    |some k,some s=>pick2 k.fix (some (.slice (some ⟨b,pick2 (Nat.beq n l) off (Nat.add off (Nat.mul l s)),none⟩) (h-l) (n-l))) none
    |_,_=>none
   |none=>none
  |none=>none
 |_,_=>none
def jg (P:Program) (ev:Operand->Value) (o:Oper) (t:TypeId) (x:Value) (lo hi:Option Value) (H:Mem):Option (Value×Mem) :=
 pick2 (pG P t) (withMem H (ke P H t x lo hi)) (withMem H (orElse (ep P t x lo hi) (pureA P ev o)))
def CO (P:Program) (ev:Operand->Value) (o:Oper) (t:TypeId) (x ix:Value) (H:Mem):Option (Value×Mem) :=
 withMem H (orElse (j8 P t x ix) (orElse (qG P t x ix) (pureA P ev o)))
def gS (P:Program) (d:TypeId) (x:Value):Option Value :=
 match P.underlying d,x with
 |some (.int .i64),.int .u8 (.ofNat n)=>pick2 (Nat.ble n 255) (some (.int .i64 (.ofNat n))) none
 |some (.int .i64),.int .i64 n=>pick2 (Ex n) (some (.int .i64 n)) none
 |_,_=>none
def eu (P:Program) (ev:Operand->Value) (o:Oper) (s d:TypeId) (x:Value) (H:Mem):Option (Value×Mem) :=
 match orElse (match P.underlying s with|some _=>gS P d x|none=>none) (pureA P ev o) with
 |some v=>some (v,H)
 |none=>dc P H s d x
def nu (P:Program) (t:TypeId) (x:Value):Option Value :=
 match P.underlying t,x with
 |some (.slice _),.slice _ n _=>some (goInt n)
 |some .string,.string s=>some (goInt s.size)
 |_,_=>none
def tn (P:Program) (ev:Operand->Value) (o:Oper) (args:Array Operand) (ats:Array TypeId) (H:Mem):Option (Value×Mem) :=
 match args[0]?,ats[0]? with
 |some x,some t=>withMem H (orElse (nu P t (ev x)) (pureA P ev o))
 |_,_=>none
def lV (P:Program) (ev:Operand->Value) (args:Array Operand) (ats:Array TypeId) (H:Mem):Option (Value×Mem) :=
 match args[0]?,args[1]?,ats[0]?,ats[1]? with
 |some s,some x,some st,some xt=>lg P H st xt (ev s) (ev x)
 |_,_,_,_=>none
def uR (P:Program) (ev:Operand->Value) (args:Array Operand) (ats:Array TypeId) (H:Mem):Option (Value×Mem) :=
 match args[0]?,args[1]?,ats[0]? with
 |some d,some x,some dt=>Bg P H dt (ev d) (ev x)
 |_,_,_=>none
abbrev aN:=FuncId->List Value->Mem->Option (Value×Mem)
def jC (P:Program) (call:aN) (fv:Value) (args:List Value) (H:Mem):Option (Value×Mem) :=
 match fv with
 |
  .func (.func id) first captured=>match P.funcs[id]? with
  |some fn=>pick2 fn.body.isSome (call id (first.toList++(args++captured.toList)) H) none
  |none=>none
 |_=>none
def pH (P:Program) (fv:Value):Bool :=
 match fv with
 |
  .func (.func id) ⟨[]⟩ ⟨[]⟩=>match P.funcs[id]? with
  |some fn=>pick2 fn.body.isSome false (fn.name == "internal/abi.NoEscape" && fn.origin == "")
  |none=>false
 |_=>false
def ym (P:Program) (ev:Operand->Value) (o:Oper) (fv:Value) (args:List Value) (H:Mem):Option (Value×Mem) :=
 match args with
 |[x]=>pick2 (pH P fv) (some (x,H)) (withMem H (pureA P ev o))
 |_=>withMem H (pureA P ev o)
def xz (P:Program) (H:Mem) (t:TypeId) (x:Value):Option Value :=
 match P.underlying t,x with
 |
  some (.slice _),.slice (some ⟨i,_,none⟩) _ c=>match alive H i with
  |some b=>pick2 b.fix (some (goInt c)) none
  |none=>none
 |some (.slice _),.slice none _ c=>some (goInt c)
 |_,_=>none
def nK (P:Program) (ev:Operand->Value) (args:Array Operand) (ats:Array TypeId) (H:Mem):Option (Value×Mem) :=
 match args[0]?,ats[0]? with
 |some x,some t=>withMem H (xz P H t (ev x))
 |_,_=>none
def oz:Value->Option Value
 |.slice (some a) _ c=>pick2 (Nat.beq c 0) none (some (.pointer (some a)))
 |.slice none _ _=>some (.pointer none)
 |_=>none
def iN (ev:Operand->Value) (args:Array Operand) (H:Mem):Option (Value×Mem) :=
 match args.toList with
 |[x]=>withMem H (oz (ev x))
 |_=>none
def tq:Value->Bool
 |.int .u8 (.ofNat n)=>Nat.ble n 255
 |_=>false
def yo (P:Program) (H:Mem) (pt:TypeId) (p n:Value):Option (Value×Mem) :=
 match p,n,P.underlying pt with
 |.pointer _,.int .i64 (.ofNat 0),_=>some (.string .empty,H)
 |
  .pointer (some ⟨i,0,none⟩),.int .i64 (.ofNat (m+1)),some (.pointer e) =>
  match alive H i,bT H i 0 (m+1) with
  |some b,some cs=>pick2 ((b.elem==e)&&Nat.beq (P.cellsOf e) 1&&Nat.ble (m+1) 1000000&&cs.all tq)
   (match lS cs .empty,kill H i with
    |some s,some H'=>some (.string s,H')
    |_,_=>none) none
  |_,_=>none
 |_,_,_=>none
def uS (P:Program) (ev:Operand->Value) (args:Array Operand) (ats:Array TypeId) (H:Mem):Option (Value×Mem) :=
 match args.toList,ats.toList with
 |[p,n],[pt,_]=>yo P H pt (ev p) (ev n)
 |_,_=>none
def lJ (P:Program) (ev:Operand->Value) (o:Oper) (b:Builtin) (args:Array Operand) (ats:Array TypeId) (H:Mem):Option (Value×Mem) :=
 match b with
 |.len=>tn P ev o args ats H
 |.append=>lV P ev args ats H
 |.copy=>uR P ev args ats H
 |.cap=>nK P ev args ats H
 |.unsafeSliceData=>iN ev args H
 |.unsafeString=>uS P ev args ats H
 |_=>withMem H (pureA P ev o)
def bp (P:Program) (call:aN) (ev:Operand->Value) (o:Oper) (c:Call) (H:Mem):Option (Value×Mem) :=
 match c.callee with
 |
  .value f=>match jC P call (ev f) (c.args.toList.map ev) H with
  |some r=>some r
  |none=>ym P ev o (ev f) (c.args.toList.map ev) H
 |.builtin b=>lJ P ev o b c.args c.argTypes H
 |.invoke _ _=>none
def cO (b:Blk):Bool:=pick2 b.live false b.fix
def mapOf (H:Mem) (i:Nat):Option Blk :=
 match H.get i with
 |some b=>pick2 (cO b) (some b) none
 |none=>none
def iA:List UInt8->List UInt8->Bool
 |[],[]=>true
 |a::l,b::m=>pick2 (Nat.beq a.toNat b.toNat) (iA l m) false
 |_,_=>false
def Ey:TypeDesc->Value->Value->Option Bool
 |.int d,.int k a,.int k' b=>pick2 (decide (k=d)&&decide (k=k')) (some (eqI a b)) none
 |.string,.string a,.string b=>some (iA a.data.toList b.data.toList)
 |_,_,_=>none
def mM:TypeDesc->Bool
 |.int _=>true
 |.string=>true
 |_=>false
def lW (d:TypeDesc) (k:Value):List Value->Nat->Option (Option (Nat×Value))
 |[],_=>some none
 |[_],_=>none
 |
  q::v::l,i=>match Ey d k q with
  |some true=>some (some (i,v))
  |some false=>lW d k l (i+1)
  |none=>none
def gz (P:Program) (t:TypeId) (r:Option Value) (H:Mem):Option (Value×Mem) :=
 match P.underlying t,r with
 |
  some (.map _ _),none=>match H.push ⟨[],t,false,true⟩ with
  |some H'=>some (.map (some H.size),H')
  |none=>none
 |
  some (.map _ _),some (.int _ _)=>match H.push ⟨[],t,false,true⟩ with
  |some H'=>some (.map (some H.size),H')
  |none=>none
 |_,_=>none
def jh (H:Mem):Value->Option (List Value)
 |.map none=>some []
 |
  .map (some i)=>match mapOf H i with
  |some b=>some b.cells
  |none=>none
 |_=>none
def oX (P:Program) (H:Mem) (t:TypeId) (x k:Value) (ok:Bool):Option Value :=
 match P.underlying t with
 |
  some (.map kt e)=>match P.underlying kt,fj P e,jh H x with
  |
   some d,some z,some cs=>pick2 (mM d) (match lW d k cs 0 with
   |some (some (_,v))=>some (pick2 ok (.tuple #[v,.bool true]) v)
   |some none=>some (pick2 ok (.tuple #[z,.bool false]) z)
   |none=>none) none
  |_,_,_=>none
 |_=>none
def ji (P:Program) (t:TypeId) (m k x:Value) (H:Mem):Option (Value×Mem) :=
 match P.underlying t,m with
 |
  some (.map kt _),.map (some i)=>match P.underlying kt,mapOf H i with
  |
   some d,some b=>pick2 (mM d&&addrFree k) (match lW d k b.cells 0 with
   |
    some (some (j,_))=>match H.set i { b with cells:=b.cells.set (2*j+1) x } with
    |some H'=>some (undef,H')
    |none=>none
   |
    some none=>match H.set i { b with cells:=b.cells++[k,x] } with
    |some H'=>some (undef,H')
    |none=>none
   |none=>none) none
  |_,_=>none
 |_,_=>none
def opA (P:Program) (call:aN) (ev:Operand->Value) (o:Oper) (H:Mem):Option (Value×Mem) :=
 match o.op with
 |.move x=>some (ev x,H)
 |.assign x=>some (ev x,H)
 |.pick c a b=>yl (ev c) (ev a) (ev b) H
 |.binOp op t x y _=>pF P ev o op t (ev x) (ev y) H
 |.alloc t=>lp P t H
 |.box t x=>Bh P t (ev x) H
 |.build t ps=>withMem H (yh P t (gR ev ps))
 |.buildSlice t len ps=>fU P H t len (gR ev ps)
 |.load t a=>withMem H (kS P H t (ev a))
 |.store t a x=>jY P t (ev a) (ev x) H
 |.nilCheck x=>lU (ev x) H
 |.fieldAddr s x f=>withMem H (rX P s (ev x) f)
 |.indexAddr t x ix=>withMem H (CN P t (ev x) (ev ix))
 |.extract x k=>lI (ev x) k H
 |.makeSlice t l c=>jB P H t (ev l) (ev c)
 |.makeFunc fn first captured=>some (.func fn (first.map ev) (captured.map ev),H)
 |.slice t x lo hi none=>jg P ev o t (ev x) (lo.map ev) (hi.map ev) H
 |.field t x f=>withMem H (tj P t (ev x) f)
 |.index t x ix=>CO P ev o t (ev x) (ev ix) H
 |.convert s d x=>eu P ev o s d (ev x) H
 |.call c=>bp P call ev o c H
 |.makeMap t r=>gz P t (r.map ev) H
 |.lookup t x k ok=>withMem H (oX P H t (ev x) (ev k) ok)
 |.mapUpdate t m k x=>ji P t (ev m) (ev k) (ev x) H
 |.insert t m k x=>ji P t (ev m) (ev k) (ev x) H
 |_=>withMem H (pureA P ev o)
def xA:Value->Option (Option Nat)
 |.float .f64 n=>some (some n)
 |.chan (some 1)=>some none
 |_=>none
def Hr:Option Nat->Value
 |some n=>.float .f64 n
 |none=>.chan (some 1)
def SK (op:BinOp) (a b:Option Nat):Option Nat :=
 match a,b with
 |
  some x,some y=>match op with
  |.add=>Ieee.double.add x y
  |.sub=>Ieee.double.sub x y
  |.mul=>Ieee.double.mul x y
  |_=>none
 |_,_=>none
def CP (op:BinOp) (x y:Value):Option Value :=
 match xA x,xA y with
 |
  some a,some b=>match op with
  |.add=>some (Hr (SK .add a b))
  |.sub=>some (Hr (SK .sub a b))
  |.mul=>some (Hr (SK .mul a b))
  |
   .neq=>match a,b with
   |some _,some _=>none
   |_,_=>some (.bool true)
  |_=>none
 |_,_=>none
def nL (a b:Nat):Nat:=2 ^ a*(2*b+1)
def oY:Nat->Nat->Nat×Nat
 |0,_=>(0,0)
 |f+1,n=>pick2 (Nat.beq (n%2) 0) ((oY f (n/2)).1+1,(oY f (n/2)).2) (0,n/2)
def yp:Option Nat->Nat
 |none=>0
 |some n=>n+1
def oC:Nat->Option Nat
 |0=>none
 |n+1=>some n
def CQ:Value->Option (Option Nat×Option Nat)
 |.complex .f64 a b=>some (some a,some b)
 |.chan (some (k+2))=>some (oC (oY k k).1,oC (oY k k).2)
 |_=>none
def cxV (a b:Option Nat):Value :=
 match a,b with
 |some a,some b=>.complex .f64 a b
 |a,b=>.chan (some (nL (yp a) (yp b)+2))
def CS (P:Program) (fv:Value):Bool :=
 match fv with
 |
  .func (.func id) ⟨[]⟩ ⟨[]⟩=>match P.funcs[id]? with
  |some fn=>pick2 fn.body.isSome false (fn.name == "math.Float64bits" && fn.origin == "")
  |none=>false
 |_=>false
def AO (P:Program) (ev:Operand->Value) (o:Oper):Option Value :=
 match o.op with
 |.binOp op _ x y _=>CP op (ev x) (ev y)
 |
  .call c=>match c.callee,c.args.toList.map ev with
  |
   .builtin .complex,[x,y]=>match xA x,xA y with
   |some a,some b=>some (cxV a b)
   |_,_=>none
  |
   .builtin .real,[x]=>match CQ x with
   |some q=>some (Hr q.1)
   |none=>none
  |
   .builtin .imag,[x]=>match CQ x with
   |some q=>some (Hr q.2)
   |none=>none
  |.value f,[.chan (some 1)]=>pick2 (CS P (ev f)) (some (.chan none)) none
  |_,_=>none
 |_=>none
def bt (G:Nat):Operand->Bool
 |.global g=>Nat.blt g G
 |.const v=>addrFree v
 |_=>true
def pI (P:Program) (t:TypeId):Bool :=
 match P.underlying t with
 |some (.slice _)=>true
 |_=>false
def Hs (P:Program) (t:TypeId):Bool :=
 match P.underlying t with
 |some (.pointer _)=>true
 |some .unsafePointer=>true
 |_=>false
def quiet (P:Program):Op->Bool
 |.alloc _=>false
 |.box _ _=>false
 |.buildSlice _ _ _=>false
 |.store _ _ _=>false
 |.makeSlice _ _ _=>false
 |.convert s d _ => !pI P s && !pI P d && !Hs P s
 |.slice t _ _ _ _ => !pG P t
 |.call { callee:=.builtin .len,.. }=>true
 |.call { callee:=.builtin .cap,.. }=>true
 |.call { callee:=.builtin .min,.. }=>true
 |.call { callee:=.builtin .max,.. }=>true
 |.call _=>false
 |.makeMap _ _=>false
 |.mapUpdate _ _ _ _=>false
 |.insert _ _ _ _=>false
 |_=>true
inductive Leave where
 |normal
 |exit (id:Nat)
 |ret
 |goto (l:Nat)
def pJ (ops:List Oper) (f:Fr) (j:Nat):Option Bool :=
 match ops[j]? with
 |
  some o=>match o.dst with
  |
   some d=>match f.get d with
   |.bool b=>some b
   |_=>none
  |none=>none
 |none=>none
def gB (o:Oper) (ops:List Oper) (f:Fr):Bool :=
 match o.guard with
 |none=>true
 |
  some (j,want)=>match pJ ops f j with
  |some b=>pick2 b want (!want)
  |none=>false
def nM (f:Fr) (dst:Option Tmp) (r:Option (Value×Mem)):Option (Fr×Mem) :=
 match r with
 |
  some (v,H)=>match f.put dst v with
  |some f'=>some (f',H)
  |none=>none
 |none=>none
def dB (P:Program) (call:aN) (ops:List Oper) (o:Oper) (f:Fr) (H:Mem):Option (Fr×Mem) :=
 pick2 (gB o ops f) (nM f o.dst (opA P call f.eval o H)) (nM f o.dst (some (undef,H)))
def nN (P:Program) (call:aN) (ops:List Oper) (o:Oper) (f:Fr) (H:Mem):Option (Fr×Mem) :=
 match dB P call ops o f H with
 |some r=>some r
 |none=>pick2 (gB o ops f) (nM f o.dst (withMem H (AO P f.eval o))) none
def Ez (P:Program) (call:aN) (ops:List Oper) (l:List Oper):Fr->Mem->Option (Fr×Mem) :=
 List.rec (motive:=λ_=>Fr->Mem->Option (Fr×Mem)) (λf H=>some (f,H))
  (λo _ go f H=>Option.rec (motive:=λ_=>Option (Fr×Mem)) none (λr=>go r.1 r.2) (nN P call ops o f H)) l
def Nx (G:Nat) (ops:List Oper):Bool:=ops.all λo=>o.op.operands.toList.all (bt G)
def bit (m i:Nat):Bool:=Nat.beq (Nat.land (Nat.shiftRight m i) 1) 1
def nv (m i:Nat):Nat:=Nat.lor m (Nat.shiftLeft 1 i)
def ez:Op->Bool
 |.load _ _=>true
 |.call { callee:=.builtin .cap,.. }=>true
 |.lookup _ _ _ _=>true
 |_=>false
structure PO where
 o:Oper
 i:Nat
 pre:Nat
 Sw:Nat
 looks:Nat
 q:Bool
 ld:Bool
 Ny:Bool
def lq (o:Oper):Nat:=o.after.toList.foldr (λe m=>pick2 (Region.binds .any e) (nv m e.on) m) 0
def nO (ops:Array Oper) (o:Oper):Nat:=(o.looksAt ops).foldr (λd m=>nv m d) 0
def mN (pre:Nat):List PO->Nat
 |[]=>pre
 |p::l=>pick2 (bit pre p.i) (Nat.lor p.Sw (mN pre l)) (mN pre l)
def makes (_P:Program) (o:Oper):Bool :=
 match o.op,o.guard,o.dst with
 |.alloc _,none,some _=>true
 |.buildSlice _ _ _,none,some _=>true
 |_,_,_=>false
def kU (P:Program) (ev:Operand->Value) (o:Oper):Option (TypeId×List Value×Option Nat) :=
 match o.op with
 |
  .alloc t=>match fj P t with
  |some z=>some (t,z.cells.toList,none)
  |none=>none
 |
  .buildSlice t len ps=>match P.underlying t with
  |
   some (.slice e)=>match aM P e,oy P e len with
   |
    some s,some z=>if len*s>2 ^ 24 then none else
    match Instr.fill (λi=>some (i*s,s)) z (gR ev ps) with
    |some cs=>some (e,cs.toList,some len)
    |none=>none
   |_,_=>none
  |_=>none
 |_=>none
def rI:Option Nat->Nat->Value
 |none,n=>.pointer (some ⟨n,0,none⟩)
 |some len,n=>.slice (some ⟨n,0,none⟩) len len
def ny (P:Program) (ops:Array Oper):List Oper->Nat->List PO->List PO
 |[],_,acc=>acc
 |o::l,i,acc=>ny P ops l (i+1) (⟨o,i,lq o,mN (lq o) acc,nO ops o,quiet P o.op,ez o.op,makes P o⟩::acc)
def nA (L:Nat) (p:PO):Bool:=pick2 (bit L p.i) false (Nat.beq (Nat.land p.pre L) p.pre)
def yq (x y:PO):Bool :=
 match x.o.dst,y.o.dst with
 |some d,some e => !bit y.looks d && !Nat.beq d e && !bit x.looks e
 |some d,none => !bit y.looks d
 |none,some e => !bit x.looks e
 |none,none=>true
def VJ (pos:List PO) (L:Nat) (p:PO):Bool:=pos.all λr=>Nat.beq r.i p.i||bit L r.i||bit r.pre p.i||yq p r
def Ht (pos:List PO) (L:Nat) (p:PO):Bool:=pos.all λr => !r.ld || !bit L r.i||bit p.Sw r.i
def CT (l:List PO):Option (PO×List PO) :=
 match l.filter (λp => !p.Ny) with
 |[p]=>some (p,l.filter λp=>p.Ny)
 |
  []=>match l with
  |p::ms=>some (p,ms)
  |[]=>none
 |_=>none
def W0 (pos:List PO) (p:PO) (ms:List PO):Bool :=
 ms.all λm=>yq m p&&(pos.all λr => !bit r.pre m.i||bit r.Sw p.i)&&ms.all λm'=>Nat.beq m.i m'.i||yq m m'
def oZ (pos:List PO):Nat->Nat->Option (List (Oper×Bool))
 |
  0,L=>match pos.find? (nA L) with
  |none=>some []
  |some _=>none
 |
  n+1,L=>match pos.find? λp=>p.q&&nA L p with
  |some p=>pick2 (VJ pos L p)
   (match oZ pos n (nv L p.i) with
    |some l=>some ((p.o,false)::l)
    |none=>none)
   none
  |
   none=>match pos.filter (nA L) with
   |[]=>some []
   |
    q::r=>match CT (q::r) with
    |some (p,ms)=>pick2 (W0 pos p ms)
     (match oZ pos n (nv L p.i) with
      |some l=>some ((p.o,!Ht pos L p)::l)
      |none=>none)
     none
    |none=>none
def Bi (ops:List Oper):Bool:=ops.all λo=>match o.op with | .select _ _=>false|_=>true
def Hu (P:Program) (ops:Array Oper):Option (List (Oper×Bool)):=pick2 (Bi ops.toList) (oZ (ny P ops ops.toList 0 []).reverse ops.toList.length 0) none
def plan (P:Program) (ops:Array Oper):Option (List (Oper×Bool)):=Hu P ops
def jE (ev:Operand->Value) (o:Oper) (R:Option (List Nat)):Option (List Nat) :=
 match o.op with
 |
  .load _ x=>match R,ev x with
  |some l,.pointer (some ⟨b,_,_⟩)=>some (b::l)
  |_,_=>none
 |op=>pick2 (ez op) none R
def ee:Op->Option Operand
 |.call { callee:=.builtin .append,args,.. }=>args[0]?
 |_=>none
def fH:Op->Option Operand
 |.store _ a _=>some a
 |_=>none
def nB (R:Option (List Nat)) (s:Value):Bool :=
 match s,R with
 |.slice none _ _,_=>true
 |.slice (some ⟨b,_,_⟩) _ _,some l=>l.all λj => !Nat.beq j b
 |.pointer (some ⟨b,_,_⟩),some l=>l.all λj => !Nat.beq j b
 |_,_=>false
def cE (R:Option (List Nat)) (ev:Operand->Value) (o:Oper):Bool :=
 match fH o.op with
 |some s=>nB R (ev s)
 |none=>false
def kf (P:Program) (call:aN) (ops:List Oper) (R:Option (List Nat)) (lk:Bool) (o:Oper) (f:Fr) (H:Mem):Option (Fr×Mem) :=
 pick2 lk
  (match ee o.op with
   |some s=>pick2 (nB R (f.eval s)) (dB P call ops o f H) none
   |
    none=>pick2 (cE R f.eval o) (dB P call ops o f H)
    (match dB P call ops o f { H with lk:=H.size } with
     |some (f',H')=>some (f',{ H' with lk:=H.lk })
     |none=>none))
  (dB P call ops o f H)
def rJ (P:Program) (call:aN) (ops:List Oper) (l:List (Oper×Bool)):Option (List Nat)->Fr->Mem->Option (Fr×Mem) :=
 List.rec (motive:=λ_=>Option (List Nat)->Fr->Mem->Option (Fr×Mem)) (λ_ f H=>some (f,H))
  (λq _ go R f H=>Option.rec (motive:=λ_=>Option (Fr×Mem)) none (λr=>go (jE f.eval q.1 R) r.1 r.2) (kf P call ops R q.2 q.1 f H)) l
abbrev Out:=Option (Leave×Fr×Mem)
def andThen (r:Out) (k:Fr->Mem->Out):Out :=
 match r with
 |some (.normal,f,H)=>k f H
 |some (.exit id,f,H)=>some (.exit id,f,H)
 |some (.ret,f,H)=>some (.ret,f,H)
 |some (.goto l,f,H)=>some (.goto l,f,H)
 |none=>none
def fW (id:Nat) (r:Out):Out :=
 match r with
 |some (.exit id',f,H)=>pick2 (Nat.beq id' id) (some (.normal,f,H)) (some (.exit id',f,H))
 |some (.normal,f,H)=>some (.normal,f,H)
 |some (.ret,f,H)=>some (.ret,f,H)
 |some (.goto l,f,H)=>some (.goto l,f,H)
 |none=>none
def wC (body:Fr->Mem->Out) (n:Nat):Fr->Mem->Out :=
 Nat.rec (motive:=λ_=>Fr->Mem->Out) (λ_ _=>none) (λ_ go f H=>andThen (body f H) go) n
def atEnd (r:Option (Fr×Mem)):Out:=Option.rec (motive:=λ_=>Out) none (λq=>some (.normal,q.1,q.2)) r
def jZ (P:Program) (G:Nat) (call:aN) (ops:Array Oper) (draw:Bool) (f:Fr) (H:Mem):Out :=
 pick2 (Nx G ops.toList)
  (pick2 draw
   (Option.rec (motive:=λ_=>Out) none (λl=>atEnd (rJ P call ops.toList l (some []) f H)) (plan P ops))
   (atEnd (Ez P call ops.toList ops.toList f H)))
  none
def Bj (v:Value) (x y:Fr->Mem->Out) (f:Fr) (H:Mem):Out :=
 match v with
 |.bool b=>pick2 b (x f H) (y f H)
 |_=>none
abbrev o4:=Code->Code->Fr->Mem->Out
def eT (c:Code) (J:o4) (r:Out):Out :=
 match r with
 |
  some (.goto l,f,H)=>match findLabel c l with
  |some rest=>J c rest f H
  |none=>some (.goto l,f,H)
 |some (.normal,f,H)=>some (.normal,f,H)
 |some (.exit id,f,H)=>some (.exit id,f,H)
 |some (.ret,f,H)=>some (.ret,f,H)
 |none=>none
def fk:Value:=.pointer (some ⟨0,0,some 0⟩)
def uT (fid:FuncId):FuncId:=Nat.add 4294967296 fid
def lX (o:Oper):Bool :=
 match o.op with
 |.defer _=>false
 |_=>true
def rZ (c:Code):Bool :=
 Code.rec (motive:=λ_=>Bool) true (λ_ ops _=>ops.toList.all lX) (λ_ _ x y=>x&&y) (λ_ _ _ x y=>x&&y) (λ_ _ b=>b) (λ_ b=>b)
  (λ_ _ _ _ _ _=>false) (λ_=>true) (λ_ _=>false) (λ_=>true) (λ_=>true) true (λ_=>true) c
def qH (p:Tmp) (x y:Fr->Mem->Out) (f:Fr) (items:List Value):Mem->Out :=
 List.rec (motive:=λ_=>Mem->Out) (λH=>some (.normal,f,H))
  (λv _ go H=>match f.put (some p) v with
   |
    some f1=>match x f1 H with
    |
     some (.normal,f2,H2)=>match y f2 H2 with
     |some (.normal,_,H3)=>go H3
     |some (.ret,_,H3)=>some (.ret,f,H3)
     |_=>none
    |_=>none
   |none=>none) items
def Hv (P:Program) (G:Nat) (call:aN) (g:Operand) (ps:List Tmp) (plain:Bool) (x y:Fr->Mem->Out) (f:Fr) (H:Mem):Out :=
 pick2 (bt G g&&plain)
  (match ps,f.eval g with
   |
    [p],.func (.func fid) ta caps=>match ta.toList,caps.toList,P.funcs[uT fid]? with
    |
     [],[.pointer (some ⟨i,0,none⟩)],none=>match call (uT fid) [.pointer (some ⟨i,0,none⟩)] H with
     |
      some (.tuple items,H1)=>match items.toList with
      |_::l=>qH p x y f l H1
      |[]=>none
     |_=>none
    |_,_,_=>none
   |_,_=>none) none
def iq (P:Program) (G:Nat) (call:aN) (jump:o4) (rounds:Nat) (c:Code):Fr->Mem->Out :=
 Code.rec (motive:=λ_=>Fr->Mem->Out)
  (λf H=>some (.normal,f,H))
  (λ_ ops draw=>jZ P G call ops draw)
  (λ_ _ x y f H=>andThen (x f H) y)
  (λc _ _ x y f H=>pick2 (bt G c) (Bj (f.eval c) x y f H) none)
  (λid _ b f H=>fW id (b f H))
  (λ_ b=>wC b rounds)
  (λg ps a b x y=>Hv P G call g ps.toList (rZ a&&rZ b) x y)
  (λid f H=>some (.exit id,f,H))
  (λc b f H=>eT c jump (b f H))
  (λ_ f H=>some (.normal,f,H))
  (λl f H=>some (.goto l,f,H))
  (λf H=>some (.ret,f,H))
  (λ_ _ _=>none) c
def r7 (P:Program) (G:Nat) (call:aN) (rounds:Nat) (n:Nat):o4 :=
 Nat.rec (motive:=λ_=>o4) (λ_ _ _ _=>none)
  (λ_ go c rest f H=>eT c go (iq P G call go rounds rest f H)) n
def tu (P:Program) (H:Mem) (f:Fr):ResultVar->Option Value
 |.tmp t=>some (f.get t)
 |.cell x t=>kS P H t (f.get x)
def eA (P:Program) (H:Mem) (f:Fr):List ResultVar->Option (List Value)
 |[]=>some []
 |
  r::l=>match tu P H f r,eA P H f l with
  |some v,some vs=>some (v::vs)
  |_,_=>none
def rz:List Value->Value
 |[v]=>v
 |l=>.tuple l.toArray
def CU (P:Program) (fn:Func) (r:Out):Option (Value×Mem) :=
 match r with
 |some (.normal,f,H)=>withMem H ((eA P H f fn.results.toList).map rz)
 |some (.ret,f,H)=>withMem H ((eA P H f fn.results.toList).map rz)
 |_=>none
abbrev bP:=FuncId->List Value->Option Value
def jF (P:Program) (G:Nat) (call:aN) (rounds:Nat) (id:FuncId) (args:List Value) (H:Mem):Option (Value×Mem) :=
 match P.funcs[id]? with
 |
  some fn=>match fn.body with
  |
   some c=>match (Fr.mk fn.ntmps (Tr.full (CM fn.ntmps))).fill 0 args with
   |some f0=>pick2 (Nat.ble args.length fn.ntmps) (CU P fn (iq P G call (r7 P G call rounds rounds) rounds c f0 H)) none
   |none=>none
  |none=>none
 |none=>none
def EA:Value->Bool
 |.int .u8 _=>true
 |_=>false
def jk:List Value:=[.pointer (some ⟨0,0,none⟩)]
def CV (P:Program) (t:TypeId):Bool :=
 match P.underlying t,fj P t,aM P t with
 |some (.int .u8),some (.int .u8 (.ofNat 0)),some 1=>true
 |_,_,_=>false
def jl (P:Program) (K:bP) (id:FuncId) (args:List Value) (H:Mem):Option (Value×Mem) :=
 match args with
 |
  [.slice (some ⟨i,0,none⟩) n c]=>match K id jk,alive H i with
  |some u,some b=>pick2 (addrFree u&&Nat.ble n c&&Nat.beq b.cells.length c&&Nat.ble c 1000000&&b.cells.all EA&&CV P b.elem)
   (match kill H i with
    |some H'=>some (u,H')
    |none=>none) none
  |_,_=>none
 |_=>none
def iB (a b:Option (Value×Mem)):Option (Value×Mem) :=
 match a with
 |some r=>some r
 |none=>b
def yu (P:Program) (K:bP) (id:FuncId) (args:List Value) (H:Mem):Option (Value×Mem) :=
 match args with
 |
  [.pointer (some ⟨i,0,none⟩)]=>match P.funcs[id]? with
  |
   none=>match alive H i with
   |
    some b=>match b.cells with
    |
     [.string s]=>match K id [fk,.string s] with
     |
      some (.tuple items)=>pick2 (addrFreeL items.toList)
      (match kill H i with
       |some H'=>some (.tuple (fk::items.toList).toArray,H')
       |none=>none) none
     |_=>none
    |_=>none
   |none=>none
  |some _=>none
 |_=>none
def iO (P:Program) (G:Nat) (K:bP) (rounds:Nat) (n:Nat):aN :=
 Nat.rec (motive:=λ_=>aN) (λ_ _ _=>none)
  (λ_ go id args H=>Option.rec (motive:=λ_=>Option (Value×Mem)) (iB (jl P K id args H) (iB (jF P G go rounds id args H) (yu P K id args H)))
   (λv=>pick2 (addrFreeL args&&addrFree v) (some (v,H)) none) (K id args)) n
def answer (P:Program) (K:bP) (rounds depth:Nat) (f:FuncId) (args:List Value):Option Value :=
 match iO P 0 K rounds depth f args Mem.empty with
 |some (v,_)=>pick2 (addrFree v&&addrFreeL args) (some v) none
 |none=>none
def j3:bP:=λ_ _=>none
def Mem.oD (H:Mem) (l:List Blk):Option Mem :=
 match l with
 |[]=>some ⟨H.size,H.size,H.t⟩
 |
  b::l=>match H.push b with
  |some H'=>H'.oD l
  |none=>none
def xM (P:Program) (K:bP) (rows:List Blk) (rounds depth:Nat) (f:FuncId) (args:List Value):Option Value :=
 match Mem.oD Mem.empty rows with
 |
  some H=>match iO P rows.length K rounds depth f args H with
  |some (v,_)=>pick2 (addrFree v&&addrFreeL args&&rows.all λb=>addrFreeL b.cells && !cO b) (some v) none
  |none=>none
 |none=>none
end
end Go.Ev

namespace Go.Ev
open Go.RowKit
abbrev Ren:=Nat->Option (Nat×Nat)
def Ren.le (ρ ρ':Ren):Prop:=∀i x,ρ i=some x->ρ' i=some x
theorem Ren.le_refl (ρ:Ren):ρ.le ρ:=λ_ _ h=>h
theorem Ren.le_trans {a b c:Ren} (h:a.le b) (k:b.le c):a.le c:=λi x hx=>k i x (h i x hx)
def CX (m:Nat):Prop:=(Ieee.double.read m).isNaN=true
def Hi:Option Nat->Nat->Prop
 |some n,x=>x=n
 |none,x=>CX x
def vd:Value:=.slice (some ⟨0,0,some 0⟩) 0 0
inductive VRel (ρ:Ren):Value->Value->Prop where
 |void (a):VRel ρ vd (.slice (some a) 0 0)
 |Ln (k n):VRel ρ (.chan none) (.int k n)
 |nan (m) (h:CX m):VRel ρ (.chan (some 1)) (.float .f64 m)
 |W5 (k x y) (hx:Hi (oC (oY k k).1) x) (hy:Hi (oC (oY k k).2) y):VRel ρ (.chan (some (k+2))) (.complex .f64 x y)
 |bool (b):VRel ρ (.bool b) (.bool b)
 |int (k n):VRel ρ (.int k n) (.int k n)
 |float (k n):VRel ρ (.float k n) (.float k n)
 |complex (k a b):VRel ρ (.complex k a b) (.complex k a b)
 |string (s):VRel ρ (.string s) (.string s)
 |pK:VRel ρ (.pointer none) (.pointer none)
 |ptr (i off r x) (h:ρ i=some (r,x)):VRel ρ (.pointer (some ⟨i,off,none⟩)) (.pointer (some ⟨r,off,none⟩))
 |eB (l c):VRel ρ (.slice none l c) (.slice none l c)
 |slice (i off l c r x) (h:ρ i=some (r,x)):VRel ρ (.slice (some ⟨i,off,none⟩) l c) (.slice (some ⟨r,off,none⟩) l (c+x))
 |yw:VRel ρ (.map none) (.map none)
 |map (i r x) (h:ρ i=some (r,x)):VRel ρ (.map (some i)) (.map (some r))
 |nilFunc:VRel ρ .nilFunc .nilFunc
 |nilIface:VRel ρ .nilIface .nilIface
 |iface (t v v') (h:VRel ρ v v'):VRel ρ (.iface t v) (.iface t v')
 |func (fn) (a a' b b':Array Value) (sa:a.size=a'.size) (ha:∀(i:Nat) x y,a[i]? = some x->a'[i]? = some y->VRel ρ x y)
  (sb:b.size=b'.size) (hb:∀(i:Nat) x y,b[i]? = some x->b'[i]? = some y->VRel ρ x y):VRel ρ (.func fn a b) (.func fn a' b')
 |agg (a a':Array Value) (sa:a.size=a'.size) (ha:∀(i:Nat) x y,a[i]? = some x->a'[i]? = some y->VRel ρ x y):VRel ρ (.agg a) (.agg a')
 |tuple (a a':Array Value) (sa:a.size=a'.size) (ha:∀(i:Nat) x y,a[i]? = some x->a'[i]? = some y->VRel ρ x y):VRel ρ (.tuple a) (.tuple a')
theorem VRel.mono {ρ ρ':Ren} (hle:ρ.le ρ') {v v':Value} (h:VRel ρ v v'):VRel ρ' v v':=by
 induction h with
 |Ln=>exact .Ln _ _
 |nan m h=>exact .nan m h
 |W5 k x y hx hy=>exact .W5 k x y hx hy
 |bool=>exact .bool _
 |int=>exact .int _ _
 |float=>exact .float _ _
 |complex=>exact .complex _ _ _
 |string=>exact .string _
 |pK=>exact .pK
 |ptr i off r x h=>exact .ptr i off r x (hle _ _ h)
 |eB=>exact .eB _ _
 |void a=>exact .void a
 |slice i off l c r x h=>exact .slice i off l c r x (hle _ _ h)
 |yw=>exact .yw
 |map i r x h=>exact .map i r x (hle _ _ h)
 |nilFunc=>exact .nilFunc
 |nilIface=>exact .nilIface
 |iface t v v' _ ih=>exact .iface t v v' ih
 |func fn a a' b b' sa _ sb _ SL SM=>exact .func fn a a' b b' sa (λi x y hx hy=>SL i x y hx hy) sb (λi x y hx hy=>SM i x y hx hy)
 |agg a a' sa _ ih=>exact .agg a a' sa (λi x y hx hy=>ih i x y hx hy)
 |tuple a a' sa _ ih=>exact .tuple a a' sa (λi x y hx hy=>ih i x y hx hy)
def LR (R:Value->Value->Prop) (l l':List Value):Prop:=l.length=l'.length/\∀(i:Nat) x y,l[i]? = some x->l'[i]? = some y->R x y
def AR (R:Value->Value->Prop) (a a':Array Value):Prop:=a.size=a'.size/\∀(i:Nat) x y,a[i]? = some x->a'[i]? = some y->R x y
theorem AR.list {R:Value->Value->Prop} {a a':Array Value} (h:AR R a a'):LR R a.toList a'.toList :=
 ⟨by simpa using h.1,λi x y hx hy=>h.2 i x y (by simpa using hx) (by simpa using hy)⟩
theorem LR.array {R:Value->Value->Prop} {l l':List Value} (h:LR R l l'):AR R l.toArray l'.toArray :=
 ⟨by simpa using h.1,λi x y hx hy=>h.2 i x y (by simpa using hx) (by simpa using hy)⟩
theorem LR.of_array {R:Value->Value->Prop} {a a':Array Value} (h:LR R a.toList a'.toList):AR R a a' :=
 ⟨by simpa using h.1,λi x y hx hy=>h.2 i x y (by simpa using hx) (by simpa using hy)⟩
theorem LR.nil {R:Value->Value->Prop}:LR R [] []:=⟨rfl,λi x y hx=>by simp at hx⟩
theorem LR.cons {R:Value->Value->Prop} {v v':Value} {l l':List Value} (hv:R v v') (h:LR R l l'):LR R (v::l) (v'::l') :=
 ⟨by simp[h.1],λi x y hx hy=>by
  cases i with
  |zero=>simp at hx hy;subst hx hy;exact hv
  |succ i=>exact h.2 i x y (by simpa using hx) (by simpa using hy)⟩
theorem LR.pL {R:Value->Value->Prop} {v:Value} {l l':List Value} (h:LR R (v::l) l'):∃v' t',l'=v'::t'/\R v v'/\LR R l t':=by
 cases l' with
 |nil=>have:=h.1;simp at this
 |cons v' t'=>exact ⟨v',t',rfl,h.2 0 v v' rfl rfl,by have:=h.1;simpa using this,λi x y hx hy=>h.2 (i+1) x y (by simpa using hx) (by simpa using hy)⟩
theorem LR.Bk {R:Value->Value->Prop} {l':List Value} (h:LR R [] l'):l'=[]:=by
 have:=h.1;simpa using this.symm
theorem LR.append {R:Value->Value->Prop} {a a' b b':List Value} (h:LR R a a') (k:LR R b b'):LR R (a++b) (a'++b') :=
 ⟨by simp[h.1,k.1],λi x y hx hy=>by
  rw[List.getElem?_append] at hx hy;by_cases hi:i<a.length
  .
   rw[if_pos hi] at hx;rw[if_pos (h.1 ▸ hi)] at hy;exact h.2 i x y hx hy
  rw[if_neg hi] at hx;rw[if_neg (h.1 ▸ hi)] at hy;exact k.2 _ x y hx (by rw[h.1];exact hy)⟩
theorem LR.get {R:Value->Value->Prop} {a a':List Value} (h:LR R a a') {i:Nat} {x:Value} (hx:a[i]? = some x):∃y,a'[i]? = some y/\R x y:=by
 have hlt:i<a.length:=(List.getElem?_eq_some_iff.1 hx).1
 have hlt':i<a'.length:=h.1 ▸ hlt
 exact ⟨a'[i],by simp[hlt'],h.2 i x _ hx (by simp[hlt'])⟩
theorem LR.set {R:Value->Value->Prop} {a a':List Value} (h:LR R a a') (i:Nat) {v v':Value} (hv:R v v'):LR R (a.set i v) (a'.set i v') :=
 ⟨by simp[h.1],λj x y hx hy=>by
  rw[List.getElem?_set] at hx hy;by_cases hij:i=j
  .
   rw[if_pos hij] at hx hy;by_cases hl:i<a.length
   .
    have hl':i<a'.length:=h.1 ▸ hl;rw[if_pos (hij ▸ hl)] at hx;rw[if_pos (hij ▸ hl')] at hy;cases hx;cases hy;exact hv
   rw[if_neg (hij ▸ hl)] at hx;cases hx
  rw[if_neg hij] at hx hy;exact h.2 j x y hx hy⟩
theorem LR.mono {R R':Value->Value->Prop} (hr:∀x y,R x y->R' x y) {a a':List Value} (h:LR R a a'):LR R' a a':=⟨h.1,λi x y hx hy=>hr _ _ (h.2 i x y hx hy)⟩
theorem AR.mono {R R':Value->Value->Prop} (hr:∀x y,R x y->R' x y) {a a':Array Value} (h:AR R a a'):AR R' a a':=⟨h.1,λi x y hx hy=>hr _ _ (h.2 i x y hx hy)⟩
mutual
theorem aU {ρ:Ren}:∀v,addrFree v=true->VRel ρ v v
 |.bool _,_=>.bool _
 |.int _ _,_=>.int _ _
 |.float _ _,_=>.float _ _
 |.complex _ _ _,_=>.complex _ _ _
 |.string _,_=>.string _
 |.pointer none,_=>.pK
 |.pointer (some _),h=>by simp[addrFree] at h
 |.slice none _ _,_=>.eB _ _
 |.slice (some _) _ _,h=>by simp[addrFree] at h
 |.map none,_=>.yw
 |.map (some _),h=>by simp[addrFree] at h
 |.chan _,h=>by simp[addrFree] at h
 |
  .func fn a b,h=>by
  simp only[addrFree,Bool.and_eq_true] at h;exact .func fn a a b b rfl (j4 a h.1) rfl (j4 b h.2)
 |.nilFunc,_=>.nilFunc
 |.iface t v,h=>.iface t v v (aU v (by simpa[addrFree] using h))
 |.nilIface,_=>.nilIface
 |.agg cs,h=>.agg cs cs rfl (j4 cs (by simpa[addrFree] using h))
 |.tuple cs,h=>.tuple cs cs rfl (j4 cs (by simpa[addrFree] using h))
theorem j4 {ρ:Ren}:∀a:Array Value,fG a=true->∀(i:Nat) x y,a[i]? = some x->a[i]? = some y->VRel ρ x y
 |⟨l⟩,h,i,x,y,hx,hy=>nC l (by simpa[fG] using h) i x y (by simpa using hx) (by simpa using hy)
theorem nC {ρ:Ren}:∀l:List Value,addrFreeL l=true->∀(i:Nat) x y,l[i]? = some x->l[i]? = some y->VRel ρ x y
 |[],_,i,x,y,hx,_=>by simp at hx
 |
  v::l,h,0,x,y,hx,hy=>by
  simp only[addrFreeL,Bool.and_eq_true] at h;simp at hx hy;subst hx hy;exact aU v h.1
 |
  v::l,h,i+1,x,y,hx,hy=>by
  simp only[addrFreeL,Bool.and_eq_true] at h;exact nC l h.2 i x y (by simpa using hx) (by simpa using hy)
end
theorem iP:∀{l:List Value},addrFreeL l=true->∀{i:Nat} {x:Value},l[i]? = some x->addrFree x=true
 |[],_,i,x,hx=>by simp at hx
 |
  v::l,h,0,x,hx=>by
  simp only[addrFreeL,Bool.and_eq_true] at h;simp at hx;subst hx;exact h.1
 |
  v::l,h,i+1,x,hx=>by
  simp only[addrFreeL,Bool.and_eq_true] at h;exact iP h.2 (by simpa using hx)
theorem qI {a:Array Value} (h:fG a=true) {i:Nat} {x:Value} (hx:a[i]? = some x):addrFree x=true:=by
 cases a with
 |mk l=>exact iP (l:=l) (by simpa[fG] using h) (by simpa using hx)
theorem CY {a a':Array Value} (hs:a.size=a'.size) (h:∀(i:Nat) x y,a[i]? = some x->a'[i]? = some y->y=x):a'=a:=by
 apply Array.ext_getElem?
 intro i
 by_cases hi:i<a.size
 .
  have hi':i<a'.size:=hs ▸ hi;rw[Array.getElem?_eq_getElem hi,Array.getElem?_eq_getElem hi'];exact congrArg some (h i _ _ (Array.getElem?_eq_getElem hi) (Array.getElem?_eq_getElem hi'))
 rw[Array.getElem?_eq_none (Nat.le_of_not_lt hi),Array.getElem?_eq_none (Nat.le_of_not_lt (hs ▸ hi))]
theorem dU {ρ:Ren} {v v':Value} (h:VRel ρ v v') (hf:addrFree v=true):v'=v:=by
 induction h with
 |Ln=>simp[addrFree] at hf
 |nan=>simp[addrFree] at hf
 |W5=>simp[addrFree] at hf
 |ptr=>simp[addrFree] at hf
 |slice=>simp[addrFree] at hf
 |void=>simp[vd,addrFree] at hf
 |map=>simp[addrFree] at hf
 |iface t v v' _ ih=>rw[ih (by simpa[addrFree] using hf)]
 |
  func fn a a' b b' sa _ sb _ SL SM =>
  simp only[addrFree,Bool.and_eq_true] at hf;rw[CY sa (λi x y hx hy=>SL i x y hx hy (qI hf.1 hx)),CY sb (λi x y hx hy=>SM i x y hx hy (qI hf.2 hx))]
 |
  agg a a' sa _ ih =>
  simp only[addrFree] at hf;rw[CY sa (λi x y hx hy=>ih i x y hx hy (qI hf hx))]
 |
  tuple a a' sa _ ih =>
  simp only[addrFree] at hf;rw[CY sa (λi x y hx hy=>ih i x y hx hy (qI hf hx))]
 |_=>rfl
theorem VRel.undef {ρ:Ren}:VRel ρ Go.undef Go.undef:=.tuple _ _ rfl (λi x y hx=>by simp at hx)
theorem VRel.cells {ρ:Ren} {v v':Value} (h:VRel ρ v v'):AR (VRel ρ) v.cells v'.cells:=by
 have one:∀{v v':Value},VRel ρ v v'->AR (VRel ρ) #[v] #[v']:=λh=>⟨rfl,λi x y hx hy=>by
  cases i with
  |zero=>simp at hx hy;subst hx hy;exact h
  |succ i=>simp at hx⟩
 cases h with
 |agg a a' sa ha=>exact ⟨sa,ha⟩
 |Ln=>exact one (.Ln _ _)
 |nan m h=>exact one (.nan m h)
 |W5 k x y hx hy=>exact one (.W5 k x y hx hy)
 |bool=>exact one (.bool _)
 |int=>exact one (.int _ _)
 |float=>exact one (.float _ _)
 |complex=>exact one (.complex _ _ _)
 |string=>exact one (.string _)
 |pK=>exact one .pK
 |ptr i off r x h=>exact one (.ptr i off r x h)
 |eB=>exact one (.eB _ _)
 |void a=>exact one (.void a)
 |slice i off l c r x h=>exact one (.slice i off l c r x h)
 |yw=>exact one .yw
 |map i r x h=>exact one (.map i r x h)
 |nilFunc=>exact one .nilFunc
 |nilIface=>exact one .nilIface
 |iface t v v' h=>exact one (.iface t v v' h)
 |func fn a a' b b' sa ha sb hb=>exact one (.func fn a a' b b' sa ha sb hb)
 |tuple a a' sa ha=>exact one (.tuple a a' sa ha)
theorem VRel.plain {ρ:Ren} {v v':Value} (h:VRel ρ v v') (hp:plainCell v=true):v'.oneCell'=true:=by
 cases h<;>first|rfl|(simp[plainCell] at hp)
def gU (R:Value->Value->Prop) (l:List Value) (C:Array Value):Prop:=l.length<=C.size/\∀(j:Nat) v,l[j]? = some v->jf v=false->∃v',C[j]? = some v'/\R v v'
def kg (C:Array Value) (fr:Nat×Nat):Prop:=fr.1<=fr.2/\∀j,j<C.size->¬(fr.1<=j/\j<fr.2)
theorem eU {α:Type} (x y:α):pick2 true x y=x:=rfl
theorem EB {α:Type} (x y:α):pick2 false x y=y:=rfl
theorem pick2_eq {α:Type} (b:Bool) (x y:α):pick2 b x y=if b then x else y:=by cases b<;>rfl
theorem Tr.pM {α:Type} (l:Tr α) (v:Option α) (r:Tr α) (k:Nat):(Tr.n l v r).get k=if k=0 then v else if k%2=1 then l.get (k/2) else r.get (k/2-1):=by
 show pick2 (Nat.beq k 0) v (pick2 (Nat.beq (k%2) 1) (l.get (k/2)) (r.get (k/2-1)))=_
 rw[pick2_eq,pick2_eq];simp only[Nat.beq_eq]
theorem Tr.VK {α:Type} (l:Tr α) (v:Option α) (r:Tr α) (k:Nat) (x:α):(Tr.n l v r).set k x=if k=0 then some (.n l (some x) r) else if k%2=1 then (l.set (k/2) x).map (λl'=>.n l' v r) else (r.set (k/2-1) x).map (λr'=>.n l v r'):=by
 show pick2 (Nat.beq k 0) (some (Tr.n l (some x) r)) (pick2 (Nat.beq (k%2) 1) (Option.rec (motive:=λ_=>Option (Tr α)) none (λl'=>some (Tr.n l' v r)) (l.set (k/2) x)) (Option.rec (motive:=λ_=>Option (Tr α)) none (λr'=>some (Tr.n l v r')) (r.set (k/2-1) x)))=_
 rw[pick2_eq,pick2_eq];simp only[Nat.beq_eq]
 cases l.set (k/2) x<;>cases r.set (k/2-1) x<;>rfl
theorem Tr.EC {α:Type} (j:Nat):(Tr.e:Tr α).get j=none:=rfl
theorem Tr.CZ {α:Type} {x:α}:∀(d k:Nat),k<=d->∀j,(Tr.mk1 x d k).get j=if j=k then some x else none
 |
  0,k,hk,j=>by
  obtain rfl:k=0:=by omega
  show (Tr.n .e (some x) .e).get j=_;rw[Tr.pM];simp only[Tr.EC];split<;>simp_all
 |
  d+1,k,hk,j=>by
  show (pick2 (Nat.beq k 0) (Tr.n .e (some x) .e) (pick2 (Nat.beq (k%2) 1) (.n (Tr.mk1 x d (k/2)) none .e) (.n .e none (Tr.mk1 x d (k/2-1))))).get j=_;rw[pick2_eq,pick2_eq];simp only[Nat.beq_eq];by_cases h0:k=0
  .
   rw[if_pos h0,Tr.pM];simp only[Tr.EC];subst h0;split<;>simp_all
  rw[if_neg h0];by_cases h1:k%2=1
  .
   rw[if_pos h1,Tr.pM,Tr.CZ d (k/2) (by omega)]
   simp only[Tr.EC];by_cases hj:j=0
   .
    rw[if_pos hj,if_neg (by omega)]
   rw[if_neg hj];by_cases Hw:j%2=1
   .
    rw[if_pos Hw];by_cases C3:j/2=k/2
    .
     rw[if_pos C3,if_pos (by omega)]
    rw[if_neg C3,if_neg (by omega)]
   rw[if_neg Hw,if_neg (by omega)]
  rw[if_neg h1,Tr.pM,Tr.CZ d (k/2-1) (by omega)]
  simp only[Tr.EC];by_cases hj:j=0
  .
   rw[if_pos hj,if_neg (by omega)]
  rw[if_neg hj];by_cases Hw:j%2=1
  .
   rw[if_pos Hw,if_neg (by omega)]
  rw[if_neg Hw];by_cases C3:j/2-1=k/2-1
  .
   rw[if_pos C3,if_pos (by omega)]
  rw[if_neg C3,if_neg (by omega)]
theorem Tr.dD {α:Type} (x:α):∀(t:Tr α) (k:Nat),∃t',t.set k x=some t':=by
 intro t
 induction t with
 |e=>exact λk=>⟨_,rfl⟩
 |
  n l v r ihl ihr =>
  intro k;rw[Tr.VK];obtain ⟨l',hl⟩:=ihl (k/2);obtain ⟨r',hr⟩:=ihr (k/2-1);rw[hl,hr];split
  .
   exact ⟨_,rfl⟩
  split<;>exact ⟨_,rfl⟩
theorem Tr.qJ {α:Type} {x:α}:∀{t t':Tr α} {k:Nat},t.set k x=some t'->∀j,t'.get j=if j=k then some x else t.get j:=by
 intro t
 induction t with
 |
  e =>
  intro t' k h j;have h':some (Tr.mk1 x k k)=some t':=h;cases h';exact Tr.CZ k k (Nat.le_refl k) j
 |
  n l v r ihl ihr =>
  intro t' k h j;rw[Tr.VK] at h;by_cases hk:k=0
  .
   rw[if_pos hk] at h;cases h;rw[Tr.pM,Tr.pM,hk];by_cases hj:j=0<;>simp[hj]
  rw[if_neg hk] at h;by_cases hm:k%2=1
  .
   rw[if_pos hm] at h;simp only[Option.map_eq_some_iff] at h;obtain ⟨l',hl,rfl⟩:=h;rw[Tr.pM,Tr.pM];by_cases hj:j=0
   .
    rw[if_pos hj,if_pos hj,if_neg (by omega)]
   rw[if_neg hj,if_neg hj];by_cases Hw:j%2=1
   .
    rw[if_pos Hw,if_pos Hw,ihl hl];by_cases C3:j/2=k/2
    .
     rw[if_pos C3,if_pos (by omega)]
    rw[if_neg C3,if_neg (by omega)]
   rw[if_neg Hw,if_neg Hw,if_neg (by omega)]
  rw[if_neg hm] at h;simp only[Option.map_eq_some_iff] at h;obtain ⟨r',hr,rfl⟩:=h;rw[Tr.pM,Tr.pM];by_cases hj:j=0
  .
   rw[if_pos hj,if_pos hj,if_neg (by omega)]
  rw[if_neg hj,if_neg hj];by_cases Hw:j%2=1
  .
   rw[if_pos Hw,if_pos Hw,if_neg (by omega)]
  rw[if_neg Hw,if_neg Hw,ihr hr];by_cases C3:j/2-1=k/2-1
  .
   rw[if_pos C3,if_pos (by omega)]
  rw[if_neg C3,if_neg (by omega)]
theorem fX (i n:Nat):Nat.ble (Nat.succ i) n=decide (i<n):=by
 rw[Bool.eq_iff_iff];simp[Nat.ble_eq];omega
theorem tv (i n:Nat):Nat.ble i n=decide (i<=n):=by
 rw[Bool.eq_iff_iff];simp[Nat.ble_eq]
theorem Mem.get_eq (H:Mem) (i:Nat):H.get i=if i<H.size then H.t.get i else none:=by
 unfold Mem.get;rw[pick2_eq,fX];simp
theorem Mem.bI {H:Mem} {i:Nat} {b:Blk} (h:H.get i=some b):i<H.size:=by
 rw[Mem.get_eq] at h;split at h
 .
  assumption
 cases h
theorem Mem.bf {H H':Mem} {b:Blk} (h:H.push b=some H'):H'.size=H.size+1/\H'.lk=H.lk/\∀i,H'.get i=if i=H.size then some b else H.get i:=by
 unfold Mem.push at h
 cases hs:H.t.set H.size b with
 |none=>rw[hs] at h;cases h
 |
  some t =>
  rw[hs] at h;have h':some (Mem.mk (H.size+1) H.lk t)=some H':=h;cases h';refine ⟨rfl,rfl,λi=>?_⟩
  rw[Mem.get_eq,Mem.get_eq];simp only[Tr.qJ hs];by_cases h1:i=H.size
  .
   subst h1;simp
  rw[if_neg h1,if_neg h1];by_cases h2:i<H.size
  .
   rw[if_pos h2,if_pos (by omega)]
  rw[if_neg h2,if_neg (by omega)]
theorem Mem.eC {H H':Mem} {i:Nat} {b:Blk} (h:H.set i b=some H'):i<H.size/\H.lk<=i/\H'.size=H.size/\H'.lk=H.lk/\∀j,H'.get j=if j=i then some b else H.get j:=by
 unfold Mem.set at h
 rw[pick2_eq,pick2_eq,fX,tv] at h
 split at h
 .
  rename_i hi;simp only[decide_eq_true_eq] at hi;split at h
  .
   rename_i hl;simp only[decide_eq_true_eq] at hl;cases hs:H.t.set i b with
   |none=>rw[hs] at h;cases h
   |
    some t =>
    rw[hs] at h;have h':some (Mem.mk H.size H.lk t)=some H':=h;cases h';refine ⟨hi,hl,rfl,rfl,λj=>?_⟩
    rw[Mem.get_eq,Mem.get_eq];simp only[Tr.qJ hs];by_cases h1:j=i
    .
     subst h1;rw[if_pos rfl,if_pos rfl,if_pos hi]
    rw[if_neg h1,if_neg h1]
  cases h
 cases h
structure Cx where
 P:Program
 B:Nat
 L:Nat
 G:Nat
 w0:World
 K:Nat->Option Obj
def Cx.own (c:Cx) (r:Nat):Prop:=c.B<=r/\c.K r=none
structure rA (c:Cx) (w:World):Prop where
 below:Below c.B c.w0 w
 kept:∀r o,c.K r=some o->w.heap[r]? = some o
theorem rA.drew {c:Cx} {w:World} (h:rA c w):rA c w.drew:=⟨h.below.drew,h.kept⟩
theorem rA.grow {c:Cx} {w w':World} (h:rA c w) (hb:c.B<=w.heap.size) (hw:Below w.heap.size w w'):rA c w' :=
 ⟨h.below.trans (hw.mono hb),λr o hr=>by
  have h1:=h.kept r o hr;rw[hw.block r (Array.getElem?_eq_some_iff.1 h1).1];exact h1⟩
theorem rA.alloc {c:Cx} {w:World} (h:rA c w) (hb:c.B<=w.heap.size) (o:Obj):rA c (w.alloc o):=h.grow hb ((Below.refl _ _).alloc (Nat.le_refl _) _)
theorem rA.ED {c:Cx} {w w':World} (h:rA c w) {r:Nat} (hr:c.own r) (hb:Below c.B w w') (hh:∀k,k≠r->w'.heap[k]? = w.heap[k]?):rA c w' :=
 ⟨h.below.trans hb,λk o hk=>by
  rw[hh k (λe=>by subst e;rw[hr.2] at hk;cases hk)];exact h.kept k o hk⟩
theorem rA.fresh {c:Cx} {w:World} (h:rA c w) (hb:c.B<=w.heap.size):c.own w.heap.size :=
 ⟨hb,by
  cases hk:c.K w.heap.size with
  |none=>rfl
  |some o=>have:=h.kept _ _ hk;simp at this⟩
structure yx (P:Program) (t:TypeId) (n:Nat) (C:Array Value):Prop where
 zero:∀(j:Nat) (v:Value),n<=j->C[j]? = some v->(∃z,fj P t=some z/\v∈z.cells.toList)\/(P.underlying t=some (.int .u8)/\v = .int .u8 0)
 room:C.size<=n\/(∀s,aM P t=some s->C.size<9223372036854775808*s)\/9223372036854775808<=n
theorem yx.full {P:Program} {t:TypeId} {n:Nat} {C:Array Value} (h:C.size<=n):yx P t n C:=⟨λj v hj hv=>by
 have:=(Array.getElem?_eq_some_iff.1 hv).1
 omega,.inl h⟩
def VL (c:Cx) (ρ:Ren) (w:World) (i:Nat) (b:Blk):Prop :=
 ∃r x C fr s,ρ i=some (r,x)/\((i<c.L/\c.K r=none)\/c.own r)/\w.heap[r]? = some (.cells C b.elem fr)/\(i<c.L\/kg C fr)/\((i<c.L\/aM c.P b.elem=some s)/\(b.fix=true->x=0))/\C.size=b.cells.length+x*s/\gU (VRel ρ) b.cells C/\(i<c.L\/yx c.P b.elem b.cells.length C)
def turns (es:List MapEntry):List Value:=es.flatMap λe=>[e.key,e.val]
def wD (c:Cx) (ρ:Ren) (w:World) (i:Nat) (b:Blk):Prop :=
 ∃r es clock,ρ i=some (r,0)/\c.own r/\w.heap[r]? = some (.map es clock)/\LR (VRel ρ) b.cells (turns es.toList)
structure bg (c:Cx) (ρ:Ren) (H:Mem) (w:World):Prop where
 stay:rA c w
 base:c.B<=w.heap.size
 dom:∀i x,ρ i=some x->i<H.size
 lk:c.L<=H.lk
 tw:c.L<=H.size
 dz:∀g,g<c.G->ρ g=some (g,0)
 blk:∀i b,H.get i=some b->b.live=true->VL c ρ w i b
 inj:∀i j bi bj r x y,H.get i=some bi->bi.live=true->H.get j=some bj->bj.live=true->ρ i=some (r,x)->ρ j=some (r,y)->i=j
 maps:∀i b,H.get i=some b->cO b=true->wD c ρ w i b
 pg:∀i j bi bj r x y,H.get i=some bi->cO bi=true->H.get j=some bj->cO bj=true->ρ i=some (r,x)->ρ j=some (r,y)->i=j
theorem bg.below {c:Cx} {ρ:Ren} {H:Mem} {w:World} (h:bg c ρ H w):Below c.B c.w0 w:=h.stay.below
theorem JO {b:Blk} (h:b.live=true):cO b=false:=by unfold cO;rw[h]
theorem wD.mono {c:Cx} {ρ ρ':Ren} {w:World} {i:Nat} {b:Blk} (hle:ρ.le ρ') (h:wD c ρ w i b):wD c ρ' w i b:=by
 obtain ⟨r,es,clock,h1,h2,h3,h4⟩:=h
 exact ⟨r,es,clock,hle _ _ h1,h2,h3,h4.mono λ_ _=>VRel.mono hle⟩
theorem wD.heap {c:Cx} {ρ:Ren} {w w':World} {i:Nat} {b:Blk} (h:wD c ρ w i b) (hh:∀(r:Nat) (es:Array MapEntry) (clock:Nat),w.heap[r]? = some (Obj.map es clock)->w'.heap[r]? = some (Obj.map es clock)):wD c ρ w' i b:=by
 obtain ⟨r,es,clock,h1,h2,h3,h4⟩:=h
 exact ⟨r,es,clock,h1,h2,hh _ _ _ h3,h4⟩
theorem alive_some {H:Mem} {i:Nat} {b:Blk} (h:alive H i=some b):H.get i=some b/\b.live=true:=by
 unfold alive at h
 split at h
 .
  rename_i b' hb';cases hl:b'.live with
  |true=>rw[hl] at h;cases h;exact ⟨hb',hl⟩
  |false=>rw[hl] at h;cases h
 cases h
section
variable {c:Cx} {w:World} {ρ:Ren} {H:Mem}
theorem bg.drew (h:bg c ρ H w):bg c ρ H w.drew:=⟨h.stay.drew,h.base,h.dom,h.lk,h.tw,h.dz,h.blk,h.inj,h.maps,h.pg⟩
theorem bg.grow {w':World} (h:bg c ρ H w) (hb:Below w.heap.size w w'):bg c ρ H w':=by
 refine ⟨h.stay.grow h.base hb,Nat.le_trans h.base hb.size,h.dom,h.lk,h.tw,h.dz,λi b hi hl=>?_,h.inj,λi b hi hm=>(h.maps i b hi hm).heap λr es clock hh=>by rw[hb.block r (Array.getElem?_eq_some_iff.1 hh).1];exact hh,h.pg⟩
 obtain ⟨r,x,C,fr,s,h1,h2,h3,h4⟩:=h.blk i b hi hl
 have hr:r<w.heap.size:=(Array.getElem?_eq_some_iff.1 h3).1
 exact ⟨r,x,C,fr,s,h1,h2,by rw[hb.block r hr];exact h3,h4⟩
theorem gU.mono {R R':Value->Value->Prop} (hr:∀x y,R x y->R' x y) {l:List Value} {C:Array Value} (h:gU R l C):gU R' l C :=
 ⟨h.1,λj v hv hj=>let ⟨v',h1,h2⟩:=h.2 j v hv hj;⟨v',h1,hr _ _ h2⟩⟩
def Ren.put (ρ:Ren) (i:Nat) (x:Nat×Nat):Ren:=λj=>if j=i then some x else ρ j
theorem Ren.fq (ρ:Ren) (i:Nat) (x:Nat×Nat):ρ.put i x i=some x:=by simp[Ren.put]
theorem Ren.gC (ρ:Ren) {i j:Nat} (x:Nat×Nat) (h:j≠i):ρ.put i x j=ρ j:=by simp[Ren.put,h]
theorem bg.unused (h:bg c ρ H w) {i:Nat} (hi:H.size<=i):ρ i=Option.none:=by
 cases hx:ρ i with
 |none=>rfl
 |some x=>have:=h.dom i x hx;omega
theorem bg.pN (h:bg c ρ H w) {i:Nat} (hi:H.size<=i) (x:Nat×Nat):ρ.le (ρ.put i x):=by
 intro j y hy
 have:j≠i:=by intro e;subst e;rw[h.unused hi] at hy;cases hy
 rw[Ren.gC ρ x this];exact hy
theorem bg.add {w':World} {H':Mem} (h:bg c ρ H w) {t:TypeId} {cs:List Value} {C:Array Value} {fr:Nat×Nat} {r x s:Nat} {fx:Bool} (hp:H.push ⟨cs,t,true,fx⟩=some H')
 (afU:rA c w') (hbase:c.B<=w'.heap.size) (hold:∀(i:Nat) (b:Blk),H.get i=some b->b.live=true->VL c ρ w' i b) (hmap:∀(i:Nat) (b:Blk),H.get i=some b->cO b=true->wD c ρ w' i b)
 (hfresh:∀(i:Nat) (b:Blk) r' y,H.get i=some b->b.live=true->ρ i=some (r',y)->r'≠r)
 (hnew:w'.heap[r]? = some (.cells C t fr)) (hB:c.own r) (hf:kg C fr) (hs:aM c.P t=some s) (hsz:C.size=cs.length+x*s) (hb:gU (VRel ρ) cs C) (JP:fx=true->x=0) (hsp:yx c.P t cs.length C) :
 bg c (ρ.put H.size (r,x)) H' w':=by
 have hle:=h.pN (Nat.le_refl H.size) (r,x)
 obtain ⟨q1,q2,q3⟩:=Mem.bf hp
 have Nz:∀{i:Nat} {b:Blk},H'.get i=some b->(i<H.size/\H.get i=some b)\/(i=H.size/\b=⟨cs,t,true,fx⟩):=by
  intro i b hi;rw[q3] at hi;by_cases h1:i=H.size
  .
   rw[if_pos h1] at hi;cases hi;exact .inr ⟨h1,rfl⟩
  rw[if_neg h1] at hi;exact .inl ⟨Mem.bI hi,hi⟩
 have at2:∀{i:Nat} {b:Blk},H'.get i=some b->cO b=true->i<H.size/\H.get i=some b:=by
  intro i b hi hm;rcases Nz hi with h1|⟨_,rfl⟩
  .
   exact h1
  rw[JO rfl] at hm;cases hm
 refine ⟨afU,hbase,?_,by rw[q2];exact h.lk,by rw[q1];have:=h.tw;omega,λg hg=>hle _ _ (h.dz g hg),?_,?_,λi b hi hm=>(hmap i b (at2 hi hm).2 hm).mono hle,λi j bi bj q y z hi hmi hj NB hr hr'=>?_⟩
 .
  intro i y hy;rw[q1];by_cases hi:i=H.size
  .
   omega
  rw[Ren.gC ρ _ hi] at hy;have:=h.dom i y hy;omega
 .
  intro i b hi hl;rcases Nz hi with ⟨hlt,hi'⟩|⟨rfl,rfl⟩
  .
   obtain ⟨r',y,D,gr,s',h1,h2,h3,h4,h5,h6,h7⟩:=hold i b hi' hl;exact ⟨r',y,D,gr,s',hle _ _ h1,h2,h3,h4,h5,h6,h7.1.mono λ_ _=>VRel.mono hle,h7.2⟩
  exact ⟨r,x,C,fr,s,Ren.fq _ _ _,.inr hB,hnew,.inr hf,⟨.inr hs,JP⟩,hsz,hb.mono λ_ _=>VRel.mono hle,.inr hsp⟩
 .
  intro i j bi bj q y z hi AE hj nP hr hr';rcases Nz hi with ⟨hlt,hi'⟩|⟨rfl,rfl⟩
  .
   rw[Ren.gC ρ _ (by omega)] at hr
   rcases Nz hj with ⟨hlt',hj'⟩|⟨rfl,rfl⟩
   .
    rw[Ren.gC ρ _ (by omega)] at hr'
    exact h.inj i j bi bj q y z hi' AE hj' nP hr hr'
   rw[Ren.fq] at hr';cases hr';exact absurd rfl (hfresh i bi _ _ hi' AE hr)
  rcases Nz hj with ⟨hlt',hj'⟩|⟨rfl,rfl⟩
  .
   rw[Ren.gC ρ _ (by omega)] at hr'
   rw[Ren.fq] at hr;cases hr;exact absurd rfl (hfresh j bj _ _ hj' nP hr')
  rfl
 obtain ⟨k1,k2⟩:=at2 hi hmi
 obtain ⟨k3,k4⟩:=at2 hj NB
 rw[Ren.gC ρ _ (by omega)] at hr hr'
 exact h.pg i j bi bj q y z k2 hmi k4 NB hr hr'
theorem bg.new (h:bg c ρ H w) {t:TypeId} {cs:List Value} {C:Array Value} {fr:Nat×Nat} {x s:Nat} {H':Mem} {fx:Bool} (hp:H.push ⟨cs,t,true,fx⟩=some H')
 (hs:aM c.P t=some s) (hb:gU (VRel ρ) cs C) (hsz:C.size=cs.length+x*s) (hf:kg C fr) (JP:fx=true->x=0) (hsp:yx c.P t cs.length C) :
 bg c (ρ.put H.size (w.heap.size,x)) H' (w.alloc (.cells C t fr)):=by
 refine h.add hp (h.stay.alloc h.base _) (Nat.le_trans h.base (by simp)) ?_ (λi b hi hm=>(h.maps i b hi hm).heap λr es clock hh=>by rw[Below.heap_alloc _ _ _ (Array.getElem?_eq_some_iff.1 hh).1];exact hh) ?_ (by show (w.heap.push _)[w.heap.size]? = _;simp) (h.stay.fresh h.base) hf hs hsz hb JP hsp
 .
  intro i b hi hl;obtain ⟨r,y,D,gr,s',h1,h2,h3,h4⟩:=h.blk i b hi hl;have hr:r<w.heap.size:=(Array.getElem?_eq_some_iff.1 h3).1;exact ⟨r,y,D,gr,s',h1,h2,by rw[Below.heap_alloc _ _ _ hr];exact h3,h4⟩
 intro i b r' y hi hl hr
 obtain ⟨r2,y2,D,gr,s',h1,h2,h3,_⟩:=h.blk i b hi hl
 rw[hr] at h1;cases h1
 exact Nat.ne_of_lt (Array.getElem?_eq_some_iff.1 h3).1
theorem bg.less {H':Mem} (h:bg c ρ H w) (hl:H.size<=H'.size) (hlk:c.L<=H'.lk) (hh:∀(i:Nat) (b':Blk),H'.get i=some b'->(b'.live=true\/cO b'=true)->H.get i=some b'):bg c ρ H' w:=by
 refine ⟨h.stay,h.base,λi x hx=>Nat.lt_of_lt_of_le (h.dom i x hx) hl,hlk,Nat.le_trans h.tw hl,h.dz,λi b' hi hb'=>h.blk i b' (hh i b' hi (.inl hb')) hb',λi j bi bj r x y hi AE hj nP hr hr'=>?_,
  λi b' hi hb'=>h.maps i b' (hh i b' hi (.inr hb')) hb',λi j bi bj r x y hi AE hj nP hr hr'=>h.pg i j bi bj r x y (hh i bi hi (.inr AE)) AE (hh j bj hj (.inr nP)) nP hr hr'⟩
 exact h.inj i j bi bj r x y (hh i bi hi (.inl AE)) AE (hh j bj hj (.inl nP)) nP hr hr'
theorem iQ {H H':Mem} {i:Nat} (h:kill H i=some H'):H'.size=H.size/\H'.lk=H.lk/\(∀(j:Nat) (b:Blk),H'.get j=some b->(b.live=true\/cO b=true)->H.get j=some b/\j≠i)/\(∀j,j≠i->H'.get j=H.get j)/\H.lk<=i:=by
 unfold kill at h
 split at h
 .
  rename_i b hb;obtain ⟨h1,h2,h3,h4,h5⟩:=Mem.eC h;refine ⟨h3,h4,λj b' hj hl=>?_,λj hj=>by rw[h5,if_neg hj],h2⟩
  rw[h5] at hj;by_cases hij:j=i
  .
   rw[if_pos hij] at hj;cases hj;simp[cO] at hl
  rw[if_neg hij] at hj;exact ⟨hj,hij⟩
 cases h
theorem bg.kill {H':Mem} {i:Nat} (h:bg c ρ H w) (hk:kill H i=some H'):bg c ρ H' w:=by
 obtain ⟨h1,h2,h3,_⟩:=iQ hk
 exact h.less (by omega) (by rw[h2];exact h.lk) λj b' hj hl=>(h3 j b' hj hl).1
def bY (w:World) (r:Nat) (o:Obj):World:={ w with heap:=w.heap.setIfInBounds r o }
theorem bU (w:World) (r:Nat) (o:Obj) (k:Nat) (h:k≠r):(bY w r o).heap[k]? = w.heap[k]? := by
 simp[bY,Ne.symm h]
theorem lu (w:World) (r:Nat) (o:Obj) (h:r<w.heap.size):(bY w r o).heap[r]? = some o:=by
 simp[bY,h]
theorem AP (w:World) (r:Nat) (o o':Obj):bY (bY w r o) r o'=bY w r o':=by
 simp[bY]
theorem C4 (w:World) (r:Nat) (o:Obj) (h:w.heap[r]? = some o):bY w r o=w:=by
 have hr:r<w.heap.size:=(Array.getElem?_eq_some_iff.1 h).1
 have:w.heap.setIfInBounds r o=w.heap:=by
  apply Array.ext_getElem?;intro k;rw[Array.getElem?_setIfInBounds];by_cases hk:r=k
  .
   subst hk;simp[hr];exact ((Array.getElem?_eq_some_iff.1 h).2).symm
  simp[hk]
 simp[bY,this]
theorem xB {r j:Nat} {C:Array Value} {t:TypeId} {fr:Nat×Nat} (v:Value) (h:w.heap[r]? = some (.cells C t fr)) :
 w.setCell ⟨r,j,none⟩ v=bY w r (.cells (C.setIfInBounds j v) t fr):=by
 have:w.heap.modify r (fun | .cells c elem frozen=>.cells (if (none:Option Nat).isSome then c else c.setIfInBounds j v) elem frozen|o=>o)=w.heap.setIfInBounds r (.cells (C.setIfInBounds j v) t fr):=by
  apply Array.ext_getElem?;intro k;rw[Array.getElem?_modify,Array.getElem?_setIfInBounds];by_cases hk:r=k
  .
   subst hk;have hr:r<w.heap.size:=(Array.getElem?_eq_some_iff.1 h).1;have hv:=(Array.getElem?_eq_some_iff.1 h).2;simp[hr,hv]
  simp[hk]
 simp only[World.setCell,bY]
 rw[<-this]
 rfl
def gW (C:Array Value) (k:Nat):List Value->Array Value
 |[]=>C
 |v::vs=>gW (C.setIfInBounds k v) (k+1) vs
theorem iR:∀(vs:List Value) (C:Array Value) (k:Nat),(gW C k vs).size=C.size
 |[],_,_=>rfl
 |v::vs,C,k=>by simp[gW,iR vs]
theorem o5:∀(vs l:List Value) (k:Nat),(ij l k vs).length=l.length
 |[],_,_=>rfl
 |v::vs,l,k=>by simp[ij,o5 vs]
theorem gU.set {R:Value->Value->Prop} {l:List Value} {C:Array Value} (h:gU R l C) (k:Nat) {v v':Value} (hv:R v v'):gU R (l.set k v) (C.setIfInBounds k v'):=by
 refine ⟨by simpa using h.1,λj u hu hju=>?_⟩
 rw[List.getElem?_set] at hu
 by_cases hkj:k=j
 .
  subst hkj;rw[if_pos rfl] at hu;split at hu
  .
   rename_i hlt;cases hu;have hC:k<C.size:=Nat.lt_of_lt_of_le hlt h.1;exact ⟨v',by simp[hC],hv⟩
  cases hu
 rw[if_neg hkj] at hu
 obtain ⟨u',h1,h2⟩:=h.2 j u hu hju
 exact ⟨u',by rw[Array.getElem?_setIfInBounds,if_neg hkj];exact h1,h2⟩
theorem gU.put {R:Value->Value->Prop}:∀{vs vs' l:List Value} {C:Array Value} {k:Nat},LR R vs vs'->gU R l C->gU R (ij l k vs) (gW C k vs')
 |[],vs',l,C,k,hv,h=>by rw[hv.Bk];exact h
 |
  v::vs,vs',l,C,k,hv,h=>by
  obtain ⟨v',t',rfl,h1,h2⟩:=hv.pL;simp only[ij,gW];exact gU.put h2 (h.set k h1)
theorem r8 {r off:Nat} {t:TypeId} {fr:Nat×Nat}:∀(vs:List Value) (i:Nat) (C:Array Value) (w:World),w.heap[r]? = some (.cells C t fr)->kg C fr->off+i+vs.length<=C.size ->
 (∀v∈vs,v.oneCell'=true)->(storeCells ⟨r,off,none⟩ vs i).run c.P w = .ok () (bY w r (.cells (gW C (off+i) vs) t fr))
 |
  [],i,C,w,hw,_,_,_=>by
  simp only[storeCells,gW];rw[C4 w r _ hw];rfl
 |
  v::vs,i,C,w,hw,hf,hl,hv=>by
  simp only[List.length_cons] at hl
  have afX:(⟨r,off,none⟩:Addr).add i=⟨r,off+i,none⟩:=by
   unfold Addr.add;split
   .
    rename_i h;subst h;rfl
   rfl
  have hlt:off+i<C.size:=by omega
  have hcell:w.cell? ⟨r,off+i,none⟩=some C[off+i]:=by simp[World.cell?,hw,hlt]
  have hfz:w.frozen? ⟨r,off+i,none⟩=false:=by
   have:=hf.2 _ hlt;simp only[World.frozen?,hw];rw[<-Bool.not_eq_true];intro hh;simp at hh;exact this hh
  have hone:=hv v (by simp)
  simp only[storeCells,Sem.run_bind,afX];rw[run_store c.P w _ v _ hone,hcell];simp only[hfz,Bool.false_eq_true,if_false,Result.andThen];rw[xB v hw];have hr:r<w.heap.size:=(Array.getElem?_eq_some_iff.1 hw).1;rw[r8 vs (i+1) (C.setIfInBounds (off+i) v) _ (lu w r _ hr) ⟨hf.1,λj hj=>hf.2 j (by simpa using hj)⟩ (by simp;omega) (λu hu=>hv u (by simp[hu]))]
  rw[AP];simp[gW,Nat.add_assoc]
theorem bg.write (h:bg c ρ H w) {i:Nat} {b:Blk} {H':Mem} (hi:alive H i=some b) {cs:List Value} {r x:Nat} {C C':Array Value} {fr:Nat×Nat} (Hx:H.set i { b with cells:=cs }=some H')
 (hr:ρ i=some (r,x)) (hw:w.heap[r]? = some (.cells C b.elem fr)) (hl:cs.length=b.cells.length) (hC:C'.size=C.size) (hb:gU (VRel ρ) cs C') (hkeep:∀j,b.cells.length<=j->C'[j]? = C[j]?) :
 bg c ρ H' (bY w r (.cells C' b.elem fr)):=by
 obtain ⟨hi1,hi2⟩:=alive_some hi
 obtain ⟨e1,e2,e3,e4,e5⟩:=Mem.eC Hx
 obtain ⟨r',x',D,gr,s,k1,k2,k3,k4,k5,k6,k7⟩:=h.blk i b hi1 hi2
 rw[hr] at k1;cases k1
 rw[hw] at k3;cases k3
 have Hy:r<w.heap.size:=(Array.getElem?_eq_some_iff.1 hw).1
 have hB:c.own r:=by
  rcases k2 with k2|k2;· have:=h.lk;omega
  exact k2
 have NF:∀{j:Nat} {bj:Blk},H'.get j=some bj->cO bj=true->H.get j=some bj:=by
  intro j bj hj hm;rw[e5] at hj;by_cases hij:j=i
  .
   rw[if_pos hij] at hj;cases hj;rw[JO (by exact hi2)] at hm;cases hm
  rw[if_neg hij] at hj;exact hj
 refine ⟨h.stay.ED hB ⟨rfl,rfl,rfl,by simp[bY],λk hk=>bU _ _ _ _ (by have:=hB.1;omega)⟩ (λk hk=>bU _ _ _ _ hk),by simpa[bY] using h.base,λj y hy=>by rw[e3];exact h.dom j y hy,by rw[e4];exact h.lk,by rw[e3];exact h.tw,h.dz,?_,?_,λj bj hj hm=>(h.maps j bj (NF hj hm) hm).heap λq es clock hh=>?_,λj k bj bk q y z hj NB hk hmk hq hq'=>h.pg j k bj bk q y z (NF hj NB) NB (NF hk hmk) hmk hq hq'⟩
 .
  intro j bj hj nP;rw[e5] at hj;by_cases hij:j=i
  .
   subst hij;rw[if_pos rfl] at hj;cases hj
   exact ⟨r,x,C',fr,s,hr,k2,lu _ _ _ Hy,by
    rcases k4 with k4|k4
    .
     exact .inl k4
    exact .inr ⟨k4.1,λq hq=>k4.2 q (by rw[<-hC];exact hq)⟩,k5,by simp only[hl,hC];exact k6,hb,k7.2.imp id λh=>⟨λj v hj hv=>by
    simp only[hl] at hj;exact h.zero j v hj (by rw[<-hkeep j hj];exact hv),by simp only[hl,hC];exact h.room⟩⟩
  rw[if_neg hij] at hj;obtain ⟨q,y,E,er,s',m1,m2,m3,m4⟩:=h.blk j bj hj nP
  have hne:q≠r:=by
   intro e;subst e;exact hij (h.inj j i bj b q y x hj nP hi1 hi2 m1 hr)
  exact ⟨q,y,E,er,s',m1,m2,by rw[bU _ _ _ _ hne];exact m3,m4⟩
 .
  intro j k bj bk q y z hj nP hk hlk hq hq'
  have back:∀{j:Nat} {bj:Blk},H'.get j=some bj->bj.live=true->∃b',H.get j=some b'/\b'.live=true:=by
   intro j bj hj nP;rw[e5] at hj;by_cases hij:j=i
   .
    subst hij;exact ⟨b,hi1,hi2⟩
   rw[if_neg hij] at hj;exact ⟨bj,hj,nP⟩
  obtain ⟨b1,e1,e2⟩:=back hj nP;obtain ⟨b2,e3,e4⟩:=back hk hlk;exact h.inj j k b1 b2 q y z e1 e2 e3 e4 hq hq'
 rw[bU _ _ _ _ (λe=>by subst e;rw[hw] at hh;cases hh)];exact hh
end
end Go.Ev

namespace Go.Ev
open Go.RowKit
structure uP (ρ:Ren) (a ar:Act):Prop where
 tmps:AR (VRel ρ) a.tmps ar.tmps
 dr:ar.defers=a.defers
theorem uP.mono {ρ ρ':Ren} {a ar:Act} (hle:ρ.le ρ') (h:uP ρ a ar):uP ρ' a ar:=⟨h.tmps.mono λ_ _=>VRel.mono hle,h.dr⟩
theorem AR.getD {R:Value->Value->Prop} {a a':Array Value} (h:AR R a a') (i:Nat) {d:Value} (hd:R d d):R (a.getD i d) (a'.getD i d):=by
 by_cases hi:i<a.size
 .
  have hi':i<a'.size:=h.1 ▸ hi;have:=h.2 i a[i] a'[i] (by simp[hi]) (by simp[hi'])
  simpa[Array.getD,hi,hi'] using this
 have hi':¬i<a'.size:=h.1 ▸ hi
 simpa[Array.getD,hi,hi'] using hd
theorem uP.eval {ρ:Ren} {a ar:Act} (h:uP ρ a ar) {G:Nat} (hg:∀g,g<G->ρ g=some (g,0)) {x:Operand} (hx:bt G x=true):VRel ρ (a.eval x) (ar.eval x):=by
 cases x with
 |tmp t=>exact h.tmps.getD t .undef
 |const v=>exact aU v hx
 |global g=>exact .ptr _ _ _ _ (hg g (by simpa[bt,Nat.blt_eq] using hx))
 |func f=>exact .func _ _ _ _ _ rfl (λi x y hx=>by simp at hx) rfl (λi x y hx=>by simp at hx)
theorem uP.put {ρ:Ren} {a ar:Act} (h:uP ρ a ar) (dst:Option Tmp) {v v':Value} (hv:VRel ρ v v'):uP ρ (a.put dst v) (ar.put dst v'):=by
 cases dst with
 |none=>exact h
 |
  some d =>
  refine ⟨⟨by simpa[Act.put] using h.tmps.1,λi x y hx hy=>?_⟩,h.dr⟩
  simp only[Act.put,Array.getElem?_setIfInBounds] at hx hy;by_cases hd:d=i
  .
   rw[if_pos hd] at hx hy;split at hx
   .
    split at hy
    .
     cases hx;cases hy;exact hv
    cases hy
   cases hx
  rw[if_neg hd] at hx hy;exact h.tmps.2 i x y hx hy
section
variable {c:Cx} {P:Program} {w:World} {ρ:Ren} {H:Mem}
theorem ck {t:TypeId} {n:Nat} (h:aM P t=some n) (w:World):(sizeOf t).run P w = .ok n w:=by
 unfold aM at h
 cases hi:P.info? t with
 |none=>simp[hi] at h
 |some i=>simp[hi] at h;simp[sizeOf,typeInfo,hi,h]
theorem qK {t:TypeId} {b:Bool} (h:rW P t=some b) (w:World):(isAgg t).run P w = .ok b w:=by
 unfold rW at h
 cases hu:P.underlying t with
 |none=>simp[hu] at h
 |some d=>cases d<;>simp[hu] at h<;>subst h<;>simp[isAgg,run_underlying hu]
theorem fY {t:TypeId} {z:Value} (h:fj P t=some z) (w:World):(zeroValue t).run P w = .ok z w/\addrFree z=true/\∃i,P.info? t=some i/\i.zero=some z:=by
 unfold fj at h
 cases hi:P.info? t with
 |none=>simp[hi] at h
 |
  some i =>
  cases hz:i.zero with
  |none=>simp[hi,hz] at h
  |
   some z' =>
   simp only[hi,hz] at h;split at h
   .
    rename_i hf;cases h;exact ⟨by simp[zeroValue,typeInfo,hi,hz],hf,i,rfl,hz⟩
   cases h
theorem kj (r off n:Nat):(⟨r,off,none⟩:Addr).add n=⟨r,off+n,none⟩:=by
 unfold Addr.add;split
 .
  rename_i h;subst h;rfl
 rfl
theorem EE {x:Option Value} {v:Value} (h:yf x=some v):x=some v/\jf v=false:=by
 unfold yf at h
 split at h
 .
  rw[pick2_eq] at h;split at h
  .
   cases h
  rename_i hj;cases h;exact ⟨rfl,by simpa using hj⟩
 cases h
theorem uU:∀(vs:List Value) (C:Array Value) (k j:Nat),k+vs.length<=j->(gW C k vs)[j]? = C[j]?
 |[],_,_,_,_=>rfl
 |
  v::vs,C,k,j,h=>by
  simp only[List.length_cons] at h;simp only[gW];rw[uU vs _ (k+1) j (by omega),Array.getElem?_setIfInBounds,if_neg (by omega)]
theorem bg.cell (he:bg c ρ H w) {i off r x:Nat} {b:Blk} {v:Value} (hi:alive H i=some b) (hr:ρ i=some (r,x)) (hv:b.cells[off]? = some v) (hj:jf v=false) :
 ∃v',w.cell? ⟨r,off,none⟩=some v'/\VRel ρ v v':=by
 obtain ⟨h1,h2⟩:=alive_some hi
 obtain ⟨r',x',C,fr,s,k1,k2,k3,k4,k5,k6,k7⟩:=he.blk i b h1 h2
 rw[hr] at k1;cases k1
 obtain ⟨v',m1,m2⟩:=k7.1.2 off v hv hj
 exact ⟨v',by simp[World.cell?,k3,m1],m2⟩
theorem bg.read (he:bg c ρ H w) {i off n r x:Nat} {l:List Value} (hr:ρ i=some (r,x)) (h:bT H i off n=some l) :
 ∃l',LR (VRel ρ) l l'/\l.length=n/\∀(j:Nat) v,l'[j]? = some v->w.cell? ((⟨r,off,none⟩:Addr).add j)=some v:=by
 unfold bT at h
 split at h
 .
  rename_i b hb;split at h
  .
   rename_i hle;rw[pick2_eq] at h;split at h
   .
    cases h
   rename_i C3;cases h
   have get:∀(j:Nat) v,((b.cells.drop off).take n)[j]? = some v->∃v',w.cell? ((⟨r,off,none⟩:Addr).add j)=some v'/\VRel ρ v v':=by
    intro j v hv
    have hjv:jf v=false:=by
     cases hq:jf v with
     |false=>rfl
     |true=>exact absurd (List.any_eq_true.2 ⟨v,List.mem_of_getElem? hv,hq⟩) C3
    rw[List.getElem?_take] at hv;split at hv
    .
     rw[List.getElem?_drop] at hv;rw[kj];exact he.cell hb hr hv hjv
    cases hv
   have hlen:((b.cells.drop off).take n).length=n:=by simp;omega
   generalize (b.cells.drop off).take n=l at get hlen;refine ⟨(List.range l.length).map λj=>(w.cell? ((⟨r,off,none⟩:Addr).add j)).getD undef,⟨by simp,λj x y hx hy=>?_⟩,hlen,λj v hv=>?_⟩
   .
    obtain ⟨v',h1,h2⟩:=get j x hx;have hj:j<l.length:=(List.getElem?_eq_some_iff.1 hx).1;simp[hj,h1] at hy;subst hy;exact h2
   have hj:j<l.length:=by
    have:=(List.getElem?_eq_some_iff.1 hv).1;simpa using this
   obtain ⟨v',h1,h2⟩:=get j l[j] (by simp[hj])
   simp[hj,h1] at hv;subst hv;exact h1
  cases h
 cases h
theorem LR.eD {R:Value->Value->Prop} {l l':List Value} (h:LR R l l'):l'.length=l.length:=h.1.symm
theorem JQ (he:bg c ρ H w) {t:TypeId} {x x' v:Value} (hx:VRel ρ x x') (h:kS c.P H t x=some v) :
 ∃v',(Instr.loadAt t x').run c.P w = .ok v' w/\VRel ρ v v':=by
 unfold kS at h
 split at h
 .
  rename_i i off;cases hx with
  |
   ptr _ _ r y hr =>
   split at h
   .
    rename_i n ha hs;simp only[Option.map_eq_some_iff] at h;obtain ⟨l,hl,rfl⟩:=h;obtain ⟨l',h1,h2,h3⟩:=he.read hr hl;refine ⟨.agg l'.toArray,?_,?_⟩
    .
     have:=run_loadCells_list (P:=c.P) w ⟨r,off,none⟩ l' h3;rw[h1.eD,h2] at this;simp[Instr.loadAt,Instr.sureAddr,loadVar,qK ha,ck hs,this]
    exact .agg _ _ h1.array.1 h1.array.2
   .
    rename_i ha;split at h
    .
     rename_i b hb;obtain ⟨hv,hj⟩:=EE h;obtain ⟨v',h1,h2⟩:=he.cell hb hr hv hj;exact ⟨v',by simp[Instr.loadAt,Instr.sureAddr,loadVar,qK ha,h1],h2⟩
    cases h
   cases h
 cases h
theorem yz (he:bg c ρ H w) {i off r x:Nat} {vs vs':List Value} {H':Mem} (hr:ρ i=some (r,x)) (hv:LR (VRel ρ) vs vs') (h:cD H i off vs=some H') :
 ∃w',(storeCells ⟨r,off,none⟩ vs').run c.P w = .ok () w'/\bg c ρ H' w'/\w'.heap.size=w.heap.size:=by
 unfold cD at h
 split at h
 .
  rename_i afY;cases h;have:vs=[]:=by simpa using afY
  subst this;rw[hv.Bk];exact ⟨w,rfl,he,rfl⟩
 split at h
 .
  rename_i b hb;split at h
  .
   rename_i hc;simp only[Bool.and_eq_true,decide_eq_true_eq,List.all_eq_true] at hc;obtain ⟨hle,hpl⟩:=hc;obtain ⟨h1,h2⟩:=alive_some hb;obtain ⟨r',x',C,fr,s,k1,k2,k3,k4,k5,k6,k7⟩:=he.blk i b h1 h2;rw[hr] at k1;cases k1
   have hone:∀v∈vs',v.oneCell'=true:=by
    intro v hm;obtain ⟨j,hj⟩:=List.getElem?_of_mem hm;have hlt:j<vs'.length:=(List.getElem?_eq_some_iff.1 hj).1;have hlt':j<vs.length:=hv.1 ▸ hlt;exact (hv.2 j vs[j] v (by simp[hlt']) hj).plain (hpl _ (List.getElem_mem hlt'))
   have hL:¬i<c.L:=by
    have:=he.lk;have:=(Mem.eC h).2.1;omega
   have k4:=k4.resolve_left hL;have hrun:=r8 (c:=c) (off:=off) vs' 0 C w k3 k4 (by rw[hv.eD];omega) hone
   exact ⟨_,hrun,he.write hb h hr k3 (o5 _ _ _) (iR _ _ _) (by simpa using k7.1.put hv) (λj hj=>uU _ _ _ _ (by have:=hv.eD;omega)),by simp[bY]⟩
  cases h
 cases h
theorem NG (he:bg c ρ H w) {t:TypeId} {x x' y y':Value} {H':Mem} (hx:VRel ρ x x') (hy:VRel ρ y y') (h:lR c.P H t x y=some H') :
 ∃w',(Instr.storeAt t x' y').run c.P w = .ok () w'/\bg c ρ H' w':=by
 unfold lR at h
 split at h
 .
  rename_i i off n hs;cases hx with
  |
   ptr _ _ r z hr =>
   split at h
   .
    rename_i hn;obtain ⟨w',h1,h2,_⟩:=yz he hr hy.cells.list h;refine ⟨w',?_,h2⟩;have hsz:y'.cells.size=n:=by rw[<-hy.cells.1];exact hn
    simp[Instr.storeAt,Instr.sureAddr,storeVar,ck hs,hsz,h1]
   cases h
 cases h
theorem LR.begins {R:Value->Value->Prop} {l l':List Value} (h:LR R l l'):gU R l l'.toArray:=⟨by simp[h.1],λj v hv _=>by
 obtain ⟨v',h1,h2⟩:=h.get hv
 exact ⟨v',by simpa using h1,h2⟩⟩
theorem LR.rK {R:Value->Value->Prop} {l l':List Value} (h:LR R l l') (pad:Array Value):gU R l (l'.toArray++pad):=⟨by simp[h.1],λj v hv _=>by
 obtain ⟨v',h1,h2⟩:=h.get hv
 have hj:j<l'.length:=(List.getElem?_eq_some_iff.1 h1).1
 exact ⟨v',by rw[Array.getElem?_append,if_pos (by simpa using hj)];simpa using h1,h2⟩⟩
theorem j5 (C:Array Value):kg C (0,0):=⟨Nat.le_refl _,λj _=>by simp⟩
theorem C5 (he:bg c ρ H w) {t:TypeId} {s:Nat} {cs:List Value} {C:Array Value} {H':Mem} {fx:Bool} (hp:H.push ⟨cs,t,true,fx⟩=some H') (hs:aM c.P t=some s) (hc:LR (VRel ρ) cs C.toList) :
 ∃ ρ',ρ.le ρ'/\ρ' H.size=some (w.heap.size,0)/\bg c ρ' H' (w.alloc (.cells C t)):=by
 refine ⟨_,he.pN (Nat.le_refl _) _,Ren.fq _ _ _,he.new (x:=0) hp hs ?_ ?_ (j5 _) (λ_=>rfl) (yx.full (by have:=hc.1;simp at this;omega))⟩
 .
  have:=hc.begins;simpa using this
 have:=hc.1;simp at this;omega
theorem mO {H H':Mem} {t:TypeId} {cs:List Value} {v:Value} (h:ow H t cs=some (v,H')):H.push ⟨cs,t,true,true⟩=some H'/\v = .pointer (some ⟨H.size,0,none⟩):=by
 unfold ow at h
 split at h
 .
  rename_i H1 h1;cases h;exact ⟨h1,rfl⟩
 cases h
theorem iu {H H':Mem} {t:TypeId} {cs:List Value} {len cap:Nat} {v:Value} (h:eo H t cs len cap=some (v,H')):H.push ⟨cs,t,true,false⟩=some H'/\v = .slice (some ⟨H.size,0,none⟩) len cap:=by
 unfold eo at h
 split at h
 .
  rename_i H1 h1;cases h;exact ⟨h1,rfl⟩
 cases h
theorem lz {H H':Mem} {t:TypeId} {cs:List Value} {len cap:Nat} {v:Value} (h:ox H t cs len cap=some (v,H')):H.push ⟨cs,t,true,true⟩=some H'/\v = .slice (some ⟨H.size,0,none⟩) len cap:=by
 unfold ox at h
 split at h
 .
  rename_i H1 h1;cases h;exact ⟨h1,rfl⟩
 cases h
theorem tA {t:TypeId} {z:Value} (h:fj P t=some z):∃s,aM P t=some s:=by
 obtain ⟨_,_,i,hi,_⟩:=fY h (default:World)
 exact ⟨i.size,by simp[aM,hi]⟩
theorem NH (he:bg c ρ H w) {t:TypeId} {v:Value} {H':Mem} (h:lp c.P t H=some (v,H')) :
 ∃ ρ' w' v',ρ.le ρ'/\bg c ρ' H' w'/\VRel ρ' v v'/\(Instr.alloc t true (.tuple #[])).run c.P w = .ok v' w':=by
 unfold lp at h
 split at h
 .
  rename_i z hz;obtain ⟨hp,rfl⟩:=mO h;obtain ⟨h1,h2,i,hi,hiz⟩:=fY hz w;obtain ⟨s,hs⟩:=tA hz;obtain ⟨ρ',k1,k2,k3⟩:=C5 he hp hs (aU (ρ:=ρ) z h2).cells.list;exact ⟨ρ',_,_,k1,k3,.ptr _ _ _ _ k2,by simp[Instr.alloc,h1,newVar,newRow]⟩
 cases h
theorem W6 (he:bg c ρ H w) {t:TypeId} {x x' v:Value} {H':Mem} (hx:VRel ρ x x') (h:Bh c.P t x H=some (v,H')) :
 ∃ ρ' w' v',ρ.le ρ'/\bg c ρ' H' w'/\VRel ρ' v v'/\(Instr.box t x').run c.P w = .ok v' w':=by
 unfold Bh at h
 split at h
 .
  rename_i s hs;obtain ⟨hp,rfl⟩:=mO h;obtain ⟨ρ',k1,k2,k3⟩:=C5 he hp hs hx.cells.list;exact ⟨ρ',_,_,k1,k3,.ptr _ _ _ _ k2,by simp[Instr.box,newVar,newRow]⟩
 cases h
def PR (R:Value->Value->Prop):List (Nat×Value)->List (Nat×Value)->Prop
 |[],[]=>True
 |(i,v)::l,(j,u)::m=>i=j/\R v u/\PR R l m
 |_,_=>False
theorem AR.abM {R:Value->Value->Prop} {a a':Array Value} (h:AR R a a') (i:Nat) {v v':Value} (hv:R v v'):AR R (a.setIfInBounds i v) (a'.setIfInBounds i v') :=
 ⟨by simpa using h.1,λj x y hx hy=>by
  rw[Array.getElem?_setIfInBounds] at hx hy;by_cases hij:i=j
  .
   rw[if_pos hij] at hx hy;split at hx
   .
    split at hy
    .
     cases hx;cases hy;exact hv
    cases hy
   cases hx
  rw[if_neg hij] at hx hy;exact h.2 j x y hx hy⟩
theorem EF {R:Value->Value->Prop} (off:Nat):∀(l l':List Value) (k:Nat) (a a':Array Value),LR R l l'->AR R a a' ->
 AR R ((l.zipIdx k).foldl (λcs (c:Value×Nat)=>cs.setIfInBounds (off+c.2) c.1) a) ((l'.zipIdx k).foldl (λcs (c:Value×Nat)=>cs.setIfInBounds (off+c.2) c.1) a')
 |[],l',k,a,a',hl,ha=>by rw[hl.Bk];exact ha
 |
  v::l,l',k,a,a',hl,ha=>by
  obtain ⟨v',t',rfl,h1,h2⟩:=hl.pL;simp only[List.zipIdx_cons,List.foldl_cons];exact EF off l t' (k+1) _ _ h2 (ha.abM _ h1)
theorem pO {place:Nat->Option (Nat×Nat)}:∀(parts parts':List (Nat×Value)) (a a' r:Array Value),PR (VRel ρ) parts parts'->AR (VRel ρ) a a' ->
 Instr.fill place a parts=some r->∃r',Instr.fill place a' parts'=some r'/\AR (VRel ρ) r r'
 |[],[],a,a',r,_,ha,h=>by simp only[Instr.fill,Option.some.injEq] at h;subst h;exact ⟨a',rfl,ha⟩
 |[],_::_,_,_,_,hp,_,_=>hp.elim
 |_::_,[],_,_,_,hp,_,_=>hp.elim
 |
  (i,v)::l,(j,u)::m,a,a',r,hp,ha,h=>by
  obtain ⟨rfl,hv,hp'⟩:=hp;simp only[Instr.fill] at h ⊢;cases hpl:place i with
  |none=>simp[hpl] at h
  |
   some q =>
   obtain ⟨off,size⟩:=q;simp only[hpl] at h ⊢;rw[<-hv.cells.1,<-ha.1];split at h
   .
    cases h
   rename_i hcond;rw[if_neg hcond];refine pO l m _ _ r hp' ?_ h
   have e:∀(c z:Array Value),(c.zipIdx.foldl (λcs (x:Value×Nat)=>cs.setIfInBounds (off+x.2) x.1) z)=((c.toList.zipIdx 0).foldl (λcs (x:Value×Nat)=>cs.setIfInBounds (off+x.2) x.1) z):=by
    intro c z;rw[<-Array.foldl_toList,Array.toList_zipIdx]
   have:=EF (R:=VRel ρ) off v.cells.toList u.cells.toList 0 a a' hv.cells.list ha;rw[<-e,<-e] at this;exact this
theorem NJ {t:TypeId} {parts parts':List (Nat×Value)} {v:Value} (hp:PR (VRel ρ) parts parts') (h:yh P t parts=some v) (w:World) :
 ∃v',(Instr.build t parts'.toArray).run P w = .ok v' w/\VRel ρ v v':=by
 unfold yh at h
 split at h
 .
  rename_i hbf;simp only[Option.map_eq_some_iff] at h;obtain ⟨cells,hc,rfl⟩:=h;obtain ⟨z,hz⟩:=Option.isSome_iff_exists.1 hbf;obtain ⟨_,hfree,i,hi,hiz⟩:=fY hz w
  have key:∃cells',P.built t parts'=some cells'/\AR (VRel ρ) cells cells':=by
   unfold Program.built at hc ⊢;simp only[hi] at hc ⊢;cases hu:P.underlying t with
   |none=>simp[hu] at hc
   |
    some d =>
    cases d<;>simp only[hu] at hc ⊢ <;> try (cases hc;done)
    .
     rename_i n e;cases he:P.info? e with
     |none=>simp[he] at hc
     |
      some ie =>
      simp only[he,hiz] at hc ⊢;exact pO _ _ _ _ _ hp ((aU (ρ:=ρ) z hfree).cells) hc
    rename_i fs;cases hm:fs.toList.mapM (λf=>(P.info? f.type).map λi=>(f.offset,i.size)) with
    |none=>simp[hm] at hc
    |
     some places =>
     simp only[hm,hiz] at hc ⊢;exact pO _ _ _ _ _ hp ((aU (ρ:=ρ) z hfree).cells) hc
  obtain ⟨cells',h1,h2⟩:=key;exact ⟨.agg cells',run_build w t _ cells' (by simpa using h1),.agg _ _ h2.1 h2.2⟩
 cases h
theorem yA {e:TypeId} {n:Nat} {zs:Array Value} (h:oy P e n=some zs) (w:World) :
 ∃s,aM P e=some s/\AR (VRel ρ) zs zs/\zs.size=n*s /\
  (do let zero <- (if n*s=0 then pure #[] else do pure (<- zeroValue e).cells:Sem (Array Value));pure ((Array.range (n*s)).map (zero[· % zero.size]!)):Sem (Array Value)).run P w = .ok zs w:=by
 unfold oy at h
 split at h
 .
  rename_i s z hs hz;obtain ⟨h1,h2,i,hi,hiz⟩:=fY hz w;refine ⟨s,hs,?_⟩;split at h
  .
   rename_i h0;cases h;exact ⟨⟨rfl,λi x y hx=>by simp at hx⟩,by simp[h0],by simp[h0]⟩
  rename_i h0;cases h;refine ⟨⟨rfl,λi x y hx hy=>?_⟩,by simp,by simp[h0,h1]⟩
  rw[hx] at hy;cases hy
  have hlt:i<n*s:=by
   have:=(Array.getElem?_eq_some_iff.1 hx).1;simpa using this
  simp[hlt] at hx;subst hx;have hz:=(aU (ρ:=ρ) z h2).cells;by_cases hsz:i%z.cells.size<z.cells.size
  .
   have:=hz.2 (i%z.cells.size) z.cells[i%z.cells.size] z.cells[i%z.cells.size] (by simp[hsz]) (by simp[hsz])
   simpa[hsz] using this
  have:z.cells[i%z.cells.size]! = default:=by simp[hsz]
  rw[this];exact aU _ (by rfl)
 cases h
end
end Go.Ev

namespace Go.Ev
open Go.RowKit
section
variable {c:Cx} {P:Program} {w:World} {ρ:Ren} {H:Mem}
theorem pP {e:TypeId} {n s:Nat} {zs:Array Value} (hs:aM P e=some s) (h:oy P e n=some zs) :
 (n*s=0/\zs = #[])\/(n*s≠0/\∃z,fj P e=some z/\zs=(Array.range (n*s)).map (z.cells[· % z.cells.size]!)):=by
 unfold oy at h
 split at h
 .
  rename_i s' z hs' hz;rw[hs] at hs';cases hs';split at h
  .
   rename_i h0;cases h;exact .inl ⟨h0,rfl⟩
  rename_i h0;cases h;exact .inr ⟨h0,z,hz,rfl⟩
 cases h
theorem AQ (he:bg c ρ H w) {t:TypeId} {len:Nat} {parts parts':List (Nat×Value)} {v:Value} {H':Mem} (hp:PR (VRel ρ) parts parts') (h:fU c.P H t len parts=some (v,H')) :
 ∃ ρ' w' v',ρ.le ρ'/\bg c ρ' H' w'/\VRel ρ' v v'/\(Instr.buildSlice t len parts'.toArray).run c.P w = .ok v' w':=by
 unfold fU at h
 split at h
 .
  rename_i e hu;split at h
  .
   rename_i s z hs hz;split at h
   .
    cases h
   rename_i hsz;split at h
   .
    rename_i cs hf;obtain ⟨hp',rfl⟩:=lz h;obtain ⟨s',hs',hzz,hzn,hrun⟩:=yA (ρ:=ρ) hz w;rw[hs] at hs';cases hs';obtain ⟨cs',hf',hcs⟩:=pO _ _ _ _ _ hp hzz hf;obtain ⟨ρ',k1,k2,k3⟩:=C5 he hp' hs hcs.list;refine ⟨ρ',_,_,k1,k3,.slice _ _ _ _ _ _ k2,?_⟩;have C6:Instr.fill (λi=>some (i*s,s)) z parts'=some cs':=hf'
    rcases pP hs hz with ⟨h0,rfl⟩|⟨h0,y,hy,rfl⟩
    .
     have NK:Array.range 0 = #[]:=rfl;simp[Instr.buildSlice,run_underlying hu,ck hs,h0,NK,C6,newRow]
    obtain ⟨hy1,_⟩:=fY hy w;have hsz':¬(16777216<len*s):=by simpa using hsz
    simp[Instr.buildSlice,run_underlying hu,ck hs,h0,hsz',hy1,C6,newRow]
   cases h
  cases h
 cases h
theorem C7 (he:bg c ρ H w) {t:TypeId} {l l' cp cp' v:Value} {H':Mem} (hl:VRel ρ l l') (hc:VRel ρ cp cp') (h:jB c.P H t l cp=some (v,H')) :
 ∃ ρ' w' v',ρ.le ρ'/\bg c ρ' H' w'/\VRel ρ' v v'/\(Instr.makeSlice t l' cp').run c.P w = .ok v' w':=by
 unfold jB at h
 split at h
 .
  rename_i e k n k' m hu;cases hl;cases hc;split at h
  .
   rename_i inf z hi hz;split at h
   .
    rename_i hb;obtain ⟨hp',rfl⟩:=lz h;obtain ⟨h0,h1,h2,h3⟩:=hb;obtain ⟨s',hs',hzz,hzn,hrun⟩:=yA (ρ:=ρ) hz w;obtain ⟨ρ',k1,k2,k3⟩:=C5 he hp' hs' hzz.list;refine ⟨ρ',_,_,k1,k3,.slice _ _ _ _ _ _ k2,?_⟩;have w1:IntKind.i64.wrap n=n:=IntWalk.i64_in _ (by omega)
    have w2:IntKind.i64.wrap m=m:=IntWalk.i64_in _ (by omega)
    have hm:(inf.bytes:Int)*m<=1000000*1000000:=Int.mul_le_mul (by omega) h2 (by omega) (by omega)
    have EG:¬((inf.bytes:Int)*m>2 ^ 48):=by omega
    have hsz:inf.size=s':=by simpa[aM,hi] using hs'
    subst hsz
    have hc1:(decide (m<0)||decide ((inf.bytes:Int)*m>2 ^ 48)||decide (n<0)||decide (n>m))=false:=by
     simp;omega
    simp only[Bool.or_eq_false_iff,decide_eq_false_iff_not] at hc1;obtain ⟨⟨⟨c1,c2⟩,c3⟩,c4⟩:=hc1;have c2':¬(281474976710656<(inf.bytes:Int)*m):=by simpa using c2
    rcases pP hs' hz with ⟨h0,rfl⟩|⟨h0,y,hy,rfl⟩
    .
     have NK:Array.range 0 = #[]:=rfl;simp[Instr.makeSlice,run_underlying hu,asInt,asIntOf,typeInfo,sizeOf,hi,w1,w2,c1,c2',c3,c4,h0,NK,newRow]
    obtain ⟨hy1,_⟩:=fY hy w;simp[Instr.makeSlice,run_underlying hu,asInt,asIntOf,typeInfo,sizeOf,hi,w1,w2,c1,c2',c3,c4,h0,hy1,newRow]
   cases h
  cases h
 cases h
theorem tB (he:bg c ρ H w) {s n:Nat} {x x':Value} {l:List Value} (hx:VRel ρ x x') (h:cK H s n x=some l) :
 ∃l',(Builtin.firstCells s n x').run c.P w = .ok l'.toArray w/\LR (VRel ρ) l l':=by
 unfold cK at h
 split at h
 .
  cases hx with
  |
   slice i off len cap r y hr =>
   obtain ⟨l',h1,h2,h3⟩:=he.read hr h;refine ⟨l',?_,h1⟩;have:=run_loadCells_list (P:=c.P) w _ l' h3;rw[h1.eD,h2] at this
   simpa[Builtin.firstCells] using this
 .
  cases hx;split at h
  .
   cases h;exact ⟨[],by simp[Builtin.firstCells],.nil⟩
  cases h
 .
  split at h
  .
   rename_i h0;cases h;subst h0;cases hx with
   |void a'=>exact ⟨[],by simpa[Builtin.firstCells] using run_loadCells_list (P:=c.P) w a' [] (λj v hj=>by cases hj),.nil⟩
  cases h
 .
  cases hx;rename_i q;split at h
  case isFalse=>cases h
  cases h;refine ⟨(q.extract 0 n).data.toList.map λb=>.int .u8 b.toNat,by simp[Builtin.firstCells];apply Array.ext';simp,?_⟩
  exact ⟨rfl,λi x y hx hy=>by
   rw[hx] at hy;cases hy;obtain ⟨b,_,rfl⟩:=List.mem_map.1 (List.mem_of_getElem? hx);exact .int _ _⟩
 cases h
theorem uV {s n:Nat} {x:Value} {l:List Value} (h:cK H s n x=some l):l.length=n*s:=by
 unfold cK at h
 split at h
 .
  rename_i b off _ _;unfold bT at h;split at h
  .
   split at h
   .
    rw[pick2_eq] at h;split at h
    .
     cases h
    cases h;simp;omega
   cases h
  cases h
 .
  split at h
  .
   rename_i h0;cases h;simp[h0]
  cases h
 .
  split at h
  .
   rename_i h0;cases h;simp[h0]
  cases h
 .
  split at h
  .
   rename_i h0;cases h;obtain ⟨rfl,h1⟩:=h0;simp;omega
  cases h
 cases h
theorem NM {x x':Value} {n:Nat} (hx:VRel ρ x x') (h:rY x=some n) (w:World):(Builtin.lenOf x').run P w = .ok n w:=by
 unfold rY at h
 split at h
 .
  cases h;cases hx<;>simp[Builtin.lenOf]
 .
  cases h;cases hx;simp[Builtin.lenOf]
 cases h
theorem C8 {xt:TypeId} (h:eO P xt=true):(∃e,P.underlying xt=some (.slice e))\/P.underlying xt=some .string:=by
 unfold eO at h
 cases hu:P.underlying xt with
 |none=>simp[hu] at h
 |
  some d =>
  cases d<;>simp[hu] at h
  .
   exact .inr rfl
  exact .inl ⟨_,rfl⟩
theorem EH (w:World) (need old:Nat) (e:TypeId) (h:need<9223372036854775808):grownCap w need old e<9223372036854775808:=by
 simp only[grownCap,Question.cut]
 have:=Nat.mod_lt (w.tape w.drawn (.appendCap need old e)) (show 0<2 ^ 63-need by omega)
 omega
theorem EI (w:World) (need old:Nat) (e:TypeId):need<=grownCap w need old e:=by
 simp only[grownCap,Question.cut];omega
theorem AU {z:Array Value} {n j:Nat} {v:Value} (h:(Builtin.zeroCells z n)[j]? = some v):v∈z.toList:=by
 simp only[Builtin.zeroCells,Array.getElem?_map,Option.map_eq_some_iff] at h
 obtain ⟨k,hk,rfl⟩:=h
 have hlt:=(Array.getElem?_eq_some_iff.1 hk).1
 simp at hlt
 have hz:0<z.size:=by
  rcases Nat.eq_zero_or_pos z.size with h0|h0
  .
   rw[h0,Nat.mul_zero] at hlt;omega
  exact h0
 have hm:k%z.size<z.size:=Nat.mod_lt _ hz
 rw[getElem!_pos z _ hm]
 simp
theorem yB (z:Array Value) (n:Nat):(Builtin.zeroCells z n).size=n*z.size:=by simp[Builtin.zeroCells]
def abN (P:Program) (e:TypeId):Bool :=
 match P.info? e with
 |
  some i=>match i.zero with
  |some z=>z.cells.size==i.size
  |none=>false
 |none=>false
theorem EJ {st xt ty e:TypeId} {inf:TypeInfo} {at_:Array TypeId} {as:Array Value} {r off sLen cap n:Nat} {x':Value} {new:List Value} {w w':World}
 (rB:at_[0]? = some st) (pn:at_[1]? = some xt) (pQ:as[0]? = some (.slice (some ⟨r,off,none⟩) sLen cap)) (rC:as[1]? = some x')
 (hu:P.underlying st=some (.slice e)) (Hl:eO P xt=true) (hi:P.info? e=some inf) (hn:(Builtin.lenOf x').run P w = .ok n w)
 (hroom:sLen+n<=cap) (Nn:(Builtin.firstCells inf.size n x').run P w = .ok new.toArray w) (hst:(storeCells ⟨r,off+sLen*inf.size,none⟩ new).run P w = .ok () w') :
 (Builtin.append_ at_ ty as).run P w = .ok (.slice (some ⟨r,off,none⟩) (sLen+n) cap) w':=by
 rcases C8 Hl with ⟨e',hd⟩|hd
 .
  simp[Builtin.append_,rB,pn,pQ,rC,run_underlying hu,run_underlying hd,sizeOf,typeInfo,hi,hn,hroom,Nn,kj,hst]
 simp[Builtin.append_,rB,pn,pQ,rC,run_underlying hu,run_underlying hd,sizeOf,typeInfo,hi,hn,hroom,Nn,kj,hst]
theorem SN {st xt ty e:TypeId} {inf:TypeInfo} {at_:Array TypeId} {as:Array Value} {sLen cap n:Nat} {x':Value} {new:List Value} {w:World}
 (rB:at_[0]? = some st) (pn:at_[1]? = some xt) (pQ:as[0]? = some (.slice none sLen cap)) (rC:as[1]? = some x')
 (hu:P.underlying st=some (.slice e)) (Hl:eO P xt=true) (hi:P.info? e=some inf) (hn:(Builtin.lenOf x').run P w = .ok n w)
 (hroom:sLen+n<=cap) (Nn:(Builtin.firstCells inf.size n x').run P w = .ok new.toArray w) :
 (Builtin.append_ at_ ty as).run P w = .ok (.slice none (sLen+n) cap) w:=by
 rcases C8 Hl with ⟨e',hd⟩|hd
 .
  simp[Builtin.append_,rB,pn,pQ,rC,run_underlying hu,run_underlying hd,sizeOf,typeInfo,hi,hn,hroom,Nn]
 simp[Builtin.append_,rB,pn,pQ,rC,run_underlying hu,run_underlying hd,sizeOf,typeInfo,hi,hn,hroom,Nn]
theorem NN {st xt ty e:TypeId} {inf:TypeInfo} {z:Value} {at_:Array TypeId} {as:Array Value} {base:Option Addr} {sLen cap n:Nat} {x':Value} {old new:List Value} {w:World}
 (rB:at_[0]? = some st) (pn:at_[1]? = some xt) (pQ:as[0]? = some (.slice base sLen cap)) (rC:as[1]? = some x')
 (hu:P.underlying st=some (.slice e)) (Hl:eO P xt=true) (hi:P.info? e=some inf) (hz:inf.zero=some z) (hn:(Builtin.lenOf x').run P w = .ok n w)
 (hroom:¬sLen+n<=cap) (hb0:inf.bytes≠0) (hfit:Builtin.nextslicecap (sLen+n) cap*inf.bytes<=281474976710656) (h63:((sLen+n:Nat):Int)<=9223372036854775807)
 (hro:(Builtin.firstCells inf.size sLen (.slice base sLen cap)).run P w.drew = .ok old.toArray w.drew) (Nn:(Builtin.firstCells inf.size n x').run P w.drew = .ok new.toArray w.drew) :
 (Builtin.append_ at_ ty as).run P w = .ok (.slice (some ⟨w.heap.size,0,none⟩) (sLen+n) (grownCap w (sLen+n) cap e))
  (w.drew.alloc (.cells (old.toArray++(new.toArray++Builtin.zeroCells z.cells (grownCap w (sLen+n) cap e-(sLen+n)))) e)):=by
 have hfit':¬(281474976710656<Builtin.nextslicecap (sLen+n) cap*inf.bytes):=by omega
 have h63':¬(9223372036854775807<((sLen:Int)+(n:Int))):=by omega
 rcases C8 Hl with ⟨e',hd⟩|hd
 .
  simp[Builtin.append_,rB,pn,pQ,rC,run_underlying hu,run_underlying hd,sizeOf,typeInfo,zeroValue,hi,hz,hn,hroom,hb0,hfit',hro,Nn,Question.forced,newRow,grownCap]
 simp[Builtin.append_,rB,pn,pQ,rC,run_underlying hu,run_underlying hd,sizeOf,typeInfo,zeroValue,hi,hz,hn,hroom,hb0,hfit',hro,Nn,Question.forced,newRow,grownCap]
end
end Go.Ev

namespace Go.Ev
open Go.RowKit
theorem uW:∀(vs:List Value) (C:Array Value) (k j:Nat),j<k->(gW C k vs)[j]? = C[j]?
 |[],_,_,_,_=>rfl
 |
  v::vs,C,k,j,h=>by
  simp only[gW];rw[uW vs _ (k+1) j (by omega),Array.getElem?_setIfInBounds,if_neg (by omega)]
theorem Bl:∀(vs:List Value) (C:Array Value) (k i:Nat) (v:Value),vs[i]? = some v->k+vs.length<=C.size->(gW C k vs)[k+i]? = some v
 |[],_,_,_,_,h,_=>by simp at h
 |
  u::vs,C,k,0,v,h,hl=>by
  simp at h;subst h;simp only[List.length_cons] at hl;simp only[gW,Nat.add_zero];rw[uW _ _ _ _ (by omega),Array.getElem?_setIfInBounds]
  simp;omega
 |
  u::vs,C,k,i+1,v,h,hl=>by
  simp only[List.length_cons] at hl;simp only[gW];have:=Bl vs (C.setIfInBounds k u) (k+1) i v (by simpa using h) (by simp;omega)
  rw[show k+(i+1)=k+1+i by omega];exact this
section
variable {c:Cx} {P:Program} {w:World} {ρ:Ren} {H:Mem}
set_option maxHeartbeats 1000000 in
theorem Lp (he:bg c ρ H w) {st xt ty:TypeId} {s s' x x' v:Value} {H':Mem} {at_:Array TypeId} {as:Array Value}
 (rB:at_[0]? = some st) (pn:at_[1]? = some xt) (pQ:as[0]? = some s') (rC:as[1]? = some x')
 (hs:VRel ρ s s') (hx:VRel ρ x x') (h:lg c.P H st xt s x=some (v,H')) :
 ∃ ρ' w' v',ρ.le ρ'/\bg c ρ' H' w'/\VRel ρ' v v'/\(Builtin.append_ at_ ty as).run c.P w = .ok v' w':=by
 unfold lg at h
 split at h
 .
  rename_i e base sLen sCap hu Hl;split at h
  .
   rename_i inf z n hi hz hn;obtain ⟨hzr,afZ,i',hi',hiz⟩:=fY hz w;rw[hi] at hi';cases hi';split at h
   .
    rename_i new old hnew hold;split at h
    .
     cases h
    rename_i EG;simp only[not_or] at EG;obtain ⟨AW,EK,hb3,hb4,hb5,hzs,hpl⟩:=EG;have hzs:z.cells.size=inf.size:=by omega
    have hsz:aM c.P e=some inf.size:=by simp[aM,hi]
    obtain ⟨new',Nn,SP⟩:=tB he hx hnew;have hlen:=NM (P:=c.P) hx hn w
    have grow:∀(cap:Nat),s' = .slice (match s' with | .slice q _ _=>q|_=>none) sLen cap->¬sLen+n<=cap->cap<=2000000+sCap ->
     ∀{H0 H2:Mem} {v:Value},bg c ρ H0 w->eo H0 e (old++new) (sLen+n) (sLen+n)=some (v,H2)->∃ ρ' w' v',ρ.le ρ'/\bg c ρ' H2 w'/\VRel ρ' v v'/\(Builtin.append_ at_ ty as).run c.P w = .ok v' w':=by
     intro cap hs' hroom hcap H0 H2 v he0 hns;obtain ⟨hp',rfl⟩:=iu hns;obtain ⟨new1,af1,W7⟩:=tB he.drew hx hnew;obtain ⟨af2,abO,W8⟩:=tB he.drew hs hold;rw[hs'] at pQ abO
     have hfit:Builtin.nextslicecap (sLen+n) cap*inf.bytes<=281474976710656:=by
      have h1:=nextslicecap_le (need:=sLen+n) (old:=cap) (by omega)
      have h2:Builtin.nextslicecap (sLen+n) cap*inf.bytes<=(2*1000000)*100000:=Nat.mul_le_mul (by omega) (by omega)
      omega
     have hrun:=NN (ty:=ty) rB pn pQ rC hu Hl hi hiz hlen hroom EK hfit (by omega) abO af1
     have hg:=EI w (sLen+n) cap e
     have hl1:(old++new).length=(sLen+n)*inf.size:=by
      have e1:old.length=sLen*inf.size:=uV hold;have e2:new.length=n*inf.size:=uV hnew;rw[List.length_append,e1,e2,Nat.add_mul]
     have hC:(af2.toArray++(new1.toArray++Builtin.zeroCells z.cells (grownCap w (sLen+n) cap e-(sLen+n)))).size=(old++new).length+(grownCap w (sLen+n) cap e-(sLen+n))*inf.size:=by
      simp only[Array.size_append,List.size_toArray,yB,hzs,List.length_append,W8.eD,W7.eD];omega
     refine ⟨_,_,_,he0.pN (Nat.le_refl _) (w.heap.size,grownCap w (sLen+n) cap e-(sLen+n)),?_,?_,hrun⟩
     .
      refine he0.drew.new hp' hsz ?_ hC (j5 _) (λh=>by cases h) ⟨λj v hj hv=>.inl ⟨z,hz,by
       rw[<-Array.append_assoc,Array.getElem?_append] at hv;split at hv
       .
        rename_i hlt;simp only[Array.size_append,List.size_toArray,List.length_append,W8.eD,W7.eD] at hlt hj;omega
       .
        exact AU hv⟩,.inr (.inl λs' hs'=>by
       rw[hsz] at hs';cases hs';rw[hC,hl1,<-Nat.add_mul,Nat.add_sub_cancel' hg];exact Nat.mul_lt_mul_of_pos_right (EH w (sLen+n) cap e (by omega)) (by omega))⟩
      have:=(W8.append W7).rK (Builtin.zeroCells z.cells (grownCap w (sLen+n) cap e-(sLen+n)))
      simpa[<-Array.append_assoc] using this
     have:=VRel.slice (ρ:=ρ.put H0.size (w.heap.size,grownCap w (sLen+n) cap e-(sLen+n))) H0.size 0 (sLen+n) (sLen+n) w.heap.size _ (Ren.fq _ _ _);rw[Nat.add_sub_cancel' hg] at this;exact this
    split at h
    .
     -- there is room that is known
     rename_i hroom;split at h
     .
      rename_i b off;simp only[Option.map_eq_some_iff] at h;obtain ⟨H1,hw1,heq⟩:=h;cases heq;cases hs with
      |
       slice _ _ _ _ r y hr =>
       obtain ⟨w',hst,W9,_⟩:=yz he hr SP hw1;exact ⟨ρ,w',_,Ren.le_refl _,W9,.slice _ _ _ _ _ _ hr,EJ rB pn pQ rC hu Hl hi hlen (by omega) Nn hst⟩
     .
      split at h
      .
       rename_i hn0;cases h;subst hn0;cases hs with
       |eB=>exact ⟨ρ,w,_,Ren.le_refl _,he,.eB _ _,SN rB pn pQ rC hu Hl hi hlen hroom Nn⟩
      cases h
     cases h
    rename_i hroom;split at h
    .
     rename_i b off;split at h
     .
      rename_i hcond;obtain ⟨hoff,abP,Xa⟩:=hcond;split at h
      case h_2=>cases h
      rename_i H1 bM;obtain ⟨kl1,kl2,kl3,kl4,kl5⟩:=iQ bM;obtain ⟨hp',rfl⟩:=iu h;subst hoff;obtain ⟨bk,hbk,tC⟩:=(Option.any_eq_true _ _).1 Xa;simp only[Bool.and_eq_true,decide_eq_true_eq,beq_iff_eq] at tC;obtain ⟨tC,hel⟩:=tC;cases hs with
      |
       slice _ _ _ _ r y hr =>
       by_cases hfit:sLen+n<=sCap+y
       .
        -- the machine finds room
        obtain ⟨hb1',hb2'⟩:=alive_some hbk;obtain ⟨r',y',C,fr,s',k1,k2,k3,k4,k5,k6,k7⟩:=he.blk b bk hb1' hb2';rw[hr] at k1;cases k1;rw[hel] at k5 k3;have k4:=k4.resolve_left (by have:=he.lk;omega)
        have k5:aM c.P e=some s':=by
         rcases k5.1 with k5|k5
         .
          have:=he.lk;omega
         exact k5
        rw[hsz] at k5;cases k5;have e1:old.length=sLen*inf.size:=abP;have e2:new.length=n*inf.size:=uV hnew
        have af4:sLen*inf.size+new'.length<=C.size:=by
         rw[SP.eD,e2,k6,tC,<-Nat.add_mul,<-Nat.add_mul];exact Nat.mul_le_mul_right _ hfit
        have hone:∀v∈new',v.oneCell'=true:=by
         intro v hm;obtain ⟨j,hj⟩:=List.getElem?_of_mem hm;have hlt':j<new.length:=by rw[<-SP.eD];exact (List.getElem?_eq_some_iff.1 hj).1
         have hall:new.all plainCell=true:=by simpa using hpl
         exact (SP.2 j new[j] v (by simp[hlt']) hj).plain (List.all_eq_true.1 hall _ (List.getElem_mem hlt'))
        have hst:=r8 (c:=c) (off:=0+sLen*inf.size) new' 0 C w k3 k4 (by omega) hone
        have hrun:=EJ (ty:=ty) rB pn pQ rC hu Hl hi hlen hfit Nn hst;refine ⟨ρ.put H1.size (r,sCap+y-(sLen+n)),_,_,(he.kill bM).pN (Nat.le_refl _) _,?_,?_,hrun⟩
        .
         have Hy:r<w.heap.size:=(Array.getElem?_eq_some_iff.1 k3).1
         have hBr:c.own r:=by
          rcases k2 with k2|k2
          .
           have:=he.lk;omega
          exact k2
         refine (he.kill bM).add hp' (s:=inf.size) (C:=gW C (0+sLen*inf.size+0) new') (fr:=fr) ?_ ?_ ?_ (λi bi hi' hm=>((he.kill bM).maps i bi hi' hm).heap λq es clock hh=>by rw[bU _ _ _ _ (λe0=>by subst e0;rw[k3] at hh;cases hh)];exact hh) ?_ (lu _ _ _ Hy) hBr ?_ hsz ?_ ?_ (λh=>by cases h) ⟨λj v hj hv=>by
          have hlo:bk.cells.length<=j:=by
           rw[tC];rw[List.length_append,e1,e2,<-Nat.add_mul] at hj;exact Nat.le_trans (Nat.mul_le_mul_right _ (by omega)) hj
          rw[uU _ _ _ _ (by rw[SP.eD,e2];rw[List.length_append,e1,e2] at hj;omega)] at hv
          rcases k7.2 with k8|k8
          .
           have:=he.lk;omega
          .
           rw[hel] at k8;exact k8.zero j v hlo hv,by
          rw[iR];rcases k7.2 with k8|k8
          .
           have:=he.lk;omega
          rw[hel] at k8;rcases k8.room with k9|k9|k9
          .
           left
           rw[List.length_append,e1,e2,<-Nat.add_mul];rw[tC] at k9;exact Nat.le_trans k9 (Nat.mul_le_mul_right _ (by omega))
          .
           exact .inr (.inl k9)
          refine .inr (.inr ?_);rw[List.length_append,e1,e2,<-Nat.add_mul];rw[tC] at k9;exact Nat.le_trans k9 (Nat.mul_le_mul_right _ (by omega))⟩
         .
          exact he.stay.ED hBr ⟨rfl,rfl,rfl,by simp[bY],λk hk=>bU _ _ _ _ (by have:=hBr.1;omega)⟩ (λk hk=>bU _ _ _ _ hk)
         .
          simpa[bY] using he.base
         .
          intro i bi hi' AE;obtain ⟨g1,g2⟩:=kl3 i bi hi' (.inl AE);obtain ⟨q,y2,E,er,s2,m1,m2,m3,m4⟩:=he.blk i bi g1 AE
          have hne:q≠r:=by
           intro e0;subst e0;exact g2 (he.inj i b bi bk q y2 y g1 AE hb1' hb2' m1 hr)
          exact ⟨q,y2,E,er,s2,m1,m2,by rw[bU _ _ _ _ hne];exact m3,m4⟩
         .
          intro i bi q y2 hi' AE hq e0;subst e0;obtain ⟨g1,g2⟩:=kl3 i bi hi' (.inl AE);exact g2 (he.inj i b bi bk q y2 y g1 AE hb1' hb2' hq hr)
         .
          exact ⟨k4.1,λj hj=>k4.2 j (by rw[iR] at hj;exact hj)⟩
         .
          rw[iR,k6,tC,List.length_append,e1,e2,<-Nat.add_mul,<-Nat.add_mul,<-Nat.add_mul]
          congr 1;omega
         refine ⟨by rw[iR,k6,tC,List.length_append,e1,e2,<-Nat.add_mul,<-Nat.add_mul];exact Nat.mul_le_mul_right _ (by omega),λj u hu hju=>?_⟩
         rw[List.getElem?_append] at hu;split at hu
         .
          rename_i hj
          have hold':bk.cells[j]? = some u:=by
           simp only[cK,bT,hbk] at hold;split at hold
           .
            rw[pick2_eq] at hold;split at hold
            .
             cases hold
            cases hold;rw[List.getElem?_take] at hu;split at hu
            .
             simpa using hu
            cases hu
           cases hold
          obtain ⟨u',p1,p2⟩:=k7.1.2 j u hold' hju;exact ⟨u',by rw[uW _ _ _ _ (by omega)];exact p1,p2⟩
         rename_i hj;obtain ⟨u',p1,p2⟩:=SP.get hu;refine ⟨u',?_,p2⟩;have:=Bl new' C (0+sLen*inf.size+0) (j-old.length) u' p1 (by omega)
         rw[show 0+sLen*inf.size+0+(j-old.length)=j by omega] at this
         exact this
        have:=VRel.slice (ρ:=ρ.put H1.size (r,sCap+y-(sLen+n))) H1.size 0 (sLen+n) (sLen+n) r _ (Ren.fq _ _ _);rw[Nat.add_sub_cancel' hfit] at this;exact this
       exact grow (sCap+y) rfl hfit (by omega) (he.kill bM) h
     cases h
    .
     cases hs;exact grow sCap rfl hroom (by omega) he h
    cases h
   cases h
  cases h
 cases h
end
end Go.Ev

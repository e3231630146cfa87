/- A closed run of a function, by an evaluator with memory of its own: its definitions. The evaluator's values and memory beside the machine's own: how the two are held against each other. Each operation of the evaluator's is the machine's own. The evaluator's operations, second part: slices, appends, copies, conversions. The evaluator's operations, third part: append, copy, conversions, places; then all of them. -/
import Derived.Calls
import Derived.Orders
import Derived.LoopN
import Derived.KernelRfl
import Derived.Laws.Tables
import Derived.Below
import Derived.Laws.Cells
import Derived.Laws.Append
import Derived.Laws.IdiomStrings
import Derived.Laws.BytesString
import Derived.Still
import Derived.Lib.Builder
import Derived.Lib.UnsafeStr
import Derived.IntWalk
set_option linter.unusedVariables false
set_option linter.unusedSimpArgs false

namespace Go.Ev
noncomputable section
inductive Tr (α:Type) where
 |e
 |n (l:Tr α) (v:Option α) (r:Tr α)
abbrev pick2 {α:Type} (b:Bool) (x y:α):α:=Bool.rec (motive:=λ_=>α) y x b
def Tr.get {α:Type} (t:Tr α):Nat->Option α :=
 Tr.rec (motive:=λ_=>Nat->Option α) (λ_=>none)
  (λ_ v _ gl gr k=>pick2 (Nat.beq k 0) v (pick2 (Nat.beq (Nat.mod k 2) 1) (gl (Nat.div k 2)) (gr (Nat.sub (Nat.div k 2) 1)))) t
def Tr.mk1 {α:Type} (x:α) (d:Nat):Nat->Tr α :=
 Nat.rec (motive:=λ_=>Nat->Tr α) (λ_=>.n .e (some x) .e)
  (λ_ go k=>pick2 (Nat.beq k 0) (.n .e (some x) .e) (pick2 (Nat.beq (Nat.mod k 2) 1) (.n (go (Nat.div k 2)) none .e) (.n .e none (go (Nat.sub (Nat.div k 2) 1))))) d
def Tr.set {α:Type} (t:Tr α):Nat->α->Option (Tr α) :=
 Tr.rec (motive:=λ_=>Nat->α->Option (Tr α)) (λk x=>some (Tr.mk1 x k k))
  (λl v r gl gr k x=>pick2 (Nat.beq k 0) (some (.n l (some x) r))
   (pick2 (Nat.beq (Nat.mod k 2) 1)
    (Option.rec (motive:=λ_=>Option (Tr α)) none (λl'=>some (.n l' v r)) (gl (Nat.div k 2) x))
    (Option.rec (motive:=λ_=>Option (Tr α)) none (λr'=>some (.n l v r')) (gr (Nat.sub (Nat.div k 2) 1) x)))) t
def Tr.full {α:Type}:Nat->Tr α
 |0=>.e
 |d+1=>.n (Tr.full d) none (Tr.full d)
structure Blk where
 cells:List Value
 elem:TypeId
 live:Bool
 fix:Bool
structure Mem where
 size:Nat
 lk:Nat
 t:Tr Blk
def Mem.get (H:Mem) (i:Nat):Option Blk:=pick2 (Nat.ble (Nat.succ i) H.size) (H.t.get i) none
def Mem.push (H:Mem) (b:Blk):Option Mem :=
 Option.rec (motive:=λ_=>Option Mem) none (λt=>some ⟨Nat.add H.size 1,H.lk,t⟩) (H.t.set H.size b)
def Mem.set (H:Mem) (i:Nat) (b:Blk):Option Mem :=
 pick2 (Nat.ble (Nat.succ i) H.size) (pick2 (Nat.ble H.lk i) (Option.rec (motive:=λ_=>Option Mem) none (λt=>some ⟨H.size,H.lk,t⟩) (H.t.set i b)) none) none
def Mem.empty:Mem:=⟨0,0,.e⟩
structure Fr where
 n:Nat
 t:Tr Value
def Fr.get (f:Fr) (i:Nat):Value:=pick2 (Nat.ble (Nat.succ i) f.n) (Option.rec (motive:=λ_=>Value) undef (λv=>v) (f.t.get i)) undef
def Fr.put (f:Fr) (dst:Option Tmp) (v:Value):Option Fr :=
 Option.rec (motive:=λ_=>Option Fr) (some f)
  (λd=>pick2 (Nat.ble (Nat.succ d) f.n) (Option.rec (motive:=λ_=>Option Fr) none (λt=>some ⟨f.n,t⟩) (f.t.set d v)) (some f)) dst
def Fr.eval (f:Fr):Operand->Value
 |.tmp t=>f.get t
 |.const v=>v
 |.global g=>.pointer (some ⟨g,0,none⟩)
 |.func f=>.func (.func f) #[] #[]
def EI (n:Nat):Nat:=cond (Nat.blt n 31) 5 (cond (Nat.blt n 127) 7 (cond (Nat.blt n 511) 9 12))
def Fr.fill (f:Fr):Nat->List Value->Option Fr
 |_,[]=>some f
 |
  i,v::l=>match f.put (some i) v with
  |some f'=>f'.fill (i+1) l
  |none=>none
mutual
def addrFree:Value->Bool
 |.bool _=>true
 |.int _ _=>true
 |.float _ _=>true
 |.complex _ _ _=>true
 |.string _=>true
 |.pointer none=>true
 |.pointer (some _)=>false
 |.slice none _ _=>true
 |.slice (some _) _ _=>false
 |.map none=>true
 |.map (some _)=>false
 |.chan _=>false
 |.func _ a b=>eM a&&eM b
 |.nilFunc=>true
 |.iface _ v=>addrFree v
 |.nilIface=>true
 |.agg cs=>eM cs
 |.tuple cs=>eM cs
def eM:Array Value->Bool
 |⟨l⟩=>addrFreeL l
def addrFreeL:List Value->Bool
 |[]=>true
 |v::l=>addrFree v&&addrFreeL l
end
def semPure (P:Program) {α:Type}:Sem α->Option α
 |.pure a=>some a
 |.program k=>semPure P (k P)
 |.mark _ k=>semPure P k
 |_=>none
def aU (P:Program) (t:TypeId):Option Nat:=(P.info? t).map (·.size)
def tQ (P:Program) (t:TypeId):Option Bool :=
 match P.underlying t with
 |some (.struct _)=>some true
 |some (.array _ _)=>some true
 |some _=>some false
 |none=>none
def alive (H:Mem) (i:Nat):Option Blk :=
 match H.get i with
 |some b=>cond b.live (some b) none
 |none=>none
def jN:Value->Bool
 |.chan _=>true
 |_=>false
def cr (H:Mem) (i off n:Nat):Option (List Value) :=
 match alive H i with
 |some b=>if off+n<=b.cells.length then pick2 (((b.cells.drop off).take n).any jN) none (some ((b.cells.drop off).take n)) else none
 |none=>none
def Aa:Option Value->Option Value
 |some v=>pick2 (jN v) none (some v)
 |none=>none
def mD (P:Program) (H:Mem) (t:TypeId) (v:Value):Option Value :=
 match v with
 |
  .pointer (some ⟨i,off,none⟩) =>
  match tQ P t,aU P t with
  |some true,some n=>(cr H i off n).map λl=>.agg l.toArray
  |
   some false,_=>match alive H i with
   |some b=>Aa b.cells[off]?
   |none=>none
  |_,_=>none
 |_=>none
def plainCell:Value->Bool
 |.agg _=>false
 |.tuple _=>false
 |_=>true
def iR (l:List Value) (off:Nat):List Value->List Value
 |[]=>l
 |v::vs=>iR (l.set off v) (off+1) vs
def dg (H:Mem) (i off:Nat) (vs:List Value):Option Mem :=
 if vs.isEmpty then some H else
 match alive H i with
 |some b=>if off+vs.length<=b.cells.length&&vs.all plainCell then H.set i { b with cells:=iR b.cells off vs } else none
 |none=>none
def nj (P:Program) (H:Mem) (t:TypeId) (v x:Value):Option Mem :=
 match v,aU P t with
 |.pointer (some ⟨i,off,none⟩),some n=>if x.cells.size=n then dg H i off x.cells.toList else none
 |_,_=>none
def pz (H:Mem) (t:TypeId) (cs:List Value):Option (Value×Mem) :=
 match H.push ⟨cs,t,true,true⟩ with
 |some H'=>some (.pointer (some ⟨H.size,0,none⟩),H')
 |none=>none
def fh (H:Mem) (t:TypeId) (cs:List Value) (len cap:Nat):Option (Value×Mem) :=
 match H.push ⟨cs,t,true,false⟩ with
 |some H'=>some (.slice (some ⟨H.size,0,none⟩) len cap,H')
 |none=>none
def pF (H:Mem) (t:TypeId) (cs:List Value) (len cap:Nat):Option (Value×Mem) :=
 match H.push ⟨cs,t,true,true⟩ with
 |some H'=>some (.slice (some ⟨H.size,0,none⟩) len cap,H')
 |none=>none
def fS (P:Program) (t:TypeId):Option Value :=
 match P.info? t with
 |
  some i=>match i.zero with
  |some z=>if addrFree z then some z else none
  |none=>none
 |none=>none
def Og (i:Int) (len:Nat):Option Nat :=
 match i with
 |.ofNat m=>pick2 (Nat.ble (Nat.succ m) len) (some m) none
 |.negSucc _=>none
def EJ (P:Program) (t:TypeId) (x ix:Value):Option Value :=
 match P.underlying t,x,ix with
 |
  some (.slice e),.slice (some ⟨b,off,none⟩) len _,.int _ i =>
  match aU P e,Og i len with
  |some s,some m=>some (.pointer (some ⟨b,Nat.add off (Nat.mul m s),none⟩))
  |_,_=>none
 |
  some (.array len e),.pointer (some ⟨b,off,none⟩),.int _ i =>
  match aU P e,Og i len with
  |some s,some m=>some (.pointer (some ⟨b,Nat.add off (Nat.mul m s),none⟩))
  |_,_=>none
 |_,_,_=>none
def tR (P:Program) (s:TypeId) (x:Value) (f:Nat):Option Value :=
 match P.underlying s,x with
 |
  some (.struct fs),.pointer (some ⟨b,off,none⟩) =>
  match fs[f]? with
  |
   some fd=>match aU P fd.type with
   |some n=>if n=0 then none else some (.pointer (some ⟨b,off+fd.offset,none⟩))
   |none=>none
  |none=>none
 |_,_=>none
def jO:Value->Nat->Option Nat
 |.int _ i,y=>if 0<=i/\i<=y then some i.toNat else none
 |_,_=>none
def jh (P:Program) (t:TypeId) (x:Value) (lo hi:Option Value):Option Value :=
 match P.underlying t,x with
 |
  some (.slice e),.slice a len cap =>
  match (match hi with|some v=>jO v cap|none=>some len) with
  |
   some h=>match (match lo with|some v=>jO v h|none=>some 0) with
   |
    some l=>match a,aU P e with
    |some ⟨b,off,none⟩,some s=>if (l=cap/\l≠0)\/cap<l then none else some (.slice (some ⟨b,off+l*s,none⟩) (h-l) (cap-l))
    |none,some _=>some (.slice none (h-l) (cap-l))
    |_,_=>none
   |none=>none
  |none=>none
 |_,_=>none
def Ab (P:Program) (t:TypeId) (cs:Array Value) (off:Nat):Option Value :=
 match tQ P t,aU P t with
 |some true,some n=>some (.agg (cs.extract off (off+n)))
 |some false,_=>cs[off]?
 |_,_=>none
def uX (P:Program) (t:TypeId) (x:Value) (f:Nat):Option Value :=
 match P.underlying t,x with
 |
  some (.struct fs),.agg cs=>match fs[f]? with
  |some fd=>Ab P fd.type cs fd.offset
  |none=>none
 |_,_=>none
def sk (P:Program) (t:TypeId) (x ix:Value):Option Value :=
 match P.underlying t,x,ix with
 |
  some (.array len e),.agg cs,.int _ i=>match aU P e,Og i len with
  |some s,some m=>Ab P e cs (Nat.mul m s)
  |_,_=>none
 |_,_,_=>none
def Ac (P:Program) (t:TypeId) (parts:List (Nat×Value)):Option Value :=
 if (fS P t).isSome then (P.built t parts).map .agg else none
def pG (P:Program) (e:TypeId) (n:Nat):Option (Array Value) :=
 match aU P e,fS P e with
 |some s,some z=>if n*s=0 then some #[] else some ((Array.range (n*s)).map (z.cells[· % z.cells.size]!))
 |_,_=>none
def gI (P:Program) (H:Mem) (t:TypeId) (len:Nat) (parts:List (Nat×Value)):Option (Value×Mem) :=
 match P.underlying t with
 |
  some (.slice e)=>match aU P e,pG P e len with
  |
   some s,some z=>if len*s>2 ^ 24 then none else
   match Instr.fill (λi=>some (i*s,s)) z parts with
   |some cs=>pF H e cs.toList len len
   |none=>none
  |_,_=>none
 |_=>none
def kI (P:Program) (H:Mem) (t:TypeId) (len cap:Value):Option (Value×Mem) :=
 match P.underlying t,len,cap with
 |
  some (.slice e),.int _ l,.int _ c=>match P.info? e,pG P e c.toNat with
  |some inf,some z=>if 0<=l/\l<=c/\c<=1000000/\inf.bytes<=1000000 then pF H e z.toList l.toNat c.toNat else none
  |_,_=>none
 |_,_,_=>none
def dW (H:Mem) (s n:Nat):Value->Option (List Value)
 |.slice (some ⟨b,off,none⟩) _ _=>cr H b off (n*s)
 |.slice none _ _=>if n=0 then some [] else none
 |.string x=>if s=1/\n<=x.size then some ((x.extract 0 n).data.toList.map λb=>.int .u8 b.toNat) else none
 |_=>none
def tT:Value->Option Nat
 |.slice _ n _=>some n
 |.string s=>some s.size
 |_=>none
def fI (P:Program) (t:TypeId):Bool :=
 match P.underlying t with
 |some (.slice _)=>true
 |some .string=>true
 |_=>false
def kill (H:Mem) (i:Nat):Option Mem :=
 match H.get i with
 |some b=>H.set i { b with live:=false,fix:=false }
 |none=>none
def mG (P:Program) (H:Mem) (st xt:TypeId) (s x:Value):Option (Value×Mem) :=
 match P.underlying st,s,fI P xt with
 |
  some (.slice e),.slice base sLen sCap,true =>
  match P.info? e,fS P e,tT x with
  |
   some inf,some z,some n =>
   match dW H inf.size n x,dW H inf.size sLen s with
   |
    some new,some old =>
    if inf.size=0\/inf.bytes=0\/inf.bytes>100000\/sLen+n>1000000\/sCap>1000000\/z.cells.size≠inf.size \/ !new.all plainCell then none else
    if sLen+n<=sCap then
     match base with
     |some ⟨b,off,none⟩=>(dg H b (off+sLen*inf.size) new).map λH'=>(.slice base (sLen+n) sCap,H')
     |_=>if n=0 then some (s,H) else none
    else
     match base with
     |
      some ⟨b,off,none⟩ =>
      if off=0/\old.length=sLen*inf.size/\(alive H b).any (λk=>decide (k.cells.length=sCap*inf.size)&&(k.elem==e)) then
       match kill H b with
       |some H1=>fh H1 e (old++new) (sLen+n) (sLen+n)
       |none=>none
      else none
     |none=>fh H e (old++new) (sLen+n) (sLen+n)
     |_=>none
   |_,_=>none
  |_,_,_=>none
 |_,_,_=>none
def Da (P:Program) (H:Mem) (dt:TypeId) (d x:Value):Option (Value×Mem) :=
 match P.underlying dt,d,tT x with
 |
  some (.slice e),.slice base dLen _,some n =>
  match aU P e with
  |
   some s=>match dW H s (Nat.min n dLen) x with
   |
    some cs=>match base with
    |some ⟨b,off,none⟩=>(dg H b off cs).map λH'=>(goInt (Nat.min n dLen),H')
    |none=>some (goInt (Nat.min n dLen),H)
    |_=>none
   |none=>none
  |none=>none
 |_,_,_=>none
def zn:Value->Option UInt8
 |.int .u8 n=>some (UInt8.ofNat n.toNat)
 |_=>none
def nr:List Value->ByteArray->Option ByteArray
 |[],acc=>some acc
 |
  v::vs,acc=>match zn v with
  |some b=>nr vs (acc.push b)
  |none=>none
def eF (P:Program) (H:Mem) (src dst:TypeId) (x:Value):Option (Value×Mem) :=
 match P.underlying src,P.underlying dst,x with
 |
  some (.slice e),some .string,.slice a len _ =>
  match P.underlying e,a with
  |
   some (.int .u8),some ⟨b,off,none⟩=>match cr H b off len with
   |some cs=>(nr cs .empty).map λs=>(.string s,H)
   |none=>none
  |some (.int .u8),none=>some (.string .empty,H)
  |_,_=>none
 |
  some .string,some (.slice e),.string s =>
  match P.underlying e,aU P e with
  |some (.int .u8),some 1=>fh H e (s.data.toList.map λb=>.int .u8 b.toNat) s.size s.size
  |_,_=>none
 |
  some (.slice _),some (.slice e),.slice (some ⟨i,off,none⟩) l c =>
  match alive H i,P.underlying e with
  |some _,some (.int .u8)=>pick2 (Nat.ble H.lk i&&Nat.beq src dst) (some (.slice (some ⟨i,off,none⟩) l c,H)) none
  |_,_=>none
 |
  some (.pointer t),some .unsafePointer,.pointer (some ⟨i,0,none⟩) =>
  match alive H i,aU P t with
  |some b,some n=>pick2 (Nat.ble 1 n&&Nat.ble 1 b.cells.length) (some (.pointer (some ⟨i,0,none⟩),H)) none
  |_,_=>none
 |
  some .unsafePointer,some (.pointer u),.pointer (some ⟨i,0,none⟩) =>
  match alive H i,aU P u with
  |some b,some _=>pick2 (b.fix&&liesAt P P.depth b.elem (b.cells.length/P.cellsOf b.elem) 0 u 1) (some (.pointer (some ⟨i,0,none⟩),H)) none
  |_,_=>none
 |_,_,_=>none
def bp (ev:Operand->Value) (o:Op):Bool:=o.operands.toList.all λx=>addrFree (ev x)
def pureA (P:Program) (ev:Operand->Value) (o:Oper):Option Value :=
 match o.op with
 |.select _ _=>none
 |
  _=>if bp ev o.op then
   match semPure P (execOp ev o) with
   |some (.value v)=>if addrFree v then some v else none
   |_=>none
  else none
def forced (n:Int):Int :=
 match n with
 |.ofNat 0=>0
 |.ofNat (m+1)=>.ofNat (m+1)
 |.negSucc 0 => -1
 |.negSucc (m+1)=>.negSucc (m+1)
def Gv (n:Int):Bool :=
 match n with
 |.ofNat m=>Nat.blt m 9223372036854775808
 |.negSucc m=>Nat.blt m 9223372036854775808
def ltI (a b:Int):Bool :=
 match a,b with
 |.ofNat m,.ofNat n=>Nat.ble (Nat.succ m) n
 |.ofNat _,.negSucc _=>false
 |.negSucc _,.ofNat _=>true
 |.negSucc m,.negSucc n=>Nat.ble (Nat.succ n) m
def eqI (a b:Int):Bool :=
 match a,b with
 |.ofNat m,.ofNat n=>Nat.beq m n
 |.negSucc m,.negSucc n=>Nat.beq m n
 |_,_=>false
def JR:IntKind->IntKind->Bool
 |.i64,.i64=>true
 |.u8,.u8=>true
 |.i32,.i32=>true
 |.u64,.u64=>true
 |_,_=>false
def Mc (op:BinOp) (a b:Int):Option Bool :=
 match op with
 |.eql=>some (eqI a b)
 |.neq=>some (!eqI a b)
 |.lss=>some (ltI a b)
 |.leq=>some (!ltI b a)
 |.gtr=>some (ltI b a)
 |.geq=>some (!ltI a b)
 |_=>none
def Md (op:BinOp) (k:IntKind) (a b:Int):Option Int :=
 match k,op with
 |.i64,.add=>pick2 (Gv (Int.add a b)) (some (forced (Int.add a b))) none
 |.i64,.sub=>pick2 (Gv (Int.sub a b)) (some (forced (Int.sub a b))) none
 |_,_=>none
def Ad (op:BinOp) (x y:Value):Option Value :=
 match x,y with
 |.int k a,.int k' b=>pick2 (JR k k')
  (match Mc op a b with
   |some t=>some (.bool t)
   |
    none=>match Md op k a b with
    |some n=>some (.int k n)
    |none=>none)
  none
 |_,_=>none
def oI (P:Program) (op:BinOp) (t:TypeId) (x y:Value):Option Value :=
 match P.underlying t,x,y with
 |
  some .bool,.bool a,.bool b=>match op with
  |.eql=>some (.bool (pick2 a b (!b)))
  |.neq=>some (.bool (pick2 a (!b) b))
  |_=>none
 |
  some (.slice _),.slice (some _) _ _,.slice none _ _=>match op with
  |.eql=>some (.bool false)
  |.neq=>some (.bool true)
  |_=>none
 |
  some (.pointer _),.pointer (some _),.pointer none=>match op with
  |.eql=>some (.bool false)
  |.neq=>some (.bool true)
  |_=>none
 |
  some (.pointer e),.pointer (some ⟨i,a,none⟩),.pointer (some ⟨j,b,none⟩)=>pick2 (Nat.beq i j&&Nat.beq a b&&(aU P e).isSome) (match op with
  |.eql=>some (.bool true)
  |.neq=>some (.bool false)
  |_=>none) none
 |
  some (.pointer _),.pointer none,.pointer none=>match op with
  |.eql=>some (.bool true)
  |.neq=>some (.bool false)
  |_=>none
 |_,_,_=>none
def iI (ev:Operand->Value) (ps:Array (Nat×Operand)):List (Nat×Value):=ps.toList.map λq=>(q.1,ev q.2)
def withMem (H:Mem) (v:Option Value):Option (Value×Mem):=Option.rec (motive:=λ_=>Option (Value×Mem)) none (λv=>some (v,H)) v
def orElse (x y:Option Value):Option Value:=Option.rec (motive:=λ_=>Option Value) y (λv=>some v) x
def Ae (c a b:Value) (H:Mem):Option (Value×Mem) :=
 match c with
 |.bool t=>some (pick2 t a b,H)
 |_=>none
def qD (P:Program) (ev:Operand->Value) (o:Oper) (op:BinOp) (t:TypeId) (x y:Value) (H:Mem):Option (Value×Mem) :=
 withMem H (orElse (Ad op x y) (orElse (oI P op t x y) (pureA P ev o)))
def mH (P:Program) (t:TypeId) (H:Mem):Option (Value×Mem) :=
 match fS P t with
 |some z=>pz H t z.cells.toList
 |none=>none
def Db (P:Program) (t:TypeId) (x:Value) (H:Mem):Option (Value×Mem) :=
 match aU P t with
 |some _=>pz H t x.cells.toList
 |none=>none
def lz (P:Program) (t:TypeId) (a x:Value) (H:Mem):Option (Value×Mem) :=
 match nj P H t a x with
 |some H'=>some (undef,H')
 |none=>none
def nu (x:Value) (H:Mem):Option (Value×Mem) :=
 match x with
 |.pointer (some a)=>some (.pointer (some a),H)
 |.func (.func f) a b=>some (.func (.func f) a b,H)
 |_=>none
def mW (x:Value) (k:Nat) (H:Mem):Option (Value×Mem) :=
 match x with
 |.tuple vs=>withMem H (vs.toList[k]?)
 |_=>none
def lH (P:Program) (t:TypeId) (x ix:Value):Option Value :=
 match P.underlying t,x,ix with
 |
  some .string,.string s,.int _ (.ofNat i)=>match s.data.toList[i]? with
  |some b=>some (.int .u8 (.ofNat b.toNat))
  |none=>none
 |_,_,_=>none
def qE (P:Program) (t:TypeId):Bool :=
 match P.underlying t with
 |some (.array _ _)=>true
 |_=>false
def lI (P:Program) (H:Mem) (t:TypeId) (x:Value) (lo hi:Option Value):Option Value :=
 match P.underlying t,x with
 |
  some (.array n e),.pointer (some ⟨b,off,none⟩) =>
  match (match hi with|some v=>jO v n|none=>some n) with
  |
   some h=>match (match lo with|some v=>jO v h|none=>some 0) with
   |
    some l=>match alive H b,aU P e with
    |some k,some s=>pick2 k.fix (some (.slice (some ⟨b,pick2 (Nat.beq n l) off (Nat.add off (Nat.mul l s)),none⟩) (h-l) (n-l))) none
    |_,_=>none
   |none=>none
  |none=>none
 |_,_=>none
def jP (P:Program) (ev:Operand->Value) (o:Oper) (t:TypeId) (x:Value) (lo hi:Option Value) (H:Mem):Option (Value×Mem) :=
 pick2 (qE P t) (withMem H (lI P H t x lo hi)) (withMem H (orElse (jh P t x lo hi) (pureA P ev o)))
def EK (P:Program) (ev:Operand->Value) (o:Oper) (t:TypeId) (x ix:Value) (H:Mem):Option (Value×Mem) :=
 withMem H (orElse (lH P t x ix) (orElse (sk P t x ix) (pureA P ev o)))
def iJ (P:Program) (d:TypeId) (x:Value):Option Value :=
 match P.underlying d,x with
 |some (.int .i64),.int .u8 (.ofNat n)=>pick2 (Nat.ble n 255) (some (.int .i64 (.ofNat n))) none
 |some (.int .i64),.int .i64 n=>pick2 (Gv n) (some (.int .i64 n)) none
 |_,_=>none
def fj (P:Program) (ev:Operand->Value) (o:Oper) (s d:TypeId) (x:Value) (H:Mem):Option (Value×Mem) :=
 match orElse (match P.underlying s with|some _=>iJ P d x|none=>none) (pureA P ev o) with
 |some v=>some (v,H)
 |none=>eF P H s d x
def pH (P:Program) (t:TypeId) (x:Value):Option Value :=
 match P.underlying t,x with
 |some (.slice _),.slice _ n _=>some (goInt n)
 |some .string,.string s=>some (goInt s.size)
 |_,_=>none
def uY (P:Program) (ev:Operand->Value) (o:Oper) (args:Array Operand) (ats:Array TypeId) (H:Mem):Option (Value×Mem) :=
 match args[0]?,ats[0]? with
 |some x,some t=>withMem H (orElse (pH P t (ev x)) (pureA P ev o))
 |_,_=>none
def nv (P:Program) (ev:Operand->Value) (args:Array Operand) (ats:Array TypeId) (H:Mem):Option (Value×Mem) :=
 match args[0]?,args[1]?,ats[0]?,ats[1]? with
 |some s,some x,some st,some xt=>mG P H st xt (ev s) (ev x)
 |_,_,_,_=>none
def wW (P:Program) (ev:Operand->Value) (args:Array Operand) (ats:Array TypeId) (H:Mem):Option (Value×Mem) :=
 match args[0]?,args[1]?,ats[0]? with
 |some d,some x,some dt=>Da P H dt (ev d) (ev x)
 |_,_,_=>none
abbrev aX:=FuncId->List Value->Mem->Option (Value×Mem)
def kJ (P:Program) (call:aX) (fv:Value) (args:List Value) (H:Mem):Option (Value×Mem) :=
 match fv with
 |
  .func (.func id) first captured=>match P.funcs[id]? with
  |some fn=>pick2 fn.body.isSome (call id (first.toList++(args++captured.toList)) H) none
  |none=>none
 |_=>none
def qF (P:Program) (fv:Value):Bool :=
 match fv with
 |
  .func (.func id) ⟨[]⟩ ⟨[]⟩=>match P.funcs[id]? with
  |some fn=>pick2 fn.body.isSome false (fn.name == "internal/abi.NoEscape" && fn.origin == "")
  |none=>false
 |_=>false
def Af (P:Program) (ev:Operand->Value) (o:Oper) (fv:Value) (args:List Value) (H:Mem):Option (Value×Mem) :=
 match args with
 |[x]=>pick2 (qF P fv) (some (x,H)) (withMem H (pureA P ev o))
 |_=>withMem H (pureA P ev o)
def y8 (P:Program) (H:Mem) (t:TypeId) (x:Value):Option Value :=
 match P.underlying t,x with
 |
  some (.slice _),.slice (some ⟨i,_,none⟩) _ c=>match alive H i with
  |some b=>pick2 b.fix (some (goInt c)) none
  |none=>none
 |some (.slice _),.slice none _ c=>some (goInt c)
 |_,_=>none
def oJ (P:Program) (ev:Operand->Value) (args:Array Operand) (ats:Array TypeId) (H:Mem):Option (Value×Mem) :=
 match args[0]?,ats[0]? with
 |some x,some t=>withMem H (y8 P H t (ev x))
 |_,_=>none
def pI:Value->Option Value
 |.slice (some a) _ c=>pick2 (Nat.beq c 0) none (some (.pointer (some a)))
 |.slice none _ _=>some (.pointer none)
 |_=>none
def ju (ev:Operand->Value) (args:Array Operand) (H:Mem):Option (Value×Mem) :=
 match args.toList with
 |[x]=>withMem H (pI (ev x))
 |_=>none
def uZ:Value->Bool
 |.int .u8 (.ofNat n)=>Nat.ble n 255
 |_=>false
def Ag (P:Program) (H:Mem) (pt:TypeId) (p n:Value):Option (Value×Mem) :=
 match p,n,P.underlying pt with
 |.pointer _,.int .i64 (.ofNat 0),_=>some (.string .empty,H)
 |
  .pointer (some ⟨i,0,none⟩),.int .i64 (.ofNat (m+1)),some (.pointer e) =>
  match alive H i,cr H i 0 (m+1) with
  |some b,some cs=>pick2 ((b.elem==e)&&Nat.beq (P.cellsOf e) 1&&Nat.ble (m+1) 1000000&&cs.all uZ)
   (match nr cs .empty,kill H i with
    |some s,some H'=>some (.string s,H')
    |_,_=>none) none
  |_,_=>none
 |_,_,_=>none
def wX (P:Program) (ev:Operand->Value) (args:Array Operand) (ats:Array TypeId) (H:Mem):Option (Value×Mem) :=
 match args.toList,ats.toList with
 |[p,n],[pt,_]=>Ag P H pt (ev p) (ev n)
 |_,_=>none
def mX (P:Program) (ev:Operand->Value) (o:Oper) (b:Builtin) (args:Array Operand) (ats:Array TypeId) (H:Mem):Option (Value×Mem) :=
 match b with
 |.len=>uY P ev o args ats H
 |.append=>nv P ev args ats H
 |.copy=>wW P ev args ats H
 |.cap=>oJ P ev args ats H
 |.unsafeSliceData=>ju ev args H
 |.unsafeString=>wX P ev args ats H
 |_=>withMem H (pureA P ev o)
def bD (P:Program) (call:aX) (ev:Operand->Value) (o:Oper) (c:Call) (H:Mem):Option (Value×Mem) :=
 match c.callee with
 |
  .value f=>match kJ P call (ev f) (c.args.toList.map ev) H with
  |some r=>some r
  |none=>Af P ev o (ev f) (c.args.toList.map ev) H
 |.builtin b=>mX P ev o b c.args c.argTypes H
 |.invoke _ _=>none
def dG (b:Blk):Bool:=pick2 b.live false b.fix
def mapOf (H:Mem) (i:Nat):Option Blk :=
 match H.get i with
 |some b=>pick2 (dG b) (some b) none
 |none=>none
def jd:List UInt8->List UInt8->Bool
 |[],[]=>true
 |a::l,b::m=>pick2 (Nat.beq a.toNat b.toNat) (jd l m) false
 |_,_=>false
def Gw:TypeDesc->Value->Value->Option Bool
 |.int d,.int k a,.int k' b=>pick2 (decide (k=d)&&decide (k=k')) (some (eqI a b)) none
 |.string,.string a,.string b=>some (jd a.data.toList b.data.toList)
 |_,_,_=>none
def nU:TypeDesc->Bool
 |.int _=>true
 |.string=>true
 |_=>false
def ny (d:TypeDesc) (k:Value):List Value->Nat->Option (Option (Nat×Value))
 |[],_=>some none
 |[_],_=>none
 |
  q::v::l,i=>match Gw d k q with
  |some true=>some (some (i,v))
  |some false=>ny d k l (i+1)
  |none=>none
def ig (P:Program) (t:TypeId) (r:Option Value) (H:Mem):Option (Value×Mem) :=
 match P.underlying t,r with
 |
  some (.map _ _),none=>match H.push ⟨[],t,false,true⟩ with
  |some H'=>some (.map (some H.size),H')
  |none=>none
 |
  some (.map _ _),some (.int _ _)=>match H.push ⟨[],t,false,true⟩ with
  |some H'=>some (.map (some H.size),H')
  |none=>none
 |_,_=>none
def jQ (H:Mem):Value->Option (List Value)
 |.map none=>some []
 |
  .map (some i)=>match mapOf H i with
  |some b=>some b.cells
  |none=>none
 |_=>none
def qf (P:Program) (H:Mem) (t:TypeId) (x k:Value) (ok:Bool):Option Value :=
 match P.underlying t with
 |
  some (.map kt e)=>match P.underlying kt,fS P e,jQ H x with
  |
   some d,some z,some cs=>pick2 (nU d) (match ny d k cs 0 with
   |some (some (_,v))=>some (pick2 ok (.tuple #[v,.bool true]) v)
   |some none=>some (pick2 ok (.tuple #[z,.bool false]) z)
   |none=>none) none
  |_,_,_=>none
 |_=>none
def jR (P:Program) (t:TypeId) (m k x:Value) (H:Mem):Option (Value×Mem) :=
 match P.underlying t,m with
 |
  some (.map kt _),.map (some i)=>match P.underlying kt,mapOf H i with
  |
   some d,some b=>pick2 (nU d&&addrFree k) (match ny d k b.cells 0 with
   |
    some (some (j,_))=>match H.set i { b with cells:=b.cells.set (2*j+1) x } with
    |some H'=>some (undef,H')
    |none=>none
   |
    some none=>match H.set i { b with cells:=b.cells++[k,x] } with
    |some H'=>some (undef,H')
    |none=>none
   |none=>none) none
  |_,_=>none
 |_,_=>none
def opA (P:Program) (call:aX) (ev:Operand->Value) (o:Oper) (H:Mem):Option (Value×Mem) :=
 match o.op with
 |.move x=>some (ev x,H)
 |.assign x=>some (ev x,H)
 |.pick c a b=>Ae (ev c) (ev a) (ev b) H
 |.binOp op t x y _=>qD P ev o op t (ev x) (ev y) H
 |.alloc t=>mH P t H
 |.box t x=>Db P t (ev x) H
 |.build t ps=>withMem H (Ac P t (iI ev ps))
 |.buildSlice t len ps=>gI P H t len (iI ev ps)
 |.load t a=>withMem H (mD P H t (ev a))
 |.store t a x=>lz P t (ev a) (ev x) H
 |.nilCheck x=>nu (ev x) H
 |.fieldAddr s x f=>withMem H (tR P s (ev x) f)
 |.indexAddr t x ix=>withMem H (EJ P t (ev x) (ev ix))
 |.extract x k=>mW (ev x) k H
 |.makeSlice t l c=>kI P H t (ev l) (ev c)
 |.makeFunc fn first captured=>some (.func fn (first.map ev) (captured.map ev),H)
 |.slice t x lo hi none=>jP P ev o t (ev x) (lo.map ev) (hi.map ev) H
 |.field t x f=>withMem H (uX P t (ev x) f)
 |.index t x ix=>EK P ev o t (ev x) (ev ix) H
 |.convert s d x=>fj P ev o s d (ev x) H
 |.call c=>bD P call ev o c H
 |.makeMap t r=>ig P t (r.map ev) H
 |.lookup t x k ok=>withMem H (qf P H t (ev x) (ev k) ok)
 |.mapUpdate t m k x=>jR P t (ev m) (ev k) (ev x) H
 |.insert t m k x=>jR P t (ev m) (ev k) (ev x) H
 |_=>withMem H (pureA P ev o)
def y9:Value->Option (Option Nat)
 |.float .f64 n=>some (some n)
 |.chan (some 1)=>some none
 |_=>none
def JS:Option Nat->Value
 |some n=>.float .f64 n
 |none=>.chan (some 1)
def Wg (op:BinOp) (a b:Option Nat):Option Nat :=
 match a,b with
 |
  some x,some y=>match op with
  |.add=>Ieee.double.add x y
  |.sub=>Ieee.double.sub x y
  |.mul=>Ieee.double.mul x y
  |_=>none
 |_,_=>none
def EL (op:BinOp) (x y:Value):Option Value :=
 match y9 x,y9 y with
 |
  some a,some b=>match op with
  |.add=>some (JS (Wg .add a b))
  |.sub=>some (JS (Wg .sub a b))
  |.mul=>some (JS (Wg .mul a b))
  |
   .neq=>match a,b with
   |some _,some _=>none
   |_,_=>some (.bool true)
  |_=>none
 |_,_=>none
def oK (a b:Nat):Nat:=2 ^ a*(2*b+1)
def qg:Nat->Nat->Nat×Nat
 |0,_=>(0,0)
 |f+1,n=>pick2 (Nat.beq (n%2) 0) ((qg f (n/2)).1+1,(qg f (n/2)).2) (0,n/2)
def Ah:Option Nat->Nat
 |none=>0
 |some n=>n+1
def pJ:Nat->Option Nat
 |0=>none
 |n+1=>some n
def EM:Value->Option (Option Nat×Option Nat)
 |.complex .f64 a b=>some (some a,some b)
 |.chan (some (k+2))=>some (pJ (qg k k).1,pJ (qg k k).2)
 |_=>none
def cxV (a b:Option Nat):Value :=
 match a,b with
 |some a,some b=>.complex .f64 a b
 |a,b=>.chan (some (oK (Ah a) (Ah b)+2))
def EN (P:Program) (fv:Value):Bool :=
 match fv with
 |
  .func (.func id) ⟨[]⟩ ⟨[]⟩=>match P.funcs[id]? with
  |some fn=>pick2 fn.body.isSome false (fn.name == "math.Float64bits" && fn.origin == "")
  |none=>false
 |_=>false
def CG (P:Program) (ev:Operand->Value) (o:Oper):Option Value :=
 match o.op with
 |.binOp op _ x y _=>EL op (ev x) (ev y)
 |
  .call c=>match c.callee,c.args.toList.map ev with
  |
   .builtin .complex,[x,y]=>match y9 x,y9 y with
   |some a,some b=>some (cxV a b)
   |_,_=>none
  |
   .builtin .real,[x]=>match EM x with
   |some q=>some (JS q.1)
   |none=>none
  |
   .builtin .imag,[x]=>match EM x with
   |some q=>some (JS q.2)
   |none=>none
  |.value f,[.chan (some 1)]=>pick2 (EN P (ev f)) (some (.chan none)) none
  |_,_=>none
 |_=>none
def bG (G:Nat):Operand->Bool
 |.global g=>Nat.blt g G
 |.const v=>addrFree v
 |_=>true
def qG (P:Program) (t:TypeId):Bool :=
 match P.underlying t with
 |some (.slice _)=>true
 |_=>false
def JT (P:Program) (t:TypeId):Bool :=
 match P.underlying t with
 |some (.pointer _)=>true
 |some .unsafePointer=>true
 |_=>false
def quiet (P:Program):Op->Bool
 |.alloc _=>false
 |.box _ _=>false
 |.buildSlice _ _ _=>false
 |.store _ _ _=>false
 |.makeSlice _ _ _=>false
 |.convert s d _ => !qG P s && !qG P d && !JT P s
 |.slice t _ _ _ _ => !qE P t
 |.call { callee:=.builtin .len,.. }=>true
 |.call { callee:=.builtin .cap,.. }=>true
 |.call { callee:=.builtin .min,.. }=>true
 |.call { callee:=.builtin .max,.. }=>true
 |.call _=>false
 |.makeMap _ _=>false
 |.mapUpdate _ _ _ _=>false
 |.insert _ _ _ _=>false
 |_=>true
inductive Leave where
 |normal
 |exit (id:Nat)
 |ret
 |goto (l:Nat)
def qH (ops:List Oper) (f:Fr) (j:Nat):Option Bool :=
 match ops[j]? with
 |
  some o=>match o.dst with
  |
   some d=>match f.get d with
   |.bool b=>some b
   |_=>none
  |none=>none
 |none=>none
def ij (o:Oper) (ops:List Oper) (f:Fr):Bool :=
 match o.guard with
 |none=>true
 |
  some (j,want)=>match qH ops f j with
  |some b=>pick2 b want (!want)
  |none=>false
def oL (f:Fr) (dst:Option Tmp) (r:Option (Value×Mem)):Option (Fr×Mem) :=
 match r with
 |
  some (v,H)=>match f.put dst v with
  |some f'=>some (f',H)
  |none=>none
 |none=>none
def cU (P:Program) (call:aX) (ops:List Oper) (o:Oper) (f:Fr) (H:Mem):Option (Fr×Mem) :=
 pick2 (ij o ops f) (oL f o.dst (opA P call f.eval o H)) (oL f o.dst (some (undef,H)))
def oM (P:Program) (call:aX) (ops:List Oper) (o:Oper) (f:Fr) (H:Mem):Option (Fr×Mem) :=
 match cU P call ops o f H with
 |some r=>some r
 |none=>pick2 (ij o ops f) (oL f o.dst (withMem H (CG P f.eval o))) none
def Gx (P:Program) (call:aX) (ops:List Oper) (l:List Oper):Fr->Mem->Option (Fr×Mem) :=
 List.rec (motive:=λ_=>Fr->Mem->Option (Fr×Mem)) (λf H=>some (f,H))
  (λo _ go f H=>Option.rec (motive:=λ_=>Option (Fr×Mem)) none (λr=>go r.1 r.2) (oM P call ops o f H)) l
def Qt (G:Nat) (ops:List Oper):Bool:=ops.all λo=>o.op.operands.toList.all (bG G)
def bit (m i:Nat):Bool:=Nat.beq (Nat.land (Nat.shiftRight m i) 1) 1
def ou (m i:Nat):Nat:=Nat.lor m (Nat.shiftLeft 1 i)
def eT:Op->Bool
 |.load _ _=>true
 |.call { callee:=.builtin .cap,.. }=>true
 |.lookup _ _ _ _=>true
 |_=>false
structure PO where
 o:Oper
 i:Nat
 pre:Nat
 VX:Nat
 looks:Nat
 q:Bool
 ld:Bool
 Qu:Bool
def mI (o:Oper):Nat:=o.after.toList.foldr (λe m=>pick2 (Region.binds .any e) (ou m e.on) m) 0
def oN (ops:Array Oper) (o:Oper):Nat:=(o.looksAt ops).foldr (λd m=>ou m d) 0
def nV (pre:Nat):List PO->Nat
 |[]=>pre
 |p::l=>pick2 (bit pre p.i) (Nat.lor p.VX (nV pre l)) (nV pre l)
def makes (_P:Program) (o:Oper):Bool :=
 match o.op,o.guard,o.dst with
 |.alloc _,none,some _=>true
 |.buildSlice _ _ _,none,some _=>true
 |_,_,_=>false
def mE (P:Program) (ev:Operand->Value) (o:Oper):Option (TypeId×List Value×Option Nat) :=
 match o.op with
 |
  .alloc t=>match fS P t with
  |some z=>some (t,z.cells.toList,none)
  |none=>none
 |
  .buildSlice t len ps=>match P.underlying t with
  |
   some (.slice e)=>match aU P e,pG P e len with
   |
    some s,some z=>if len*s>2 ^ 24 then none else
    match Instr.fill (λi=>some (i*s,s)) z (iI ev ps) with
    |some cs=>some (e,cs.toList,some len)
    |none=>none
   |_,_=>none
  |_=>none
 |_=>none
def tv:Option Nat->Nat->Value
 |none,n=>.pointer (some ⟨n,0,none⟩)
 |some len,n=>.slice (some ⟨n,0,none⟩) len len
def ov (P:Program) (ops:Array Oper):List Oper->Nat->List PO->List PO
 |[],_,acc=>acc
 |o::l,i,acc=>ov P ops l (i+1) (⟨o,i,mI o,nV (mI o) acc,oN ops o,quiet P o.op,eT o.op,makes P o⟩::acc)
def ow (L:Nat) (p:PO):Bool:=pick2 (bit L p.i) false (Nat.beq (Nat.land p.pre L) p.pre)
def Ai (x y:PO):Bool :=
 match x.o.dst,y.o.dst with
 |some d,some e => !bit y.looks d && !Nat.beq d e && !bit x.looks e
 |some d,none => !bit y.looks d
 |none,some e => !bit x.looks e
 |none,none=>true
def Zo (pos:List PO) (L:Nat) (p:PO):Bool:=pos.all λr=>Nat.beq r.i p.i||bit L r.i||bit r.pre p.i||Ai p r
def JU (pos:List PO) (L:Nat) (p:PO):Bool:=pos.all λr => !r.ld || !bit L r.i||bit p.VX r.i
def EO (l:List PO):Option (PO×List PO) :=
 match l.filter (λp => !p.Qu) with
 |[p]=>some (p,l.filter λp=>p.Qu)
 |
  []=>match l with
  |p::ms=>some (p,ms)
  |[]=>none
 |_=>none
def aas (pos:List PO) (p:PO) (ms:List PO):Bool :=
 ms.all λm=>Ai m p&&(pos.all λr => !bit r.pre m.i||bit r.VX p.i)&&ms.all λm'=>Nat.beq m.i m'.i||Ai m m'
def qh (pos:List PO):Nat->Nat->Option (List (Oper×Bool))
 |
  0,L=>match pos.find? (ow L) with
  |none=>some []
  |some _=>none
 |
  n+1,L=>match pos.find? λp=>p.q&&ow L p with
  |some p=>pick2 (Zo pos L p)
   (match qh pos n (ou L p.i) with
    |some l=>some ((p.o,false)::l)
    |none=>none)
   none
  |
   none=>match pos.filter (ow L) with
   |[]=>some []
   |
    q::r=>match EO (q::r) with
    |some (p,ms)=>pick2 (aas pos p ms)
     (match qh pos n (ou L p.i) with
      |some l=>some ((p.o,!JU pos L p)::l)
      |none=>none)
     none
    |none=>none
def Dc (ops:List Oper):Bool:=ops.all λo=>match o.op with | .select _ _=>false|_=>true
def JV (P:Program) (ops:Array Oper):Option (List (Oper×Bool)):=pick2 (Dc ops.toList) (qh (ov P ops ops.toList 0 []).reverse ops.toList.length 0) none
def plan (P:Program) (ops:Array Oper):Option (List (Oper×Bool)):=JV P ops
def kK (ev:Operand->Value) (o:Oper) (R:Option (List Nat)):Option (List Nat) :=
 match o.op with
 |
  .load _ x=>match R,ev x with
  |some l,.pointer (some ⟨b,_,_⟩)=>some (b::l)
  |_,_=>none
 |op=>pick2 (eT op) none R
def eZ:Op->Option Operand
 |.call { callee:=.builtin .append,args,.. }=>args[0]?
 |_=>none
def gk:Op->Option Operand
 |.store _ a _=>some a
 |_=>none
def ox (R:Option (List Nat)) (s:Value):Bool :=
 match s,R with
 |.slice none _ _,_=>true
 |.slice (some ⟨b,_,_⟩) _ _,some l=>l.all λj => !Nat.beq j b
 |.pointer (some ⟨b,_,_⟩),some l=>l.all λj => !Nat.beq j b
 |_,_=>false
def dh (R:Option (List Nat)) (ev:Operand->Value) (o:Oper):Bool :=
 match gk o.op with
 |some s=>ox R (ev s)
 |none=>false
def lJ (P:Program) (call:aX) (ops:List Oper) (R:Option (List Nat)) (lk:Bool) (o:Oper) (f:Fr) (H:Mem):Option (Fr×Mem) :=
 pick2 lk
  (match eZ o.op with
   |some s=>pick2 (ox R (f.eval s)) (cU P call ops o f H) none
   |
    none=>pick2 (dh R f.eval o) (cU P call ops o f H)
    (match cU P call ops o f { H with lk:=H.size } with
     |some (f',H')=>some (f',{ H' with lk:=H.lk })
     |none=>none))
  (cU P call ops o f H)
def tw (P:Program) (call:aX) (ops:List Oper) (l:List (Oper×Bool)):Option (List Nat)->Fr->Mem->Option (Fr×Mem) :=
 List.rec (motive:=λ_=>Option (List Nat)->Fr->Mem->Option (Fr×Mem)) (λ_ f H=>some (f,H))
  (λq _ go R f H=>Option.rec (motive:=λ_=>Option (Fr×Mem)) none (λr=>go (kK f.eval q.1 R) r.1 r.2) (lJ P call ops R q.2 q.1 f H)) l
abbrev Out:=Option (Leave×Fr×Mem)
def andThen (r:Out) (k:Fr->Mem->Out):Out :=
 match r with
 |some (.normal,f,H)=>k f H
 |some (.exit id,f,H)=>some (.exit id,f,H)
 |some (.ret,f,H)=>some (.ret,f,H)
 |some (.goto l,f,H)=>some (.goto l,f,H)
 |none=>none
def gJ (id:Nat) (r:Out):Out :=
 match r with
 |some (.exit id',f,H)=>pick2 (Nat.beq id' id) (some (.normal,f,H)) (some (.exit id',f,H))
 |some (.normal,f,H)=>some (.normal,f,H)
 |some (.ret,f,H)=>some (.ret,f,H)
 |some (.goto l,f,H)=>some (.goto l,f,H)
 |none=>none
def yq (body:Fr->Mem->Out) (n:Nat):Fr->Mem->Out :=
 Nat.rec (motive:=λ_=>Fr->Mem->Out) (λ_ _=>none) (λ_ go f H=>andThen (body f H) go) n
def atEnd (r:Option (Fr×Mem)):Out:=Option.rec (motive:=λ_=>Out) none (λq=>some (.normal,q.1,q.2)) r
def lA (P:Program) (G:Nat) (call:aX) (ops:Array Oper) (draw:Bool) (f:Fr) (H:Mem):Out :=
 pick2 (Qt G ops.toList)
  (pick2 draw
   (Option.rec (motive:=λ_=>Out) none (λl=>atEnd (tw P call ops.toList l (some []) f H)) (plan P ops))
   (atEnd (Gx P call ops.toList ops.toList f H)))
  none
def Dd (v:Value) (x y:Fr->Mem->Out) (f:Fr) (H:Mem):Out :=
 match v with
 |.bool b=>pick2 b (x f H) (y f H)
 |_=>none
abbrev qi:=Code->Code->Fr->Mem->Out
def fL (c:Code) (J:qi) (r:Out):Out :=
 match r with
 |
  some (.goto l,f,H)=>match findLabel c l with
  |some rest=>J c rest f H
  |none=>some (.goto l,f,H)
 |some (.normal,f,H)=>some (.normal,f,H)
 |some (.exit id,f,H)=>some (.exit id,f,H)
 |some (.ret,f,H)=>some (.ret,f,H)
 |none=>none
def fT:Value:=.pointer (some ⟨0,0,some 0⟩)
def wY (fid:FuncId):FuncId:=Nat.add 4294967296 fid
def nA (o:Oper):Bool :=
 match o.op with
 |.defer _=>false
 |_=>true
def tU (c:Code):Bool :=
 Code.rec (motive:=λ_=>Bool) true (λ_ ops _=>ops.toList.all nA) (λ_ _ x y=>x&&y) (λ_ _ _ x y=>x&&y) (λ_ _ b=>b) (λ_ b=>b)
  (λ_ _ _ _ _ _=>false) (λ_=>true) (λ_ _=>false) (λ_=>true) (λ_=>true) true (λ_=>true) c
def sn (p:Tmp) (x y:Fr->Mem->Out) (f:Fr) (items:List Value):Mem->Out :=
 List.rec (motive:=λ_=>Mem->Out) (λH=>some (.normal,f,H))
  (λv _ go H=>match f.put (some p) v with
   |
    some f1=>match x f1 H with
    |
     some (.normal,f2,H2)=>match y f2 H2 with
     |some (.normal,_,H3)=>go H3
     |some (.ret,_,H3)=>some (.ret,f,H3)
     |_=>none
    |_=>none
   |none=>none) items
def JW (P:Program) (G:Nat) (call:aX) (g:Operand) (ps:List Tmp) (plain:Bool) (x y:Fr->Mem->Out) (f:Fr) (H:Mem):Out :=
 pick2 (bG G g&&plain)
  (match ps,f.eval g with
   |
    [p],.func (.func fid) ta caps=>match ta.toList,caps.toList,P.funcs[wY fid]? with
    |
     [],[.pointer (some ⟨i,0,none⟩)],none=>match call (wY fid) [.pointer (some ⟨i,0,none⟩)] H with
     |
      some (.tuple items,H1)=>match items.toList with
      |_::l=>sn p x y f l H1
      |[]=>none
     |_=>none
    |_,_,_=>none
   |_,_=>none) none
def iS (P:Program) (G:Nat) (call:aX) (jump:qi) (rounds:Nat) (c:Code):Fr->Mem->Out :=
 Code.rec (motive:=λ_=>Fr->Mem->Out)
  (λf H=>some (.normal,f,H))
  (λ_ ops draw=>lA P G call ops draw)
  (λ_ _ x y f H=>andThen (x f H) y)
  (λc _ _ x y f H=>pick2 (bG G c) (Dd (f.eval c) x y f H) none)
  (λid _ b f H=>gJ id (b f H))
  (λ_ b=>yq b rounds)
  (λg ps a b x y=>JW P G call g ps.toList (tU a&&tU b) x y)
  (λid f H=>some (.exit id,f,H))
  (λc b f H=>fL c jump (b f H))
  (λ_ f H=>some (.normal,f,H))
  (λl f H=>some (.goto l,f,H))
  (λf H=>some (.ret,f,H))
  (λ_ _ _=>none) c
def tV (P:Program) (G:Nat) (call:aX) (rounds:Nat) (n:Nat):qi :=
 Nat.rec (motive:=λ_=>qi) (λ_ _ _ _=>none)
  (λ_ go c rest f H=>fL c go (iS P G call go rounds rest f H)) n
def u7 (P:Program) (H:Mem) (f:Fr):ResultVar->Option Value
 |.tmp t=>some (f.get t)
 |.cell x t=>mD P H t (f.get x)
def fk (P:Program) (H:Mem) (f:Fr):List ResultVar->Option (List Value)
 |[]=>some []
 |
  r::l=>match u7 P H f r,fk P H f l with
  |some v,some vs=>some (v::vs)
  |_,_=>none
def sX:List Value->Value
 |[v]=>v
 |l=>.tuple l.toArray
def EP (P:Program) (fn:Func) (r:Out):Option (Value×Mem) :=
 match r with
 |some (.normal,f,H)=>withMem H ((fk P H f fn.results.toList).map sX)
 |some (.ret,f,H)=>withMem H ((fk P H f fn.results.toList).map sX)
 |_=>none
abbrev bQ:=FuncId->List Value->Option Value
def kL (P:Program) (G:Nat) (call:aX) (rounds:Nat) (id:FuncId) (args:List Value) (H:Mem):Option (Value×Mem) :=
 match P.funcs[id]? with
 |
  some fn=>match fn.body with
  |
   some c=>match (Fr.mk fn.ntmps (Tr.full (EI fn.ntmps))).fill 0 args with
   |some f0=>pick2 (Nat.ble args.length fn.ntmps) (EP P fn (iS P G call (tV P G call rounds rounds) rounds c f0 H)) none
   |none=>none
  |none=>none
 |none=>none
def Gy:Value->Bool
 |.int .u8 _=>true
 |_=>false
def jU:List Value:=[.pointer (some ⟨0,0,none⟩)]
def ER (P:Program) (t:TypeId):Bool :=
 match P.underlying t,fS P t,aU P t with
 |some (.int .u8),some (.int .u8 (.ofNat 0)),some 1=>true
 |_,_,_=>false
def jV (P:Program) (K:bQ) (id:FuncId) (args:List Value) (H:Mem):Option (Value×Mem) :=
 match args with
 |
  [.slice (some ⟨i,0,none⟩) n c]=>match K id jU,alive H i with
  |some u,some b=>pick2 (addrFree u&&Nat.ble n c&&Nat.beq b.cells.length c&&Nat.ble c 1000000&&b.cells.all Gy&&ER P b.elem)
   (match kill H i with
    |some H'=>some (u,H')
    |none=>none) none
  |_,_=>none
 |_=>none
def je (a b:Option (Value×Mem)):Option (Value×Mem) :=
 match a with
 |some r=>some r
 |none=>b
def Aj (P:Program) (K:bQ) (id:FuncId) (args:List Value) (H:Mem):Option (Value×Mem) :=
 match args with
 |
  [.pointer (some ⟨i,0,none⟩)]=>match P.funcs[id]? with
  |
   none=>match alive H i with
   |
    some b=>match b.cells with
    |
     [.string s]=>match K id [fT,.string s] with
     |
      some (.tuple items)=>pick2 (addrFreeL items.toList)
      (match kill H i with
       |some H'=>some (.tuple (fT::items.toList).toArray,H')
       |none=>none) none
     |_=>none
    |_=>none
   |none=>none
  |some _=>none
 |_=>none
def jv (P:Program) (G:Nat) (K:bQ) (rounds:Nat) (n:Nat):aX :=
 Nat.rec (motive:=λ_=>aX) (λ_ _ _=>none)
  (λ_ go id args H=>Option.rec (motive:=λ_=>Option (Value×Mem)) (je (jV P K id args H) (je (kL P G go rounds id args H) (Aj P K id args H)))
   (λv=>pick2 (addrFreeL args&&addrFree v) (some (v,H)) none) (K id args)) n
def answer (P:Program) (K:bQ) (rounds depth:Nat) (f:FuncId) (args:List Value):Option Value :=
 match jv P 0 K rounds depth f args Mem.empty with
 |some (v,_)=>pick2 (addrFree v&&addrFreeL args) (some v) none
 |none=>none
def jW:bQ:=λ_ _=>none
def Mem.pK (H:Mem) (l:List Blk):Option Mem :=
 match l with
 |[]=>some ⟨H.size,H.size,H.t⟩
 |
  b::l=>match H.push b with
  |some H'=>H'.pK l
  |none=>none
def jX (P:Program) (K:bQ) (rows:List Blk) (rounds depth:Nat) (f:FuncId) (args:List Value):Option Value :=
 match Mem.pK Mem.empty rows with
 |
  some H=>match jv P rows.length K rounds depth f args H with
  |some (v,_)=>pick2 (addrFree v&&addrFreeL args&&rows.all λb=>addrFreeL b.cells && !dG b) (some v) none
  |none=>none
 |none=>none
end
end Go.Ev

namespace Go.Ev
open Go.RowKit
abbrev Ren:=Nat->Option (Nat×Nat)
def Ren.le (ρ ρ':Ren):Prop:=∀i x,ρ i=some x->ρ' i=some x
theorem Ren.le_refl (ρ:Ren):ρ.le ρ:=λ_ _ h=>h
theorem Ren.le_trans {a b c:Ren} (h:a.le b) (k:b.le c):a.le c:=λi x hx=>k i x (h i x hx)
def ES (m:Nat):Prop:=(Ieee.double.read m).isNaN=true
def JI:Option Nat->Nat->Prop
 |some n,x=>x=n
 |none,x=>ES x
inductive VRel (ρ:Ren):Value->Value->Prop where
 |Oh (k n):VRel ρ (.chan none) (.int k n)
 |nan (m) (h:ES m):VRel ρ (.chan (some 1)) (.float .f64 m)
 |cpx (k x y) (hx:JI (pJ (qg k k).1) x) (hy:JI (pJ (qg k k).2) y):VRel ρ (.chan (some (k+2))) (.complex .f64 x y)
 |bool (b):VRel ρ (.bool b) (.bool b)
 |int (k n):VRel ρ (.int k n) (.int k n)
 |float (k n):VRel ρ (.float k n) (.float k n)
 |complex (k a b):VRel ρ (.complex k a b) (.complex k a b)
 |string (s):VRel ρ (.string s) (.string s)
 |qI:VRel ρ (.pointer none) (.pointer none)
 |ptr (i off r x) (h:ρ i=some (r,x)):VRel ρ (.pointer (some ⟨i,off,none⟩)) (.pointer (some ⟨r,off,none⟩))
 |gK (l c):VRel ρ (.slice none l c) (.slice none l c)
 |slice (i off l c r x) (h:ρ i=some (r,x)):VRel ρ (.slice (some ⟨i,off,none⟩) l c) (.slice (some ⟨r,off,none⟩) l (c+x))
 |Ak:VRel ρ (.map none) (.map none)
 |map (i r x) (h:ρ i=some (r,x)):VRel ρ (.map (some i)) (.map (some r))
 |nilFunc:VRel ρ .nilFunc .nilFunc
 |nilIface:VRel ρ .nilIface .nilIface
 |iface (t v v') (h:VRel ρ v v'):VRel ρ (.iface t v) (.iface t v')
 |func (fn) (a a' b b':Array Value) (sa:a.size=a'.size) (ha:∀(i:Nat) x y,a[i]? = some x->a'[i]? = some y->VRel ρ x y)
  (sb:b.size=b'.size) (hb:∀(i:Nat) x y,b[i]? = some x->b'[i]? = some y->VRel ρ x y):VRel ρ (.func fn a b) (.func fn a' b')
 |agg (a a':Array Value) (sa:a.size=a'.size) (ha:∀(i:Nat) x y,a[i]? = some x->a'[i]? = some y->VRel ρ x y):VRel ρ (.agg a) (.agg a')
 |tuple (a a':Array Value) (sa:a.size=a'.size) (ha:∀(i:Nat) x y,a[i]? = some x->a'[i]? = some y->VRel ρ x y):VRel ρ (.tuple a) (.tuple a')
theorem VRel.mono {ρ ρ':Ren} (hle:ρ.le ρ') {v v':Value} (h:VRel ρ v v'):VRel ρ' v v':=by
 induction h with
 |Oh=>exact .Oh _ _
 |nan m h=>exact .nan m h
 |cpx k x y hx hy=>exact .cpx k x y hx hy
 |bool=>exact .bool _
 |int=>exact .int _ _
 |float=>exact .float _ _
 |complex=>exact .complex _ _ _
 |string=>exact .string _
 |qI=>exact .qI
 |ptr i off r x h=>exact .ptr i off r x (hle _ _ h)
 |gK=>exact .gK _ _
 |slice i off l c r x h=>exact .slice i off l c r x (hle _ _ h)
 |Ak=>exact .Ak
 |map i r x h=>exact .map i r x (hle _ _ h)
 |nilFunc=>exact .nilFunc
 |nilIface=>exact .nilIface
 |iface t v v' _ ih=>exact .iface t v v' ih
 |func fn a a' b b' sa _ sb _ Wh Wi=>exact .func fn a a' b b' sa (λi x y hx hy=>Wh i x y hx hy) sb (λi x y hx hy=>Wi i x y hx hy)
 |agg a a' sa _ ih=>exact .agg a a' sa (λi x y hx hy=>ih i x y hx hy)
 |tuple a a' sa _ ih=>exact .tuple a a' sa (λi x y hx hy=>ih i x y hx hy)
def LR (R:Value->Value->Prop) (l l':List Value):Prop:=l.length=l'.length/\∀(i:Nat) x y,l[i]? = some x->l'[i]? = some y->R x y
def AR (R:Value->Value->Prop) (a a':Array Value):Prop:=a.size=a'.size/\∀(i:Nat) x y,a[i]? = some x->a'[i]? = some y->R x y
theorem AR.list {R:Value->Value->Prop} {a a':Array Value} (h:AR R a a'):LR R a.toList a'.toList :=
 ⟨by simpa using h.1,λi x y hx hy=>h.2 i x y (by simpa using hx) (by simpa using hy)⟩
theorem LR.array {R:Value->Value->Prop} {l l':List Value} (h:LR R l l'):AR R l.toArray l'.toArray :=
 ⟨by simpa using h.1,λi x y hx hy=>h.2 i x y (by simpa using hx) (by simpa using hy)⟩
theorem LR.of_array {R:Value->Value->Prop} {a a':Array Value} (h:LR R a.toList a'.toList):AR R a a' :=
 ⟨by simpa using h.1,λi x y hx hy=>h.2 i x y (by simpa using hx) (by simpa using hy)⟩
theorem LR.nil {R:Value->Value->Prop}:LR R [] []:=⟨rfl,λi x y hx=>by simp at hx⟩
theorem LR.cons {R:Value->Value->Prop} {v v':Value} {l l':List Value} (hv:R v v') (h:LR R l l'):LR R (v::l) (v'::l') :=
 ⟨by simp[h.1],λi x y hx hy=>by
  cases i with
  |zero=>simp at hx hy;subst hx hy;exact hv
  |succ i=>exact h.2 i x y (by simpa using hx) (by simpa using hy)⟩
theorem LR.qJ {R:Value->Value->Prop} {v:Value} {l l':List Value} (h:LR R (v::l) l'):∃v' t',l'=v'::t'/\R v v'/\LR R l t':=by
 cases l' with
 |nil=>have:=h.1;simp at this
 |cons v' t'=>exact ⟨v',t',rfl,h.2 0 v v' rfl rfl,by have:=h.1;simpa using this,λi x y hx hy=>h.2 (i+1) x y (by simpa using hx) (by simpa using hy)⟩
theorem LR.De {R:Value->Value->Prop} {l':List Value} (h:LR R [] l'):l'=[]:=by
 have:=h.1;simpa using this.symm
theorem LR.append {R:Value->Value->Prop} {a a' b b':List Value} (h:LR R a a') (k:LR R b b'):LR R (a++b) (a'++b') :=
 ⟨by simp[h.1,k.1],λi x y hx hy=>by
  rw[List.getElem?_append] at hx hy;by_cases hi:i<a.length
  .
   rw[if_pos hi] at hx;rw[if_pos (h.1 ▸ hi)] at hy;exact h.2 i x y hx hy
  rw[if_neg hi] at hx;rw[if_neg (h.1 ▸ hi)] at hy;exact k.2 _ x y hx (by rw[h.1];exact hy)⟩
theorem LR.take {R:Value->Value->Prop} {a a':List Value} (h:LR R a a') (n:Nat):LR R (a.take n) (a'.take n) :=
 ⟨by simp[h.1],λi x y hx hy=>by
  rw[List.getElem?_take] at hx hy;by_cases hi:i<n
  .
   rw[if_pos hi] at hx hy;exact h.2 i x y hx hy
  rw[if_neg hi] at hx;cases hx⟩
theorem LR.drop {R:Value->Value->Prop} {a a':List Value} (h:LR R a a') (n:Nat):LR R (a.drop n) (a'.drop n) :=
 ⟨by simp[h.1],λi x y hx hy=>by
  rw[List.getElem?_drop] at hx hy;exact h.2 _ x y hx hy⟩
theorem LR.get {R:Value->Value->Prop} {a a':List Value} (h:LR R a a') {i:Nat} {x:Value} (hx:a[i]? = some x):∃y,a'[i]? = some y/\R x y:=by
 have hlt:i<a.length:=(List.getElem?_eq_some_iff.1 hx).1
 have hlt':i<a'.length:=h.1 ▸ hlt
 exact ⟨a'[i],by simp[hlt'],h.2 i x _ hx (by simp[hlt'])⟩
theorem LR.set {R:Value->Value->Prop} {a a':List Value} (h:LR R a a') (i:Nat) {v v':Value} (hv:R v v'):LR R (a.set i v) (a'.set i v') :=
 ⟨by simp[h.1],λj x y hx hy=>by
  rw[List.getElem?_set] at hx hy;by_cases hij:i=j
  .
   rw[if_pos hij] at hx hy;by_cases hl:i<a.length
   .
    have hl':i<a'.length:=h.1 ▸ hl;rw[if_pos (hij ▸ hl)] at hx;rw[if_pos (hij ▸ hl')] at hy;cases hx;cases hy;exact hv
   rw[if_neg (hij ▸ hl)] at hx;cases hx
  rw[if_neg hij] at hx hy;exact h.2 j x y hx hy⟩
theorem LR.mono {R R':Value->Value->Prop} (hr:∀x y,R x y->R' x y) {a a':List Value} (h:LR R a a'):LR R' a a':=⟨h.1,λi x y hx hy=>hr _ _ (h.2 i x y hx hy)⟩
theorem AR.mono {R R':Value->Value->Prop} (hr:∀x y,R x y->R' x y) {a a':Array Value} (h:AR R a a'):AR R' a a':=⟨h.1,λi x y hx hy=>hr _ _ (h.2 i x y hx hy)⟩
mutual
theorem aV {ρ:Ren}:∀v,addrFree v=true->VRel ρ v v
 |.bool _,_=>.bool _
 |.int _ _,_=>.int _ _
 |.float _ _,_=>.float _ _
 |.complex _ _ _,_=>.complex _ _ _
 |.string _,_=>.string _
 |.pointer none,_=>.qI
 |.pointer (some _),h=>by simp[addrFree] at h
 |.slice none _ _,_=>.gK _ _
 |.slice (some _) _ _,h=>by simp[addrFree] at h
 |.map none,_=>.Ak
 |.map (some _),h=>by simp[addrFree] at h
 |.chan _,h=>by simp[addrFree] at h
 |
  .func fn a b,h=>by
  simp only[addrFree,Bool.and_eq_true] at h;exact .func fn a a b b rfl (iT a h.1) rfl (iT b h.2)
 |.nilFunc,_=>.nilFunc
 |.iface t v,h=>.iface t v v (aV v (by simpa[addrFree] using h))
 |.nilIface,_=>.nilIface
 |.agg cs,h=>.agg cs cs rfl (iT cs (by simpa[addrFree] using h))
 |.tuple cs,h=>.tuple cs cs rfl (iT cs (by simpa[addrFree] using h))
theorem iT {ρ:Ren}:∀a:Array Value,eM a=true->∀(i:Nat) x y,a[i]? = some x->a[i]? = some y->VRel ρ x y
 |⟨l⟩,h,i,x,y,hx,hy=>lB l (by simpa[eM] using h) i x y (by simpa using hx) (by simpa using hy)
theorem lB {ρ:Ren}:∀l:List Value,addrFreeL l=true->∀(i:Nat) x y,l[i]? = some x->l[i]? = some y->VRel ρ x y
 |[],_,i,x,y,hx,_=>by simp at hx
 |
  v::l,h,0,x,y,hx,hy=>by
  simp only[addrFreeL,Bool.and_eq_true] at h;simp at hx hy;subst hx hy;exact aV v h.1
 |
  v::l,h,i+1,x,y,hx,hy=>by
  simp only[addrFreeL,Bool.and_eq_true] at h;exact lB l h.2 i x y (by simpa using hx) (by simpa using hy)
end
theorem kM:∀{l:List Value},addrFreeL l=true->∀{i:Nat} {x:Value},l[i]? = some x->addrFree x=true
 |[],_,i,x,hx=>by simp at hx
 |
  v::l,h,0,x,hx=>by
  simp only[addrFreeL,Bool.and_eq_true] at h;simp at hx;subst hx;exact h.1
 |
  v::l,h,i+1,x,hx=>by
  simp only[addrFreeL,Bool.and_eq_true] at h;exact kM h.2 (by simpa using hx)
theorem oO {a:Array Value} (h:eM a=true) {i:Nat} {x:Value} (hx:a[i]? = some x):addrFree x=true:=by
 cases a with
 |mk l=>exact kM (l:=l) (by simpa[eM] using h) (by simpa using hx)
theorem Al {a a':Array Value} (hs:a.size=a'.size) (h:∀(i:Nat) x y,a[i]? = some x->a'[i]? = some y->y=x):a'=a:=by
 apply Array.ext_getElem?
 intro i
 by_cases hi:i<a.size
 .
  have hi':i<a'.size:=hs ▸ hi;rw[Array.getElem?_eq_getElem hi,Array.getElem?_eq_getElem hi'];exact congrArg some (h i _ _ (Array.getElem?_eq_getElem hi) (Array.getElem?_eq_getElem hi'))
 rw[Array.getElem?_eq_none (Nat.le_of_not_lt hi),Array.getElem?_eq_none (Nat.le_of_not_lt (hs ▸ hi))]
theorem dX {ρ:Ren} {v v':Value} (h:VRel ρ v v') (hf:addrFree v=true):v'=v:=by
 induction h with
 |Oh=>simp[addrFree] at hf
 |nan=>simp[addrFree] at hf
 |cpx=>simp[addrFree] at hf
 |ptr=>simp[addrFree] at hf
 |slice=>simp[addrFree] at hf
 |map=>simp[addrFree] at hf
 |iface t v v' _ ih=>rw[ih (by simpa[addrFree] using hf)]
 |
  func fn a a' b b' sa _ sb _ Wh Wi =>
  simp only[addrFree,Bool.and_eq_true] at hf;rw[Al sa (λi x y hx hy=>Wh i x y hx hy (oO hf.1 hx)),Al sb (λi x y hx hy=>Wi i x y hx hy (oO hf.2 hx))]
 |
  agg a a' sa _ ih =>
  simp only[addrFree] at hf;rw[Al sa (λi x y hx hy=>ih i x y hx hy (oO hf hx))]
 |
  tuple a a' sa _ ih =>
  simp only[addrFree] at hf;rw[Al sa (λi x y hx hy=>ih i x y hx hy (oO hf hx))]
 |_=>rfl
theorem AR.dX {ρ:Ren} {a a':Array Value} (h:AR (VRel ρ) a a') (hf:eM a=true):a'=a :=
 Al h.1 λi x y hx hy=>Ev.dX (h.2 i x y hx hy) (oO hf hx)
theorem AR.aV {ρ:Ren} {a:Array Value} (hf:eM a=true):AR (VRel ρ) a a:=⟨rfl,iT a hf⟩
theorem VRel.undef {ρ:Ren}:VRel ρ Go.undef Go.undef:=.tuple _ _ rfl (λi x y hx=>by simp at hx)
theorem VRel.cells {ρ:Ren} {v v':Value} (h:VRel ρ v v'):AR (VRel ρ) v.cells v'.cells:=by
 have one:∀{v v':Value},VRel ρ v v'->AR (VRel ρ) #[v] #[v']:=λh=>⟨rfl,λi x y hx hy=>by
  cases i with
  |zero=>simp at hx hy;subst hx hy;exact h
  |succ i=>simp at hx⟩
 cases h with
 |agg a a' sa ha=>exact ⟨sa,ha⟩
 |Oh=>exact one (.Oh _ _)
 |nan m h=>exact one (.nan m h)
 |cpx k x y hx hy=>exact one (.cpx k x y hx hy)
 |bool=>exact one (.bool _)
 |int=>exact one (.int _ _)
 |float=>exact one (.float _ _)
 |complex=>exact one (.complex _ _ _)
 |string=>exact one (.string _)
 |qI=>exact one .qI
 |ptr i off r x h=>exact one (.ptr i off r x h)
 |gK=>exact one (.gK _ _)
 |slice i off l c r x h=>exact one (.slice i off l c r x h)
 |Ak=>exact one .Ak
 |map i r x h=>exact one (.map i r x h)
 |nilFunc=>exact one .nilFunc
 |nilIface=>exact one .nilIface
 |iface t v v' h=>exact one (.iface t v v' h)
 |func fn a a' b b' sa ha sb hb=>exact one (.func fn a a' b b' sa ha sb hb)
 |tuple a a' sa ha=>exact one (.tuple a a' sa ha)
theorem VRel.plain {ρ:Ren} {v v':Value} (h:VRel ρ v v') (hp:plainCell v=true):v'.oneCell'=true:=by
 cases h<;>first|rfl|(simp[plainCell] at hp)
def iK (R:Value->Value->Prop) (l:List Value) (C:Array Value):Prop:=l.length<=C.size/\∀(j:Nat) v,l[j]? = some v->jN v=false->∃v',C[j]? = some v'/\R v v'
def lK (C:Array Value) (fr:Nat×Nat):Prop:=fr.1<=fr.2/\∀j,j<C.size->¬(fr.1<=j/\j<fr.2)
theorem fM {α:Type} (x y:α):pick2 true x y=x:=rfl
theorem Gz {α:Type} (x y:α):pick2 false x y=y:=rfl
theorem pick2_eq {α:Type} (b:Bool) (x y:α):pick2 b x y=if b then x else y:=by cases b<;>rfl
theorem Tr.qK {α:Type} (l:Tr α) (v:Option α) (r:Tr α) (k:Nat):(Tr.n l v r).get k=if k=0 then v else if k%2=1 then l.get (k/2) else r.get (k/2-1):=by
 show pick2 (Nat.beq k 0) v (pick2 (Nat.beq (k%2) 1) (l.get (k/2)) (r.get (k/2-1)))=_
 rw[pick2_eq,pick2_eq];simp only[Nat.beq_eq]
theorem Tr.Zp {α:Type} (l:Tr α) (v:Option α) (r:Tr α) (k:Nat) (x:α):(Tr.n l v r).set k x=if k=0 then some (.n l (some x) r) else if k%2=1 then (l.set (k/2) x).map (λl'=>.n l' v r) else (r.set (k/2-1) x).map (λr'=>.n l v r'):=by
 show pick2 (Nat.beq k 0) (some (Tr.n l (some x) r)) (pick2 (Nat.beq (k%2) 1) (Option.rec (motive:=λ_=>Option (Tr α)) none (λl'=>some (Tr.n l' v r)) (l.set (k/2) x)) (Option.rec (motive:=λ_=>Option (Tr α)) none (λr'=>some (Tr.n l v r')) (r.set (k/2-1) x)))=_
 rw[pick2_eq,pick2_eq];simp only[Nat.beq_eq]
 cases l.set (k/2) x<;>cases r.set (k/2-1) x<;>rfl
theorem Tr.GA {α:Type} (j:Nat):(Tr.e:Tr α).get j=none:=rfl
theorem Tr.ET {α:Type} {x:α}:∀(d k:Nat),k<=d->∀j,(Tr.mk1 x d k).get j=if j=k then some x else none
 |
  0,k,hk,j=>by
  obtain rfl:k=0:=by omega
  show (Tr.n .e (some x) .e).get j=_;rw[Tr.qK];simp only[Tr.GA];split<;>simp_all
 |
  d+1,k,hk,j=>by
  show (pick2 (Nat.beq k 0) (Tr.n .e (some x) .e) (pick2 (Nat.beq (k%2) 1) (.n (Tr.mk1 x d (k/2)) none .e) (.n .e none (Tr.mk1 x d (k/2-1))))).get j=_;rw[pick2_eq,pick2_eq];simp only[Nat.beq_eq];by_cases h0:k=0
  .
   rw[if_pos h0,Tr.qK];simp only[Tr.GA];subst h0;split<;>simp_all
  rw[if_neg h0];by_cases h1:k%2=1
  .
   rw[if_pos h1,Tr.qK,Tr.ET d (k/2) (by omega)]
   simp only[Tr.GA];by_cases hj:j=0
   .
    rw[if_pos hj,if_neg (by omega)]
   rw[if_neg hj];by_cases JX:j%2=1
   .
    rw[if_pos JX];by_cases EU:j/2=k/2
    .
     rw[if_pos EU,if_pos (by omega)]
    rw[if_neg EU,if_neg (by omega)]
   rw[if_neg JX,if_neg (by omega)]
  rw[if_neg h1,Tr.qK,Tr.ET d (k/2-1) (by omega)]
  simp only[Tr.GA];by_cases hj:j=0
  .
   rw[if_pos hj,if_neg (by omega)]
  rw[if_neg hj];by_cases JX:j%2=1
  .
   rw[if_pos JX,if_neg (by omega)]
  rw[if_neg JX];by_cases EU:j/2-1=k/2-1
  .
   rw[if_pos EU,if_pos (by omega)]
  rw[if_neg EU,if_neg (by omega)]
theorem Tr.eE {α:Type} (x:α):∀(t:Tr α) (k:Nat),∃t',t.set k x=some t':=by
 intro t
 induction t with
 |e=>exact λk=>⟨_,rfl⟩
 |
  n l v r ihl ihr =>
  intro k;rw[Tr.Zp];obtain ⟨l',hl⟩:=ihl (k/2);obtain ⟨r',hr⟩:=ihr (k/2-1);rw[hl,hr];split
  .
   exact ⟨_,rfl⟩
  split<;>exact ⟨_,rfl⟩
theorem Tr.sq {α:Type} {x:α}:∀{t t':Tr α} {k:Nat},t.set k x=some t'->∀j,t'.get j=if j=k then some x else t.get j:=by
 intro t
 induction t with
 |
  e =>
  intro t' k h j;have h':some (Tr.mk1 x k k)=some t':=h;cases h';exact Tr.ET k k (Nat.le_refl k) j
 |
  n l v r ihl ihr =>
  intro t' k h j;rw[Tr.Zp] at h;by_cases hk:k=0
  .
   rw[if_pos hk] at h;cases h;rw[Tr.qK,Tr.qK,hk];by_cases hj:j=0<;>simp[hj]
  rw[if_neg hk] at h;by_cases hm:k%2=1
  .
   rw[if_pos hm] at h;simp only[Option.map_eq_some_iff] at h;obtain ⟨l',hl,rfl⟩:=h;rw[Tr.qK,Tr.qK];by_cases hj:j=0
   .
    rw[if_pos hj,if_pos hj,if_neg (by omega)]
   rw[if_neg hj,if_neg hj];by_cases JX:j%2=1
   .
    rw[if_pos JX,if_pos JX,ihl hl];by_cases EU:j/2=k/2
    .
     rw[if_pos EU,if_pos (by omega)]
    rw[if_neg EU,if_neg (by omega)]
   rw[if_neg JX,if_neg JX,if_neg (by omega)]
  rw[if_neg hm] at h;simp only[Option.map_eq_some_iff] at h;obtain ⟨r',hr,rfl⟩:=h;rw[Tr.qK,Tr.qK];by_cases hj:j=0
  .
   rw[if_pos hj,if_pos hj,if_neg (by omega)]
  rw[if_neg hj,if_neg hj];by_cases JX:j%2=1
  .
   rw[if_pos JX,if_pos JX,if_neg (by omega)]
  rw[if_neg JX,if_neg JX,ihr hr];by_cases EU:j/2-1=k/2-1
  .
   rw[if_pos EU,if_pos (by omega)]
  rw[if_neg EU,if_neg (by omega)]
theorem gL (i n:Nat):Nat.ble (Nat.succ i) n=decide (i<n):=by
 rw[Bool.eq_iff_iff];simp[Nat.ble_eq];omega
theorem u9 (i n:Nat):Nat.ble i n=decide (i<=n):=by
 rw[Bool.eq_iff_iff];simp[Nat.ble_eq]
theorem Mem.get_eq (H:Mem) (i:Nat):H.get i=if i<H.size then H.t.get i else none:=by
 unfold Mem.get;rw[pick2_eq,gL];simp
theorem Mem.bH {H:Mem} {i:Nat} {b:Blk} (h:H.get i=some b):i<H.size:=by
 rw[Mem.get_eq] at h;split at h
 .
  assumption
 cases h
theorem Mem.bA {H H':Mem} {b:Blk} (h:H.push b=some H'):H'.size=H.size+1/\H'.lk=H.lk/\∀i,H'.get i=if i=H.size then some b else H.get i:=by
 unfold Mem.push at h
 cases hs:H.t.set H.size b with
 |none=>rw[hs] at h;cases h
 |
  some t =>
  rw[hs] at h;have h':some (Mem.mk (H.size+1) H.lk t)=some H':=h;cases h';refine ⟨rfl,rfl,λi=>?_⟩
  rw[Mem.get_eq,Mem.get_eq];simp only[Tr.sq hs];by_cases h1:i=H.size
  .
   subst h1;simp
  rw[if_neg h1,if_neg h1];by_cases h2:i<H.size
  .
   rw[if_pos h2,if_pos (by omega)]
  rw[if_neg h2,if_neg (by omega)]
theorem Mem.fq {H H':Mem} {i:Nat} {b:Blk} (h:H.set i b=some H'):i<H.size/\H.lk<=i/\H'.size=H.size/\H'.lk=H.lk/\∀j,H'.get j=if j=i then some b else H.get j:=by
 unfold Mem.set at h
 rw[pick2_eq,pick2_eq,gL,u9] at h
 split at h
 .
  rename_i hi;simp only[decide_eq_true_eq] at hi;split at h
  .
   rename_i hl;simp only[decide_eq_true_eq] at hl;cases hs:H.t.set i b with
   |none=>rw[hs] at h;cases h
   |
    some t =>
    rw[hs] at h;have h':some (Mem.mk H.size H.lk t)=some H':=h;cases h';refine ⟨hi,hl,rfl,rfl,λj=>?_⟩
    rw[Mem.get_eq,Mem.get_eq];simp only[Tr.sq hs];by_cases h1:j=i
    .
     subst h1;rw[if_pos rfl,if_pos rfl,if_pos hi]
    rw[if_neg h1,if_neg h1]
  cases h
 cases h
structure Cx where
 P:Program
 B:Nat
 L:Nat
 G:Nat
 w0:World
 K:Nat->Option Obj
def Cx.own (c:Cx) (r:Nat):Prop:=c.B<=r/\c.K r=none
structure sY (c:Cx) (w:World):Prop where
 below:Below c.B c.w0 w
 kept:∀r o,c.K r=some o->w.heap[r]? = some o
theorem sY.drew {c:Cx} {w:World} (h:sY c w):sY c w.drew:=⟨h.below.drew,h.kept⟩
theorem sY.grow {c:Cx} {w w':World} (h:sY c w) (hb:c.B<=w.heap.size) (hw:Below w.heap.size w w'):sY c w' :=
 ⟨h.below.trans (hw.mono hb),λr o hr=>by
  have h1:=h.kept r o hr;rw[hw.block r (Array.getElem?_eq_some_iff.1 h1).1];exact h1⟩
theorem sY.alloc {c:Cx} {w:World} (h:sY c w) (hb:c.B<=w.heap.size) (o:Obj):sY c (w.alloc o):=h.grow hb ((Below.refl _ _).alloc (Nat.le_refl _) _)
theorem sY.GB {c:Cx} {w w':World} (h:sY c w) {r:Nat} (hr:c.own r) (hb:Below c.B w w') (hh:∀k,k≠r->w'.heap[k]? = w.heap[k]?):sY c w' :=
 ⟨h.below.trans hb,λk o hk=>by
  rw[hh k (λe=>by subst e;rw[hr.2] at hk;cases hk)];exact h.kept k o hk⟩
theorem sY.fresh {c:Cx} {w:World} (h:sY c w) (hb:c.B<=w.heap.size):c.own w.heap.size :=
 ⟨hb,by
  cases hk:c.K w.heap.size with
  |none=>rfl
  |some o=>have:=h.kept _ _ hk;simp at this⟩
structure Am (P:Program) (t:TypeId) (n:Nat) (C:Array Value):Prop where
 zero:∀(j:Nat) (v:Value),n<=j->C[j]? = some v->(∃z,fS P t=some z/\v∈z.cells.toList)\/(P.underlying t=some (.int .u8)/\v = .int .u8 0)
 room:C.size<=n\/(∀s,aU P t=some s->C.size<9223372036854775808*s)\/9223372036854775808<=n
theorem Am.full {P:Program} {t:TypeId} {n:Nat} {C:Array Value} (h:C.size<=n):Am P t n C:=⟨λj v hj hv=>by
 have:=(Array.getElem?_eq_some_iff.1 hv).1
 omega,.inl h⟩
def Zq (c:Cx) (ρ:Ren) (w:World) (i:Nat) (b:Blk):Prop :=
 ∃r x C fr s,ρ i=some (r,x)/\((i<c.L/\c.K r=none)\/c.own r)/\w.heap[r]? = some (.cells C b.elem fr)/\(i<c.L\/lK C fr)/\((i<c.L\/aU c.P b.elem=some s)/\(b.fix=true->x=0))/\C.size=b.cells.length+x*s/\iK (VRel ρ) b.cells C/\(i<c.L\/Am c.P b.elem b.cells.length C)
def turns (es:List MapEntry):List Value:=es.flatMap λe=>[e.key,e.val]
def yu (c:Cx) (ρ:Ren) (w:World) (i:Nat) (b:Blk):Prop :=
 ∃r es clock,ρ i=some (r,0)/\c.own r/\w.heap[r]? = some (.map es clock)/\LR (VRel ρ) b.cells (turns es.toList)
structure bB (c:Cx) (ρ:Ren) (H:Mem) (w:World):Prop where
 stay:sY c w
 base:c.B<=w.heap.size
 dom:∀i x,ρ i=some x->i<H.size
 lk:c.L<=H.lk
 ve:c.L<=H.size
 dM:∀g,g<c.G->ρ g=some (g,0)
 blk:∀i b,H.get i=some b->b.live=true->Zq c ρ w i b
 inj:∀i j bi bj r x y,H.get i=some bi->bi.live=true->H.get j=some bj->bj.live=true->ρ i=some (r,x)->ρ j=some (r,y)->i=j
 maps:∀i b,H.get i=some b->dG b=true->yu c ρ w i b
 qs:∀i j bi bj r x y,H.get i=some bi->dG bi=true->H.get j=some bj->dG bj=true->ρ i=some (r,x)->ρ j=some (r,y)->i=j
theorem bB.below {c:Cx} {ρ:Ren} {H:Mem} {w:World} (h:bB c ρ H w):Below c.B c.w0 w:=h.stay.below
theorem Me {b:Blk} (h:b.live=true):dG b=false:=by unfold dG;rw[h]
theorem yu.mono {c:Cx} {ρ ρ':Ren} {w:World} {i:Nat} {b:Blk} (hle:ρ.le ρ') (h:yu c ρ w i b):yu c ρ' w i b:=by
 obtain ⟨r,es,clock,h1,h2,h3,h4⟩:=h
 exact ⟨r,es,clock,hle _ _ h1,h2,h3,h4.mono λ_ _=>VRel.mono hle⟩
theorem yu.heap {c:Cx} {ρ:Ren} {w w':World} {i:Nat} {b:Blk} (h:yu c ρ w i b) (hh:∀(r:Nat) (es:Array MapEntry) (clock:Nat),w.heap[r]? = some (Obj.map es clock)->w'.heap[r]? = some (Obj.map es clock)):yu c ρ w' i b:=by
 obtain ⟨r,es,clock,h1,h2,h3,h4⟩:=h
 exact ⟨r,es,clock,h1,h2,hh _ _ _ h3,h4⟩
theorem alive_some {H:Mem} {i:Nat} {b:Blk} (h:alive H i=some b):H.get i=some b/\b.live=true:=by
 unfold alive at h
 split at h
 .
  rename_i b' hb';cases hl:b'.live with
  |true=>rw[hl] at h;cases h;exact ⟨hb',hl⟩
  |false=>rw[hl] at h;cases h
 cases h
section
variable {c:Cx} {w:World} {ρ:Ren} {H:Mem}
theorem bB.drew (h:bB c ρ H w):bB c ρ H w.drew:=⟨h.stay.drew,h.base,h.dom,h.lk,h.ve,h.dM,h.blk,h.inj,h.maps,h.qs⟩
theorem bB.grow {w':World} (h:bB c ρ H w) (hb:Below w.heap.size w w'):bB c ρ H w':=by
 refine ⟨h.stay.grow h.base hb,Nat.le_trans h.base hb.size,h.dom,h.lk,h.ve,h.dM,λi b hi hl=>?_,h.inj,λi b hi hm=>(h.maps i b hi hm).heap λr es clock hh=>by rw[hb.block r (Array.getElem?_eq_some_iff.1 hh).1];exact hh,h.qs⟩
 obtain ⟨r,x,C,fr,s,h1,h2,h3,h4⟩:=h.blk i b hi hl
 have hr:r<w.heap.size:=(Array.getElem?_eq_some_iff.1 h3).1
 exact ⟨r,x,C,fr,s,h1,h2,by rw[hb.block r hr];exact h3,h4⟩
theorem iK.mono {R R':Value->Value->Prop} (hr:∀x y,R x y->R' x y) {l:List Value} {C:Array Value} (h:iK R l C):iK R' l C :=
 ⟨h.1,λj v hv hj=>let ⟨v',h1,h2⟩:=h.2 j v hv hj;⟨v',h1,hr _ _ h2⟩⟩
def Ren.put (ρ:Ren) (i:Nat) (x:Nat×Nat):Ren:=λj=>if j=i then some x else ρ j
theorem Ren.fU (ρ:Ren) (i:Nat) (x:Nat×Nat):ρ.put i x i=some x:=by simp[Ren.put]
theorem Ren.iu (ρ:Ren) {i j:Nat} (x:Nat×Nat) (h:j≠i):ρ.put i x j=ρ j:=by simp[Ren.put,h]
theorem bB.unused (h:bB c ρ H w) {i:Nat} (hi:H.size<=i):ρ i=Option.none:=by
 cases hx:ρ i with
 |none=>rfl
 |some x=>have:=h.dom i x hx;omega
theorem bB.qL (h:bB c ρ H w) {i:Nat} (hi:H.size<=i) (x:Nat×Nat):ρ.le (ρ.put i x):=by
 intro j y hy
 have:j≠i:=by intro e;subst e;rw[h.unused hi] at hy;cases hy
 rw[Ren.iu ρ x this];exact hy
theorem bB.add {w':World} {H':Mem} (h:bB c ρ H w) {t:TypeId} {cs:List Value} {C:Array Value} {fr:Nat×Nat} {r x s:Nat} {fx:Bool} (hp:H.push ⟨cs,t,true,fx⟩=some H')
 (ajJ:sY c w') (hbase:c.B<=w'.heap.size) (hold:∀(i:Nat) (b:Blk),H.get i=some b->b.live=true->Zq c ρ w' i b) (hmap:∀(i:Nat) (b:Blk),H.get i=some b->dG b=true->yu c ρ w' i b)
 (hfresh:∀(i:Nat) (b:Blk) r' y,H.get i=some b->b.live=true->ρ i=some (r',y)->r'≠r)
 (hnew:w'.heap[r]? = some (.cells C t fr)) (hB:c.own r) (hf:lK C fr) (hs:aU c.P t=some s) (hsz:C.size=cs.length+x*s) (hb:iK (VRel ρ) cs C) (Mf:fx=true->x=0) (hsp:Am c.P t cs.length C) :
 bB c (ρ.put H.size (r,x)) H' w':=by
 have hle:=h.qL (Nat.le_refl H.size) (r,x)
 obtain ⟨q1,q2,q3⟩:=Mem.bA hp
 have Qv:∀{i:Nat} {b:Blk},H'.get i=some b->(i<H.size/\H.get i=some b)\/(i=H.size/\b=⟨cs,t,true,fx⟩):=by
  intro i b hi;rw[q3] at hi;by_cases h1:i=H.size
  .
   rw[if_pos h1] at hi;cases hi;exact .inr ⟨h1,rfl⟩
  rw[if_neg h1] at hi;exact .inl ⟨Mem.bH hi,hi⟩
 have at2:∀{i:Nat} {b:Blk},H'.get i=some b->dG b=true->i<H.size/\H.get i=some b:=by
  intro i b hi hm;rcases Qv hi with h1|⟨_,rfl⟩
  .
   exact h1
  rw[Me rfl] at hm;cases hm
 refine ⟨ajJ,hbase,?_,by rw[q2];exact h.lk,by rw[q1];have:=h.ve;omega,λg hg=>hle _ _ (h.dM g hg),?_,?_,λi b hi hm=>(hmap i b (at2 hi hm).2 hm).mono hle,λi j bi bj q y z hi hmi hj Qw hr hr'=>?_⟩
 .
  intro i y hy;rw[q1];by_cases hi:i=H.size
  .
   omega
  rw[Ren.iu ρ _ hi] at hy;have:=h.dom i y hy;omega
 .
  intro i b hi hl;rcases Qv hi with ⟨hlt,hi'⟩|⟨rfl,rfl⟩
  .
   obtain ⟨r',y,D,gr,s',h1,h2,h3,h4,h5,h6,h7⟩:=hold i b hi' hl;exact ⟨r',y,D,gr,s',hle _ _ h1,h2,h3,h4,h5,h6,h7.1.mono λ_ _=>VRel.mono hle,h7.2⟩
  exact ⟨r,x,C,fr,s,Ren.fU _ _ _,.inr hB,hnew,.inr hf,⟨.inr hs,Mf⟩,hsz,hb.mono λ_ _=>VRel.mono hle,.inr hsp⟩
 .
  intro i j bi bj q y z hi CC hj oP hr hr';rcases Qv hi with ⟨hlt,hi'⟩|⟨rfl,rfl⟩
  .
   rw[Ren.iu ρ _ (by omega)] at hr
   rcases Qv hj with ⟨hlt',hj'⟩|⟨rfl,rfl⟩
   .
    rw[Ren.iu ρ _ (by omega)] at hr'
    exact h.inj i j bi bj q y z hi' CC hj' oP hr hr'
   rw[Ren.fU] at hr';cases hr';exact absurd rfl (hfresh i bi _ _ hi' CC hr)
  rcases Qv hj with ⟨hlt',hj'⟩|⟨rfl,rfl⟩
  .
   rw[Ren.iu ρ _ (by omega)] at hr'
   rw[Ren.fU] at hr;cases hr;exact absurd rfl (hfresh j bj _ _ hj' oP hr')
  rfl
 obtain ⟨k1,k2⟩:=at2 hi hmi
 obtain ⟨k3,k4⟩:=at2 hj Qw
 rw[Ren.iu ρ _ (by omega)] at hr hr'
 exact h.qs i j bi bj q y z k2 hmi k4 Qw hr hr'
theorem bB.new (h:bB c ρ H w) {t:TypeId} {cs:List Value} {C:Array Value} {fr:Nat×Nat} {x s:Nat} {H':Mem} {fx:Bool} (hp:H.push ⟨cs,t,true,fx⟩=some H')
 (hs:aU c.P t=some s) (hb:iK (VRel ρ) cs C) (hsz:C.size=cs.length+x*s) (hf:lK C fr) (Mf:fx=true->x=0) (hsp:Am c.P t cs.length C) :
 bB c (ρ.put H.size (w.heap.size,x)) H' (w.alloc (.cells C t fr)):=by
 refine h.add hp (h.stay.alloc h.base _) (Nat.le_trans h.base (by simp)) ?_ (λi b hi hm=>(h.maps i b hi hm).heap λr es clock hh=>by rw[Below.heap_alloc _ _ _ (Array.getElem?_eq_some_iff.1 hh).1];exact hh) ?_ (by show (w.heap.push _)[w.heap.size]? = _;simp) (h.stay.fresh h.base) hf hs hsz hb Mf hsp
 .
  intro i b hi hl;obtain ⟨r,y,D,gr,s',h1,h2,h3,h4⟩:=h.blk i b hi hl;have hr:r<w.heap.size:=(Array.getElem?_eq_some_iff.1 h3).1;exact ⟨r,y,D,gr,s',h1,h2,by rw[Below.heap_alloc _ _ _ hr];exact h3,h4⟩
 intro i b r' y hi hl hr
 obtain ⟨r2,y2,D,gr,s',h1,h2,h3,_⟩:=h.blk i b hi hl
 rw[hr] at h1;cases h1
 exact Nat.ne_of_lt (Array.getElem?_eq_some_iff.1 h3).1
theorem bB.less {H':Mem} (h:bB c ρ H w) (hl:H.size<=H'.size) (hlk:c.L<=H'.lk) (hh:∀(i:Nat) (b':Blk),H'.get i=some b'->(b'.live=true\/dG b'=true)->H.get i=some b'):bB c ρ H' w:=by
 refine ⟨h.stay,h.base,λi x hx=>Nat.lt_of_lt_of_le (h.dom i x hx) hl,hlk,Nat.le_trans h.ve hl,h.dM,λi b' hi hb'=>h.blk i b' (hh i b' hi (.inl hb')) hb',λi j bi bj r x y hi CC hj oP hr hr'=>?_,
  λi b' hi hb'=>h.maps i b' (hh i b' hi (.inr hb')) hb',λi j bi bj r x y hi CC hj oP hr hr'=>h.qs i j bi bj r x y (hh i bi hi (.inr CC)) CC (hh j bj hj (.inr oP)) oP hr hr'⟩
 exact h.inj i j bi bj r x y (hh i bi hi (.inl CC)) CC (hh j bj hj (.inl oP)) oP hr hr'
theorem jw {H H':Mem} {i:Nat} (h:kill H i=some H'):H'.size=H.size/\H'.lk=H.lk/\(∀(j:Nat) (b:Blk),H'.get j=some b->(b.live=true\/dG b=true)->H.get j=some b/\j≠i)/\(∀j,j≠i->H'.get j=H.get j)/\H.lk<=i:=by
 unfold kill at h
 split at h
 .
  rename_i b hb;obtain ⟨h1,h2,h3,h4,h5⟩:=Mem.fq h;refine ⟨h3,h4,λj b' hj hl=>?_,λj hj=>by rw[h5,if_neg hj],h2⟩
  rw[h5] at hj;by_cases hij:j=i
  .
   rw[if_pos hij] at hj;cases hj;simp[dG] at hl
  rw[if_neg hij] at hj;exact ⟨hj,hij⟩
 cases h
theorem bB.kill {H':Mem} {i:Nat} (h:bB c ρ H w) (hk:kill H i=some H'):bB c ρ H' w:=by
 obtain ⟨h1,h2,h3,_⟩:=jw hk
 exact h.less (by omega) (by rw[h2];exact h.lk) λj b' hj hl=>(h3 j b' hj hl).1
def cE (w:World) (r:Nat) (o:Obj):World:={ w with heap:=w.heap.setIfInBounds r o }
theorem cw (w:World) (r:Nat) (o:Obj) (k:Nat) (h:k≠r):(cE w r o).heap[k]? = w.heap[k]? := by
 simp[cE,Ne.symm h]
theorem mK (w:World) (r:Nat) (o:Obj) (h:r<w.heap.size):(cE w r o).heap[r]? = some o:=by
 simp[cE,h]
theorem CH (w:World) (r:Nat) (o o':Obj):cE (cE w r o) r o'=cE w r o':=by
 simp[cE]
theorem EV (w:World) (r:Nat) (o:Obj) (h:w.heap[r]? = some o):cE w r o=w:=by
 have hr:r<w.heap.size:=(Array.getElem?_eq_some_iff.1 h).1
 have:w.heap.setIfInBounds r o=w.heap:=by
  apply Array.ext_getElem?;intro k;rw[Array.getElem?_setIfInBounds];by_cases hk:r=k
  .
   subst hk;simp[hr];exact ((Array.getElem?_eq_some_iff.1 h).2).symm
  simp[hk]
 simp[cE,this]
theorem za {r j:Nat} {C:Array Value} {t:TypeId} {fr:Nat×Nat} (v:Value) (h:w.heap[r]? = some (.cells C t fr)) :
 w.setCell ⟨r,j,none⟩ v=cE w r (.cells (C.setIfInBounds j v) t fr):=by
 have:w.heap.modify r (fun | .cells c elem frozen=>.cells (if (none:Option Nat).isSome then c else c.setIfInBounds j v) elem frozen|o=>o)=w.heap.setIfInBounds r (.cells (C.setIfInBounds j v) t fr):=by
  apply Array.ext_getElem?;intro k;rw[Array.getElem?_modify,Array.getElem?_setIfInBounds];by_cases hk:r=k
  .
   subst hk;have hr:r<w.heap.size:=(Array.getElem?_eq_some_iff.1 h).1;have hv:=(Array.getElem?_eq_some_iff.1 h).2;simp[hr,hv]
  simp[hk]
 simp only[World.setCell,cE]
 rw[<-this]
 rfl
def iL (C:Array Value) (k:Nat):List Value->Array Value
 |[]=>C
 |v::vs=>iL (C.setIfInBounds k v) (k+1) vs
theorem jx:∀(vs:List Value) (C:Array Value) (k:Nat),(iL C k vs).size=C.size
 |[],_,_=>rfl
 |v::vs,C,k=>by simp[iL,jx vs]
theorem qj:∀(vs l:List Value) (k:Nat),(iR l k vs).length=l.length
 |[],_,_=>rfl
 |v::vs,l,k=>by simp[iR,qj vs]
theorem iK.set {R:Value->Value->Prop} {l:List Value} {C:Array Value} (h:iK R l C) (k:Nat) {v v':Value} (hv:R v v'):iK R (l.set k v) (C.setIfInBounds k v'):=by
 refine ⟨by simpa using h.1,λj u hu hju=>?_⟩
 rw[List.getElem?_set] at hu
 by_cases hkj:k=j
 .
  subst hkj;rw[if_pos rfl] at hu;split at hu
  .
   rename_i hlt;cases hu;have hC:k<C.size:=Nat.lt_of_lt_of_le hlt h.1;exact ⟨v',by simp[hC],hv⟩
  cases hu
 rw[if_neg hkj] at hu
 obtain ⟨u',h1,h2⟩:=h.2 j u hu hju
 exact ⟨u',by rw[Array.getElem?_setIfInBounds,if_neg hkj];exact h1,h2⟩
theorem iK.put {R:Value->Value->Prop}:∀{vs vs' l:List Value} {C:Array Value} {k:Nat},LR R vs vs'->iK R l C->iK R (iR l k vs) (iL C k vs')
 |[],vs',l,C,k,hv,h=>by rw[hv.De];exact h
 |
  v::vs,vs',l,C,k,hv,h=>by
  obtain ⟨v',t',rfl,h1,h2⟩:=hv.qJ;simp only[iR,iL];exact iK.put h2 (h.set k h1)
theorem tW {r off:Nat} {t:TypeId} {fr:Nat×Nat}:∀(vs:List Value) (i:Nat) (C:Array Value) (w:World),w.heap[r]? = some (.cells C t fr)->lK C fr->off+i+vs.length<=C.size ->
 (∀v∈vs,v.oneCell'=true)->(storeCells ⟨r,off,none⟩ vs i).run c.P w = .ok () (cE w r (.cells (iL C (off+i) vs) t fr))
 |
  [],i,C,w,hw,_,_,_=>by
  simp only[storeCells,iL];rw[EV w r _ hw];rfl
 |
  v::vs,i,C,w,hw,hf,hl,hv=>by
  simp only[List.length_cons] at hl
  have ajM:(⟨r,off,none⟩:Addr).add i=⟨r,off+i,none⟩:=by
   unfold Addr.add;split
   .
    rename_i h;subst h;rfl
   rfl
  have hlt:off+i<C.size:=by omega
  have hcell:w.cell? ⟨r,off+i,none⟩=some C[off+i]:=by simp[World.cell?,hw,hlt]
  have hfz:w.frozen? ⟨r,off+i,none⟩=false:=by
   have:=hf.2 _ hlt;simp only[World.frozen?,hw];rw[<-Bool.not_eq_true];intro hh;simp at hh;exact this hh
  have hone:=hv v (by simp)
  simp only[storeCells,Sem.run_bind,ajM];rw[run_store c.P w _ v _ hone,hcell];simp only[hfz,Bool.false_eq_true,if_false,Result.andThen];rw[za v hw];have hr:r<w.heap.size:=(Array.getElem?_eq_some_iff.1 hw).1;rw[tW vs (i+1) (C.setIfInBounds (off+i) v) _ (mK w r _ hr) ⟨hf.1,λj hj=>hf.2 j (by simpa using hj)⟩ (by simp;omega) (λu hu=>hv u (by simp[hu]))]
  rw[CH];simp[iL,Nat.add_assoc]
theorem bB.write (h:bB c ρ H w) {i:Nat} {b:Blk} {H':Mem} (hi:alive H i=some b) {cs:List Value} {r x:Nat} {C C':Array Value} {fr:Nat×Nat} (JY:H.set i { b with cells:=cs }=some H')
 (hr:ρ i=some (r,x)) (hw:w.heap[r]? = some (.cells C b.elem fr)) (hl:cs.length=b.cells.length) (hC:C'.size=C.size) (hb:iK (VRel ρ) cs C') (hkeep:∀j,b.cells.length<=j->C'[j]? = C[j]?) :
 bB c ρ H' (cE w r (.cells C' b.elem fr)):=by
 obtain ⟨hi1,hi2⟩:=alive_some hi
 obtain ⟨e1,e2,e3,e4,e5⟩:=Mem.fq JY
 obtain ⟨r',x',D,gr,s,k1,k2,k3,k4,k5,k6,k7⟩:=h.blk i b hi1 hi2
 rw[hr] at k1;cases k1
 rw[hw] at k3;cases k3
 have JZ:r<w.heap.size:=(Array.getElem?_eq_some_iff.1 hw).1
 have hB:c.own r:=by
  rcases k2 with k2|k2;· have:=h.lk;omega
  exact k2
 have Qx:∀{j:Nat} {bj:Blk},H'.get j=some bj->dG bj=true->H.get j=some bj:=by
  intro j bj hj hm;rw[e5] at hj;by_cases hij:j=i
  .
   rw[if_pos hij] at hj;cases hj;rw[Me (by exact hi2)] at hm;cases hm
  rw[if_neg hij] at hj;exact hj
 refine ⟨h.stay.GB hB ⟨rfl,rfl,rfl,by simp[cE],λk hk=>cw _ _ _ _ (by have:=hB.1;omega)⟩ (λk hk=>cw _ _ _ _ hk),by simpa[cE] using h.base,λj y hy=>by rw[e3];exact h.dom j y hy,by rw[e4];exact h.lk,by rw[e3];exact h.ve,h.dM,?_,?_,λj bj hj hm=>(h.maps j bj (Qx hj hm) hm).heap λq es clock hh=>?_,λj k bj bk q y z hj Qw hk hmk hq hq'=>h.qs j k bj bk q y z (Qx hj Qw) Qw (Qx hk hmk) hmk hq hq'⟩
 .
  intro j bj hj oP;rw[e5] at hj;by_cases hij:j=i
  .
   subst hij;rw[if_pos rfl] at hj;cases hj
   exact ⟨r,x,C',fr,s,hr,k2,mK _ _ _ JZ,by
    rcases k4 with k4|k4
    .
     exact .inl k4
    exact .inr ⟨k4.1,λq hq=>k4.2 q (by rw[<-hC];exact hq)⟩,k5,by simp only[hl,hC];exact k6,hb,k7.2.imp id λh=>⟨λj v hj hv=>by
    simp only[hl] at hj;exact h.zero j v hj (by rw[<-hkeep j hj];exact hv),by simp only[hl,hC];exact h.room⟩⟩
  rw[if_neg hij] at hj;obtain ⟨q,y,E,er,s',m1,m2,m3,m4⟩:=h.blk j bj hj oP
  have hne:q≠r:=by
   intro e;subst e;exact hij (h.inj j i bj b q y x hj oP hi1 hi2 m1 hr)
  exact ⟨q,y,E,er,s',m1,m2,by rw[cw _ _ _ _ hne];exact m3,m4⟩
 .
  intro j k bj bk q y z hj oP hk hlk hq hq'
  have back:∀{j:Nat} {bj:Blk},H'.get j=some bj->bj.live=true->∃b',H.get j=some b'/\b'.live=true:=by
   intro j bj hj oP;rw[e5] at hj;by_cases hij:j=i
   .
    subst hij;exact ⟨b,hi1,hi2⟩
   rw[if_neg hij] at hj;exact ⟨bj,hj,oP⟩
  obtain ⟨b1,e1,e2⟩:=back hj oP;obtain ⟨b2,e3,e4⟩:=back hk hlk;exact h.inj j k b1 b2 q y z e1 e2 e3 e4 hq hq'
 rw[cw _ _ _ _ (λe=>by subst e;rw[hw] at hh;cases hh)];exact hh
end
end Go.Ev

namespace Go.Ev
open Go.RowKit
structure wU (ρ:Ren) (a ar:Act):Prop where
 tmps:AR (VRel ρ) a.tmps ar.tmps
 dr:ar.defers=a.defers
theorem wU.mono {ρ ρ':Ren} {a ar:Act} (hle:ρ.le ρ') (h:wU ρ a ar):wU ρ' a ar:=⟨h.tmps.mono λ_ _=>VRel.mono hle,h.dr⟩
theorem AR.getD {R:Value->Value->Prop} {a a':Array Value} (h:AR R a a') (i:Nat) {d:Value} (hd:R d d):R (a.getD i d) (a'.getD i d):=by
 by_cases hi:i<a.size
 .
  have hi':i<a'.size:=h.1 ▸ hi;have:=h.2 i a[i] a'[i] (by simp[hi]) (by simp[hi'])
  simpa[Array.getD,hi,hi'] using this
 have hi':¬i<a'.size:=h.1 ▸ hi
 simpa[Array.getD,hi,hi'] using hd
theorem wU.eval {ρ:Ren} {a ar:Act} (h:wU ρ a ar) {G:Nat} (hg:∀g,g<G->ρ g=some (g,0)) {x:Operand} (hx:bG G x=true):VRel ρ (a.eval x) (ar.eval x):=by
 cases x with
 |tmp t=>exact h.tmps.getD t .undef
 |const v=>exact aV v hx
 |global g=>exact .ptr _ _ _ _ (hg g (by simpa[bG,Nat.blt_eq] using hx))
 |func f=>exact .func _ _ _ _ _ rfl (λi x y hx=>by simp at hx) rfl (λi x y hx=>by simp at hx)
theorem wU.put {ρ:Ren} {a ar:Act} (h:wU ρ a ar) (dst:Option Tmp) {v v':Value} (hv:VRel ρ v v'):wU ρ (a.put dst v) (ar.put dst v'):=by
 cases dst with
 |none=>exact h
 |
  some d =>
  refine ⟨⟨by simpa[Act.put] using h.tmps.1,λi x y hx hy=>?_⟩,h.dr⟩
  simp only[Act.put,Array.getElem?_setIfInBounds] at hx hy;by_cases hd:d=i
  .
   rw[if_pos hd] at hx hy;split at hx
   .
    split at hy
    .
     cases hx;cases hy;exact hv
    cases hy
   cases hx
  rw[if_neg hd] at hx hy;exact h.tmps.2 i x y hx hy
section
variable {c:Cx} {P:Program} {w:World} {ρ:Ren} {H:Mem}
theorem cV {t:TypeId} {n:Nat} (h:aU P t=some n) (w:World):(sizeOf t).run P w = .ok n w:=by
 unfold aU at h
 cases hi:P.info? t with
 |none=>simp[hi] at h
 |some i=>simp[hi] at h;simp[sizeOf,typeInfo,hi,h]
theorem sr {t:TypeId} {b:Bool} (h:tQ P t=some b) (w:World):(isAgg t).run P w = .ok b w:=by
 unfold tQ at h
 cases hu:P.underlying t with
 |none=>simp[hu] at h
 |some d=>cases d<;>simp[hu] at h<;>subst h<;>simp[isAgg,run_underlying hu]
theorem gM {t:TypeId} {z:Value} (h:fS P t=some z) (w:World):(zeroValue t).run P w = .ok z w/\addrFree z=true/\∃i,P.info? t=some i/\i.zero=some z:=by
 unfold fS at h
 cases hi:P.info? t with
 |none=>simp[hi] at h
 |
  some i =>
  cases hz:i.zero with
  |none=>simp[hi,hz] at h
  |
   some z' =>
   simp only[hi,hz] at h;split at h
   .
    rename_i hf;cases h;exact ⟨by simp[zeroValue,typeInfo,hi,hz],hf,i,rfl,hz⟩
   cases h
theorem lM (r off n:Nat):(⟨r,off,none⟩:Addr).add n=⟨r,off+n,none⟩:=by
 unfold Addr.add;split
 .
  rename_i h;subst h;rfl
 rfl
theorem GC {x:Option Value} {v:Value} (h:Aa x=some v):x=some v/\jN v=false:=by
 unfold Aa at h
 split at h
 .
  rw[pick2_eq] at h;split at h
  .
   cases h
  rename_i hj;cases h;exact ⟨rfl,by simpa using hj⟩
 cases h
theorem wZ:∀(vs:List Value) (C:Array Value) (k j:Nat),k+vs.length<=j->(iL C k vs)[j]? = C[j]?
 |[],_,_,_,_=>rfl
 |
  v::vs,C,k,j,h=>by
  simp only[List.length_cons] at h;simp only[iL];rw[wZ vs _ (k+1) j (by omega),Array.getElem?_setIfInBounds,if_neg (by omega)]
theorem bB.cell (he:bB c ρ H w) {i off r x:Nat} {b:Blk} {v:Value} (hi:alive H i=some b) (hr:ρ i=some (r,x)) (hv:b.cells[off]? = some v) (hj:jN v=false) :
 ∃v',w.cell? ⟨r,off,none⟩=some v'/\VRel ρ v v':=by
 obtain ⟨h1,h2⟩:=alive_some hi
 obtain ⟨r',x',C,fr,s,k1,k2,k3,k4,k5,k6,k7⟩:=he.blk i b h1 h2
 rw[hr] at k1;cases k1
 obtain ⟨v',m1,m2⟩:=k7.1.2 off v hv hj
 exact ⟨v',by simp[World.cell?,k3,m1],m2⟩
theorem bB.read (he:bB c ρ H w) {i off n r x:Nat} {l:List Value} (hr:ρ i=some (r,x)) (h:cr H i off n=some l) :
 ∃l',LR (VRel ρ) l l'/\l.length=n/\∀(j:Nat) v,l'[j]? = some v->w.cell? ((⟨r,off,none⟩:Addr).add j)=some v:=by
 unfold cr at h
 split at h
 .
  rename_i b hb;split at h
  .
   rename_i hle;rw[pick2_eq] at h;split at h
   .
    cases h
   rename_i EU;cases h
   have get:∀(j:Nat) v,((b.cells.drop off).take n)[j]? = some v->∃v',w.cell? ((⟨r,off,none⟩:Addr).add j)=some v'/\VRel ρ v v':=by
    intro j v hv
    have hjv:jN v=false:=by
     cases hq:jN v with
     |false=>rfl
     |true=>exact absurd (List.any_eq_true.2 ⟨v,List.mem_of_getElem? hv,hq⟩) EU
    rw[List.getElem?_take] at hv;split at hv
    .
     rw[List.getElem?_drop] at hv;rw[lM];exact he.cell hb hr hv hjv
    cases hv
   have hlen:((b.cells.drop off).take n).length=n:=by simp;omega
   generalize (b.cells.drop off).take n=l at get hlen;refine ⟨(List.range l.length).map λj=>(w.cell? ((⟨r,off,none⟩:Addr).add j)).getD undef,⟨by simp,λj x y hx hy=>?_⟩,hlen,λj v hv=>?_⟩
   .
    obtain ⟨v',h1,h2⟩:=get j x hx;have hj:j<l.length:=(List.getElem?_eq_some_iff.1 hx).1;simp[hj,h1] at hy;subst hy;exact h2
   have hj:j<l.length:=by
    have:=(List.getElem?_eq_some_iff.1 hv).1;simpa using this
   obtain ⟨v',h1,h2⟩:=get j l[j] (by simp[hj])
   simp[hj,h1] at hv;subst hv;exact h1
  cases h
 cases h
theorem LR.fu {R:Value->Value->Prop} {l l':List Value} (h:LR R l l'):l'.length=l.length:=h.1.symm
theorem Mg (he:bB c ρ H w) {t:TypeId} {x x' v:Value} (hx:VRel ρ x x') (h:mD c.P H t x=some v) :
 ∃v',(Instr.loadAt t x').run c.P w = .ok v' w/\VRel ρ v v':=by
 unfold mD at h
 split at h
 .
  rename_i i off;cases hx with
  |
   ptr _ _ r y hr =>
   split at h
   .
    rename_i n ha hs;simp only[Option.map_eq_some_iff] at h;obtain ⟨l,hl,rfl⟩:=h;obtain ⟨l',h1,h2,h3⟩:=he.read hr hl;refine ⟨.agg l'.toArray,?_,?_⟩
    .
     have:=run_loadCells_list (P:=c.P) w ⟨r,off,none⟩ l' h3;rw[h1.fu,h2] at this;simp[Instr.loadAt,Instr.sureAddr,loadVar,sr ha,cV hs,this]
    exact .agg _ _ h1.array.1 h1.array.2
   .
    rename_i ha;split at h
    .
     rename_i b hb;obtain ⟨hv,hj⟩:=GC h;obtain ⟨v',h1,h2⟩:=he.cell hb hr hv hj;exact ⟨v',by simp[Instr.loadAt,Instr.sureAddr,loadVar,sr ha,h1],h2⟩
    cases h
   cases h
 cases h
theorem Ao (he:bB c ρ H w) {i off r x:Nat} {vs vs':List Value} {H':Mem} (hr:ρ i=some (r,x)) (hv:LR (VRel ρ) vs vs') (h:dg H i off vs=some H') :
 ∃w',(storeCells ⟨r,off,none⟩ vs').run c.P w = .ok () w'/\bB c ρ H' w'/\w'.heap.size=w.heap.size:=by
 unfold dg at h
 split at h
 .
  rename_i ajN;cases h;have:vs=[]:=by simpa using ajN
  subst this;rw[hv.De];exact ⟨w,rfl,he,rfl⟩
 split at h
 .
  rename_i b hb;split at h
  .
   rename_i hc;simp only[Bool.and_eq_true,decide_eq_true_eq,List.all_eq_true] at hc;obtain ⟨hle,hpl⟩:=hc;obtain ⟨h1,h2⟩:=alive_some hb;obtain ⟨r',x',C,fr,s,k1,k2,k3,k4,k5,k6,k7⟩:=he.blk i b h1 h2;rw[hr] at k1;cases k1
   have hone:∀v∈vs',v.oneCell'=true:=by
    intro v hm;obtain ⟨j,hj⟩:=List.getElem?_of_mem hm;have hlt:j<vs'.length:=(List.getElem?_eq_some_iff.1 hj).1;have hlt':j<vs.length:=hv.1 ▸ hlt;exact (hv.2 j vs[j] v (by simp[hlt']) hj).plain (hpl _ (List.getElem_mem hlt'))
   have hL:¬i<c.L:=by
    have:=he.lk;have:=(Mem.fq h).2.1;omega
   have k4:=k4.resolve_left hL;have hrun:=tW (c:=c) (off:=off) vs' 0 C w k3 k4 (by rw[hv.fu];omega) hone
   exact ⟨_,hrun,he.write hb h hr k3 (qj _ _ _) (jx _ _ _) (by simpa using k7.1.put hv) (λj hj=>wZ _ _ _ _ (by have:=hv.fu;omega)),by simp[cE]⟩
  cases h
 cases h
theorem Qy (he:bB c ρ H w) {t:TypeId} {x x' y y':Value} {H':Mem} (hx:VRel ρ x x') (hy:VRel ρ y y') (h:nj c.P H t x y=some H') :
 ∃w',(Instr.storeAt t x' y').run c.P w = .ok () w'/\bB c ρ H' w':=by
 unfold nj at h
 split at h
 .
  rename_i i off n hs;cases hx with
  |
   ptr _ _ r z hr =>
   split at h
   .
    rename_i hn;obtain ⟨w',h1,h2,_⟩:=Ao he hr hy.cells.list h;refine ⟨w',?_,h2⟩;have hsz:y'.cells.size=n:=by rw[<-hy.cells.1];exact hn
    simp[Instr.storeAt,Instr.sureAddr,storeVar,cV hs,hsz,h1]
   cases h
 cases h
theorem LR.begins {R:Value->Value->Prop} {l l':List Value} (h:LR R l l'):iK R l l'.toArray:=⟨by simp[h.1],λj v hv _=>by
 obtain ⟨v',h1,h2⟩:=h.get hv
 exact ⟨v',by simpa using h1,h2⟩⟩
theorem LR.tA {R:Value->Value->Prop} {l l':List Value} (h:LR R l l') (pad:Array Value):iK R l (l'.toArray++pad):=⟨by simp[h.1],λj v hv _=>by
 obtain ⟨v',h1,h2⟩:=h.get hv
 have hj:j<l'.length:=(List.getElem?_eq_some_iff.1 h1).1
 exact ⟨v',by rw[Array.getElem?_append,if_pos (by simpa using hj)];simpa using h1,h2⟩⟩
theorem lC (C:Array Value):lK C (0,0):=⟨Nat.le_refl _,λj _=>by simp⟩
theorem EW (he:bB c ρ H w) {t:TypeId} {s:Nat} {cs:List Value} {C:Array Value} {H':Mem} {fx:Bool} (hp:H.push ⟨cs,t,true,fx⟩=some H') (hs:aU c.P t=some s) (hc:LR (VRel ρ) cs C.toList) :
 ∃ ρ',ρ.le ρ'/\ρ' H.size=some (w.heap.size,0)/\bB c ρ' H' (w.alloc (.cells C t)):=by
 refine ⟨_,he.qL (Nat.le_refl _) _,Ren.fU _ _ _,he.new (x:=0) hp hs ?_ ?_ (lC _) (λ_=>rfl) (Am.full (by have:=hc.1;simp at this;omega))⟩
 .
  have:=hc.begins;simpa using this
 have:=hc.1;simp at this;omega
theorem nW {H H':Mem} {t:TypeId} {cs:List Value} {v:Value} (h:pz H t cs=some (v,H')):H.push ⟨cs,t,true,true⟩=some H'/\v = .pointer (some ⟨H.size,0,none⟩):=by
 unfold pz at h
 split at h
 .
  rename_i H1 h1;cases h;exact ⟨h1,rfl⟩
 cases h
theorem iU {H H':Mem} {t:TypeId} {cs:List Value} {len cap:Nat} {v:Value} (h:fh H t cs len cap=some (v,H')):H.push ⟨cs,t,true,false⟩=some H'/\v = .slice (some ⟨H.size,0,none⟩) len cap:=by
 unfold fh at h
 split at h
 .
  rename_i H1 h1;cases h;exact ⟨h1,rfl⟩
 cases h
theorem mL {H H':Mem} {t:TypeId} {cs:List Value} {len cap:Nat} {v:Value} (h:pF H t cs len cap=some (v,H')):H.push ⟨cs,t,true,true⟩=some H'/\v = .slice (some ⟨H.size,0,none⟩) len cap:=by
 unfold pF at h
 split at h
 .
  rename_i H1 h1;cases h;exact ⟨h1,rfl⟩
 cases h
theorem vg {t:TypeId} {z:Value} (h:fS P t=some z):∃s,aU P t=some s:=by
 obtain ⟨_,_,i,hi,_⟩:=gM h (default:World)
 exact ⟨i.size,by simp[aU,hi]⟩
theorem Qz (he:bB c ρ H w) {t:TypeId} {v:Value} {H':Mem} (h:mH c.P t H=some (v,H')) :
 ∃ ρ' w' v',ρ.le ρ'/\bB c ρ' H' w'/\VRel ρ' v v'/\(Instr.alloc t true (.tuple #[])).run c.P w = .ok v' w':=by
 unfold mH at h
 split at h
 .
  rename_i z hz;obtain ⟨hp,rfl⟩:=nW h;obtain ⟨h1,h2,i,hi,hiz⟩:=gM hz w;obtain ⟨s,hs⟩:=vg hz;obtain ⟨ρ',k1,k2,k3⟩:=EW he hp hs (aV (ρ:=ρ) z h2).cells.list;exact ⟨ρ',_,_,k1,k3,.ptr _ _ _ _ k2,by simp[Instr.alloc,h1,newVar,newRow]⟩
 cases h
theorem aau (he:bB c ρ H w) {t:TypeId} {x x' v:Value} {H':Mem} (hx:VRel ρ x x') (h:Db c.P t x H=some (v,H')) :
 ∃ ρ' w' v',ρ.le ρ'/\bB c ρ' H' w'/\VRel ρ' v v'/\(Instr.box t x').run c.P w = .ok v' w':=by
 unfold Db at h
 split at h
 .
  rename_i s hs;obtain ⟨hp,rfl⟩:=nW h;obtain ⟨ρ',k1,k2,k3⟩:=EW he hp hs hx.cells.list;exact ⟨ρ',_,_,k1,k3,.ptr _ _ _ _ k2,by simp[Instr.box,newVar,newRow]⟩
 cases h
def PR (R:Value->Value->Prop):List (Nat×Value)->List (Nat×Value)->Prop
 |[],[]=>True
 |(i,v)::l,(j,u)::m=>i=j/\R v u/\PR R l m
 |_,_=>False
theorem AR.afo {R:Value->Value->Prop} {a a':Array Value} (h:AR R a a') (i:Nat) {v v':Value} (hv:R v v'):AR R (a.setIfInBounds i v) (a'.setIfInBounds i v') :=
 ⟨by simpa using h.1,λj x y hx hy=>by
  rw[Array.getElem?_setIfInBounds] at hx hy;by_cases hij:i=j
  .
   rw[if_pos hij] at hx hy;split at hx
   .
    split at hy
    .
     cases hx;cases hy;exact hv
    cases hy
   cases hx
  rw[if_neg hij] at hx hy;exact h.2 j x y hx hy⟩
theorem GD {R:Value->Value->Prop} (off:Nat):∀(l l':List Value) (k:Nat) (a a':Array Value),LR R l l'->AR R a a' ->
 AR R ((l.zipIdx k).foldl (λcs (c:Value×Nat)=>cs.setIfInBounds (off+c.2) c.1) a) ((l'.zipIdx k).foldl (λcs (c:Value×Nat)=>cs.setIfInBounds (off+c.2) c.1) a')
 |[],l',k,a,a',hl,ha=>by rw[hl.De];exact ha
 |
  v::l,l',k,a,a',hl,ha=>by
  obtain ⟨v',t',rfl,h1,h2⟩:=hl.qJ;simp only[List.zipIdx_cons,List.foldl_cons];exact GD off l t' (k+1) _ _ h2 (ha.afo _ h1)
theorem qM {place:Nat->Option (Nat×Nat)}:∀(parts parts':List (Nat×Value)) (a a' r:Array Value),PR (VRel ρ) parts parts'->AR (VRel ρ) a a' ->
 Instr.fill place a parts=some r->∃r',Instr.fill place a' parts'=some r'/\AR (VRel ρ) r r'
 |[],[],a,a',r,_,ha,h=>by simp only[Instr.fill,Option.some.injEq] at h;subst h;exact ⟨a',rfl,ha⟩
 |[],_::_,_,_,_,hp,_,_=>hp.elim
 |_::_,[],_,_,_,hp,_,_=>hp.elim
 |
  (i,v)::l,(j,u)::m,a,a',r,hp,ha,h=>by
  obtain ⟨rfl,hv,hp'⟩:=hp;simp only[Instr.fill] at h ⊢;cases hpl:place i with
  |none=>simp[hpl] at h
  |
   some q =>
   obtain ⟨off,size⟩:=q;simp only[hpl] at h ⊢;rw[<-hv.cells.1,<-ha.1];split at h
   .
    cases h
   rename_i hcond;rw[if_neg hcond];refine qM l m _ _ r hp' ?_ h
   have e:∀(c z:Array Value),(c.zipIdx.foldl (λcs (x:Value×Nat)=>cs.setIfInBounds (off+x.2) x.1) z)=((c.toList.zipIdx 0).foldl (λcs (x:Value×Nat)=>cs.setIfInBounds (off+x.2) x.1) z):=by
    intro c z;rw[<-Array.foldl_toList,Array.toList_zipIdx]
   have:=GD (R:=VRel ρ) off v.cells.toList u.cells.toList 0 a a' hv.cells.list ha;rw[<-e,<-e] at this;exact this
theorem QA {t:TypeId} {parts parts':List (Nat×Value)} {v:Value} (hp:PR (VRel ρ) parts parts') (h:Ac P t parts=some v) (w:World) :
 ∃v',(Instr.build t parts'.toArray).run P w = .ok v' w/\VRel ρ v v':=by
 unfold Ac at h
 split at h
 .
  rename_i hbf;simp only[Option.map_eq_some_iff] at h;obtain ⟨cells,hc,rfl⟩:=h;obtain ⟨z,hz⟩:=Option.isSome_iff_exists.1 hbf;obtain ⟨_,hfree,i,hi,hiz⟩:=gM hz w
  have key:∃cells',P.built t parts'=some cells'/\AR (VRel ρ) cells cells':=by
   unfold Program.built at hc ⊢;simp only[hi] at hc ⊢;cases hu:P.underlying t with
   |none=>simp[hu] at hc
   |
    some d =>
    cases d<;>simp only[hu] at hc ⊢ <;> try (cases hc;done)
    .
     rename_i n e;cases he:P.info? e with
     |none=>simp[he] at hc
     |
      some ie =>
      simp only[he,hiz] at hc ⊢;exact qM _ _ _ _ _ hp ((aV (ρ:=ρ) z hfree).cells) hc
    rename_i fs;cases hm:fs.toList.mapM (λf=>(P.info? f.type).map λi=>(f.offset,i.size)) with
    |none=>simp[hm] at hc
    |
     some places =>
     simp only[hm,hiz] at hc ⊢;exact qM _ _ _ _ _ hp ((aV (ρ:=ρ) z hfree).cells) hc
  obtain ⟨cells',h1,h2⟩:=key;exact ⟨.agg cells',run_build w t _ cells' (by simpa using h1),.agg _ _ h2.1 h2.2⟩
 cases h
theorem Ap {e:TypeId} {n:Nat} {zs:Array Value} (h:pG P e n=some zs) (w:World) :
 ∃s,aU P e=some s/\AR (VRel ρ) zs zs/\zs.size=n*s /\
  (do let zero <- (if n*s=0 then pure #[] else do pure (<- zeroValue e).cells:Sem (Array Value));pure ((Array.range (n*s)).map (zero[· % zero.size]!)):Sem (Array Value)).run P w = .ok zs w:=by
 unfold pG at h
 split at h
 .
  rename_i s z hs hz;obtain ⟨h1,h2,i,hi,hiz⟩:=gM hz w;refine ⟨s,hs,?_⟩;split at h
  .
   rename_i h0;cases h;exact ⟨⟨rfl,λi x y hx=>by simp at hx⟩,by simp[h0],by simp[h0]⟩
  rename_i h0;cases h;refine ⟨⟨rfl,λi x y hx hy=>?_⟩,by simp,by simp[h0,h1]⟩
  rw[hx] at hy;cases hy
  have hlt:i<n*s:=by
   have:=(Array.getElem?_eq_some_iff.1 hx).1;simpa using this
  simp[hlt] at hx;subst hx;have hz:=(aV (ρ:=ρ) z h2).cells;by_cases hsz:i%z.cells.size<z.cells.size
  .
   have:=hz.2 (i%z.cells.size) z.cells[i%z.cells.size] z.cells[i%z.cells.size] (by simp[hsz]) (by simp[hsz])
   simpa[hsz] using this
  have:z.cells[i%z.cells.size]! = default:=by simp[hsz]
  rw[this];exact aV _ (by rfl)
 cases h
end
end Go.Ev

namespace Go.Ev
open Go.RowKit
section
variable {c:Cx} {P:Program} {w:World} {ρ:Ren} {H:Mem}
theorem qN {e:TypeId} {n s:Nat} {zs:Array Value} (hs:aU P e=some s) (h:pG P e n=some zs) :
 (n*s=0/\zs = #[])\/(n*s≠0/\∃z,fS P e=some z/\zs=(Array.range (n*s)).map (z.cells[· % z.cells.size]!)):=by
 unfold pG at h
 split at h
 .
  rename_i s' z hs' hz;rw[hs] at hs';cases hs';split at h
  .
   rename_i h0;cases h;exact .inl ⟨h0,rfl⟩
  rename_i h0;cases h;exact .inr ⟨h0,z,hz,rfl⟩
 cases h
theorem CI (he:bB c ρ H w) {t:TypeId} {len:Nat} {parts parts':List (Nat×Value)} {v:Value} {H':Mem} (hp:PR (VRel ρ) parts parts') (h:gI c.P H t len parts=some (v,H')) :
 ∃ ρ' w' v',ρ.le ρ'/\bB c ρ' H' w'/\VRel ρ' v v'/\(Instr.buildSlice t len parts'.toArray).run c.P w = .ok v' w':=by
 unfold gI at h
 split at h
 .
  rename_i e hu;split at h
  .
   rename_i s z hs hz;split at h
   .
    cases h
   rename_i hsz;split at h
   .
    rename_i cs hf;obtain ⟨hp',rfl⟩:=mL h;obtain ⟨s',hs',hzz,hzn,hrun⟩:=Ap (ρ:=ρ) hz w;rw[hs] at hs';cases hs';obtain ⟨cs',hf',hcs⟩:=qM _ _ _ _ _ hp hzz hf;obtain ⟨ρ',k1,k2,k3⟩:=EW he hp' hs hcs.list;refine ⟨ρ',_,_,k1,k3,.slice _ _ _ _ _ _ k2,?_⟩;have EX:Instr.fill (λi=>some (i*s,s)) z parts'=some cs':=hf'
    rcases qN hs hz with ⟨h0,rfl⟩|⟨h0,y,hy,rfl⟩
    .
     have QB:Array.range 0 = #[]:=rfl;simp[Instr.buildSlice,run_underlying hu,cV hs,h0,QB,EX,newRow]
    obtain ⟨hy1,_⟩:=gM hy w;have hsz':¬(16777216<len*s):=by simpa using hsz
    simp[Instr.buildSlice,run_underlying hu,cV hs,h0,hsz',hy1,EX,newRow]
   cases h
  cases h
 cases h
theorem EY (he:bB c ρ H w) {t:TypeId} {l l' cp cp' v:Value} {H':Mem} (hl:VRel ρ l l') (hc:VRel ρ cp cp') (h:kI c.P H t l cp=some (v,H')) :
 ∃ ρ' w' v',ρ.le ρ'/\bB c ρ' H' w'/\VRel ρ' v v'/\(Instr.makeSlice t l' cp').run c.P w = .ok v' w':=by
 unfold kI at h
 split at h
 .
  rename_i e k n k' m hu;cases hl;cases hc;split at h
  .
   rename_i inf z hi hz;split at h
   .
    rename_i hb;obtain ⟨hp',rfl⟩:=mL h;obtain ⟨h0,h1,h2,h3⟩:=hb;obtain ⟨s',hs',hzz,hzn,hrun⟩:=Ap (ρ:=ρ) hz w;obtain ⟨ρ',k1,k2,k3⟩:=EW he hp' hs' hzz.list;refine ⟨ρ',_,_,k1,k3,.slice _ _ _ _ _ _ k2,?_⟩;have w1:IntKind.i64.wrap n=n:=IntWalk.i64_in _ (by omega)
    have w2:IntKind.i64.wrap m=m:=IntWalk.i64_in _ (by omega)
    have hm:(inf.bytes:Int)*m<=1000000*1000000:=Int.mul_le_mul (by omega) h2 (by omega) (by omega)
    have GF:¬((inf.bytes:Int)*m>2 ^ 48):=by omega
    have hsz:inf.size=s':=by simpa[aU,hi] using hs'
    subst hsz
    have hc1:(decide (m<0)||decide ((inf.bytes:Int)*m>2 ^ 48)||decide (n<0)||decide (n>m))=false:=by
     simp;omega
    simp only[Bool.or_eq_false_iff,decide_eq_false_iff_not] at hc1;obtain ⟨⟨⟨c1,c2⟩,c3⟩,c4⟩:=hc1;have c2':¬(281474976710656<(inf.bytes:Int)*m):=by simpa using c2
    rcases qN hs' hz with ⟨h0,rfl⟩|⟨h0,y,hy,rfl⟩
    .
     have QB:Array.range 0 = #[]:=rfl;simp[Instr.makeSlice,run_underlying hu,asInt,asIntOf,typeInfo,sizeOf,hi,w1,w2,c1,c2',c3,c4,h0,QB,newRow]
    obtain ⟨hy1,_⟩:=gM hy w;simp[Instr.makeSlice,run_underlying hu,asInt,asIntOf,typeInfo,sizeOf,hi,w1,w2,c1,c2',c3,c4,h0,hy1,newRow]
   cases h
  cases h
 cases h
theorem vh (he:bB c ρ H w) {s n:Nat} {x x':Value} {l:List Value} (hx:VRel ρ x x') (h:dW H s n x=some l) :
 ∃l',(Builtin.firstCells s n x').run c.P w = .ok l'.toArray w/\LR (VRel ρ) l l':=by
 unfold dW at h
 split at h
 .
  cases hx with
  |
   slice i off len cap r y hr =>
   obtain ⟨l',h1,h2,h3⟩:=he.read hr h;refine ⟨l',?_,h1⟩;have:=run_loadCells_list (P:=c.P) w _ l' h3;rw[h1.fu,h2] at this
   simpa[Builtin.firstCells] using this
 .
  cases hx;split at h
  .
   cases h;exact ⟨[],by simp[Builtin.firstCells],.nil⟩
  cases h
 .
  cases hx;rename_i q;split at h
  case isFalse=>cases h
  cases h;refine ⟨(q.extract 0 n).data.toList.map λb=>.int .u8 b.toNat,by simp[Builtin.firstCells];apply Array.ext';simp,?_⟩
  exact ⟨rfl,λi x y hx hy=>by
   rw[hx] at hy;cases hy;obtain ⟨b,_,rfl⟩:=List.mem_map.1 (List.mem_of_getElem? hx);exact .int _ _⟩
 cases h
theorem w9 {s n:Nat} {x:Value} {l:List Value} (h:dW H s n x=some l):l.length=n*s:=by
 unfold dW at h
 split at h
 .
  rename_i b off _ _;unfold cr at h;split at h
  .
   split at h
   .
    rw[pick2_eq] at h;split at h
    .
     cases h
    cases h;simp;omega
   cases h
  cases h
 .
  split at h
  .
   rename_i h0;cases h;simp[h0]
  cases h
 .
  split at h
  .
   rename_i h0;cases h;obtain ⟨rfl,h1⟩:=h0;simp;omega
  cases h
 cases h
theorem QC {x x':Value} {n:Nat} (hx:VRel ρ x x') (h:tT x=some n) (w:World):(Builtin.lenOf x').run P w = .ok n w:=by
 unfold tT at h
 split at h
 .
  cases h;cases hx<;>simp[Builtin.lenOf]
 .
  cases h;cases hx;simp[Builtin.lenOf]
 cases h
theorem EZ {xt:TypeId} (h:fI P xt=true):(∃e,P.underlying xt=some (.slice e))\/P.underlying xt=some .string:=by
 unfold fI at h
 cases hu:P.underlying xt with
 |none=>simp[hu] at h
 |
  some d =>
  cases d<;>simp[hu] at h
  .
   exact .inr rfl
  exact .inl ⟨_,rfl⟩
theorem GG (w:World) (need old:Nat) (e:TypeId) (h:need<9223372036854775808):grownCap w need old e<9223372036854775808:=by
 simp only[grownCap,Question.cut]
 have:=Nat.mod_lt (w.tape w.drawn (.appendCap need old e)) (show 0<2 ^ 63-need by omega)
 omega
theorem GH (w:World) (need old:Nat) (e:TypeId):need<=grownCap w need old e:=by
 simp only[grownCap,Question.cut];omega
theorem CJ {z:Array Value} {n j:Nat} {v:Value} (h:(Builtin.zeroCells z n)[j]? = some v):v∈z.toList:=by
 simp only[Builtin.zeroCells,Array.getElem?_map,Option.map_eq_some_iff] at h
 obtain ⟨k,hk,rfl⟩:=h
 have hlt:=(Array.getElem?_eq_some_iff.1 hk).1
 simp at hlt
 have hz:0<z.size:=by
  rcases Nat.eq_zero_or_pos z.size with h0|h0
  .
   rw[h0,Nat.mul_zero] at hlt;omega
  exact h0
 have hm:k%z.size<z.size:=Nat.mod_lt _ hz
 rw[getElem!_pos z _ hm]
 simp
theorem Aq (z:Array Value) (n:Nat):(Builtin.zeroCells z n).size=n*z.size:=by simp[Builtin.zeroCells]
def afp (P:Program) (e:TypeId):Bool :=
 match P.info? e with
 |
  some i=>match i.zero with
  |some z=>z.cells.size==i.size
  |none=>false
 |none=>false
theorem GI {st xt ty e:TypeId} {inf:TypeInfo} {at_:Array TypeId} {as:Array Value} {r off sLen cap n:Nat} {x':Value} {new:List Value} {w w':World}
 (sZ:at_[0]? = some st) (qt:at_[1]? = some xt) (qO:as[0]? = some (.slice (some ⟨r,off,none⟩) sLen cap)) (s8:as[1]? = some x')
 (hu:P.underlying st=some (.slice e)) (JJ:fI P xt=true) (hi:P.info? e=some inf) (hn:(Builtin.lenOf x').run P w = .ok n w)
 (hroom:sLen+n<=cap) (Qn:(Builtin.firstCells inf.size n x').run P w = .ok new.toArray w) (hst:(storeCells ⟨r,off+sLen*inf.size,none⟩ new).run P w = .ok () w') :
 (Builtin.append_ at_ ty as).run P w = .ok (.slice (some ⟨r,off,none⟩) (sLen+n) cap) w':=by
 rcases EZ JJ with ⟨e',hd⟩|hd
 .
  simp[Builtin.append_,sZ,qt,qO,s8,run_underlying hu,run_underlying hd,sizeOf,typeInfo,hi,hn,hroom,Qn,lM,hst]
 simp[Builtin.append_,sZ,qt,qO,s8,run_underlying hu,run_underlying hd,sizeOf,typeInfo,hi,hn,hroom,Qn,lM,hst]
theorem Wj {st xt ty e:TypeId} {inf:TypeInfo} {at_:Array TypeId} {as:Array Value} {sLen cap n:Nat} {x':Value} {new:List Value} {w:World}
 (sZ:at_[0]? = some st) (qt:at_[1]? = some xt) (qO:as[0]? = some (.slice none sLen cap)) (s8:as[1]? = some x')
 (hu:P.underlying st=some (.slice e)) (JJ:fI P xt=true) (hi:P.info? e=some inf) (hn:(Builtin.lenOf x').run P w = .ok n w)
 (hroom:sLen+n<=cap) (Qn:(Builtin.firstCells inf.size n x').run P w = .ok new.toArray w) :
 (Builtin.append_ at_ ty as).run P w = .ok (.slice none (sLen+n) cap) w:=by
 rcases EZ JJ with ⟨e',hd⟩|hd
 .
  simp[Builtin.append_,sZ,qt,qO,s8,run_underlying hu,run_underlying hd,sizeOf,typeInfo,hi,hn,hroom,Qn]
 simp[Builtin.append_,sZ,qt,qO,s8,run_underlying hu,run_underlying hd,sizeOf,typeInfo,hi,hn,hroom,Qn]
theorem QD {st xt ty e:TypeId} {inf:TypeInfo} {z:Value} {at_:Array TypeId} {as:Array Value} {base:Option Addr} {sLen cap n:Nat} {x':Value} {old new:List Value} {w:World}
 (sZ:at_[0]? = some st) (qt:at_[1]? = some xt) (qO:as[0]? = some (.slice base sLen cap)) (s8:as[1]? = some x')
 (hu:P.underlying st=some (.slice e)) (JJ:fI P xt=true) (hi:P.info? e=some inf) (hz:inf.zero=some z) (hn:(Builtin.lenOf x').run P w = .ok n w)
 (hroom:¬sLen+n<=cap) (hb0:inf.bytes≠0) (hfit:Builtin.nextslicecap (sLen+n) cap*inf.bytes<=281474976710656) (h63:((sLen+n:Nat):Int)<=9223372036854775807)
 (hro:(Builtin.firstCells inf.size sLen (.slice base sLen cap)).run P w.drew = .ok old.toArray w.drew) (Qn:(Builtin.firstCells inf.size n x').run P w.drew = .ok new.toArray w.drew) :
 (Builtin.append_ at_ ty as).run P w = .ok (.slice (some ⟨w.heap.size,0,none⟩) (sLen+n) (grownCap w (sLen+n) cap e))
  (w.drew.alloc (.cells (old.toArray++(new.toArray++Builtin.zeroCells z.cells (grownCap w (sLen+n) cap e-(sLen+n)))) e)):=by
 have hfit':¬(281474976710656<Builtin.nextslicecap (sLen+n) cap*inf.bytes):=by omega
 have h63':¬(9223372036854775807<((sLen:Int)+(n:Int))):=by omega
 rcases EZ JJ with ⟨e',hd⟩|hd
 .
  simp[Builtin.append_,sZ,qt,qO,s8,run_underlying hu,run_underlying hd,sizeOf,typeInfo,zeroValue,hi,hz,hn,hroom,hb0,hfit',hro,Qn,Question.forced,newRow,grownCap]
 simp[Builtin.append_,sZ,qt,qO,s8,run_underlying hu,run_underlying hd,sizeOf,typeInfo,zeroValue,hi,hz,hn,hroom,hb0,hfit',hro,Qn,Question.forced,newRow,grownCap]
end
end Go.Ev

namespace Go.Ev
open Go.RowKit
theorem xd:∀(vs:List Value) (C:Array Value) (k j:Nat),j<k->(iL C k vs)[j]? = C[j]?
 |[],_,_,_,_=>rfl
 |
  v::vs,C,k,j,h=>by
  simp only[iL];rw[xd vs _ (k+1) j (by omega),Array.getElem?_setIfInBounds,if_neg (by omega)]
theorem Df:∀(vs:List Value) (C:Array Value) (k i:Nat) (v:Value),vs[i]? = some v->k+vs.length<=C.size->(iL C k vs)[k+i]? = some v
 |[],_,_,_,_,h,_=>by simp at h
 |
  u::vs,C,k,0,v,h,hl=>by
  simp at h;subst h;simp only[List.length_cons] at hl;simp only[iL,Nat.add_zero];rw[xd _ _ _ _ (by omega),Array.getElem?_setIfInBounds]
  simp;omega
 |
  u::vs,C,k,i+1,v,h,hl=>by
  simp only[List.length_cons] at hl;simp only[iL];have:=Df vs (C.setIfInBounds k u) (k+1) i v (by simpa using h) (by simp;omega)
  rw[show k+(i+1)=k+1+i by omega];exact this
section
variable {c:Cx} {P:Program} {w:World} {ρ:Ren} {H:Mem}
set_option maxHeartbeats 1000000 in
theorem Oi (he:bB c ρ H w) {st xt ty:TypeId} {s s' x x' v:Value} {H':Mem} {at_:Array TypeId} {as:Array Value}
 (sZ:at_[0]? = some st) (qt:at_[1]? = some xt) (qO:as[0]? = some s') (s8:as[1]? = some x')
 (hs:VRel ρ s s') (hx:VRel ρ x x') (h:mG c.P H st xt s x=some (v,H')) :
 ∃ ρ' w' v',ρ.le ρ'/\bB c ρ' H' w'/\VRel ρ' v v'/\(Builtin.append_ at_ ty as).run c.P w = .ok v' w':=by
 unfold mG at h
 split at h
 .
  rename_i e base sLen sCap hu JJ;split at h
  .
   rename_i inf z n hi hz hn;obtain ⟨hzr,ajO,i',hi',hiz⟩:=gM hz w;rw[hi] at hi';cases hi';split at h
   .
    rename_i new old hnew hold;split at h
    .
     cases h
    rename_i GF;simp only[not_or] at GF;obtain ⟨CK,Ar,hb3,hb4,hb5,hzs,hpl⟩:=GF;have hzs:z.cells.size=inf.size:=by omega
    have hsz:aU c.P e=some inf.size:=by simp[aU,hi]
    obtain ⟨new',Qn,VY⟩:=vh he hx hnew;have hlen:=QC (P:=c.P) hx hn w
    have grow:∀(cap:Nat),s' = .slice (match s' with | .slice q _ _=>q|_=>none) sLen cap->¬sLen+n<=cap->cap<=2000000+sCap ->
     ∀{H0 H2:Mem} {v:Value},bB c ρ H0 w->fh H0 e (old++new) (sLen+n) (sLen+n)=some (v,H2)->∃ ρ' w' v',ρ.le ρ'/\bB c ρ' H2 w'/\VRel ρ' v v'/\(Builtin.append_ at_ ty as).run c.P w = .ok v' w':=by
     intro cap hs' hroom hcap H0 H2 v he0 hns;obtain ⟨hp',rfl⟩:=iU hns;obtain ⟨new1,ajQ,aav⟩:=vh he.drew hx hnew;obtain ⟨ajR,afq,aaw⟩:=vh he.drew hs hold;rw[hs'] at qO afq
     have hfit:Builtin.nextslicecap (sLen+n) cap*inf.bytes<=281474976710656:=by
      have h1:=nextslicecap_le (need:=sLen+n) (old:=cap) (by omega)
      have h2:Builtin.nextslicecap (sLen+n) cap*inf.bytes<=(2*1000000)*100000:=Nat.mul_le_mul (by omega) (by omega)
      omega
     have hrun:=QD (ty:=ty) sZ qt qO s8 hu JJ hi hiz hlen hroom Ar hfit (by omega) afq ajQ
     have hg:=GH w (sLen+n) cap e
     have J0:(old++new).length=(sLen+n)*inf.size:=by
      have e1:old.length=sLen*inf.size:=w9 hold;have e2:new.length=n*inf.size:=w9 hnew;rw[List.length_append,e1,e2,Nat.add_mul]
     have hC:(ajR.toArray++(new1.toArray++Builtin.zeroCells z.cells (grownCap w (sLen+n) cap e-(sLen+n)))).size=(old++new).length+(grownCap w (sLen+n) cap e-(sLen+n))*inf.size:=by
      simp only[Array.size_append,List.size_toArray,Aq,hzs,List.length_append,aaw.fu,aav.fu];omega
     refine ⟨_,_,_,he0.qL (Nat.le_refl _) (w.heap.size,grownCap w (sLen+n) cap e-(sLen+n)),?_,?_,hrun⟩
     .
      refine he0.drew.new hp' hsz ?_ hC (lC _) (λh=>by cases h) ⟨λj v hj hv=>.inl ⟨z,hz,by
       rw[<-Array.append_assoc,Array.getElem?_append] at hv;split at hv
       .
        rename_i hlt;simp only[Array.size_append,List.size_toArray,List.length_append,aaw.fu,aav.fu] at hlt hj;omega
       .
        exact CJ hv⟩,.inr (.inl λs' hs'=>by
       rw[hsz] at hs';cases hs';rw[hC,J0,<-Nat.add_mul,Nat.add_sub_cancel' hg];exact Nat.mul_lt_mul_of_pos_right (GG w (sLen+n) cap e (by omega)) (by omega))⟩
      have:=(aaw.append aav).tA (Builtin.zeroCells z.cells (grownCap w (sLen+n) cap e-(sLen+n)))
      simpa[<-Array.append_assoc] using this
     have:=VRel.slice (ρ:=ρ.put H0.size (w.heap.size,grownCap w (sLen+n) cap e-(sLen+n))) H0.size 0 (sLen+n) (sLen+n) w.heap.size _ (Ren.fU _ _ _);rw[Nat.add_sub_cancel' hg] at this;exact this
    split at h
    .
     -- there is room that is known
     rename_i hroom;split at h
     .
      rename_i b off;simp only[Option.map_eq_some_iff] at h;obtain ⟨H1,hw1,heq⟩:=h;cases heq;cases hs with
      |
       slice _ _ _ _ r y hr =>
       obtain ⟨w',hst,aax,_⟩:=Ao he hr VY hw1;exact ⟨ρ,w',_,Ren.le_refl _,aax,.slice _ _ _ _ _ _ hr,GI sZ qt qO s8 hu JJ hi hlen (by omega) Qn hst⟩
     split at h
     .
      rename_i hn0;cases h;subst hn0;cases hs with
      |slice i off _ _ r y hr=>rename_i hne;exact absurd rfl (hne i off)
      |gK=>exact ⟨ρ,w,_,Ren.le_refl _,he,.gK _ _,Wj sZ qt qO s8 hu JJ hi hlen hroom Qn⟩
     cases h
    rename_i hroom;split at h
    .
     rename_i b off;split at h
     .
      rename_i hcond;obtain ⟨hoff,afr,aay⟩:=hcond;split at h
      case h_2=>cases h
      rename_i H1 bV;obtain ⟨kl1,kl2,kl3,kl4,kl5⟩:=jw bV;obtain ⟨hp',rfl⟩:=iU h;subst hoff;obtain ⟨bk,hbk,vk⟩:=(Option.any_eq_true _ _).1 aay;simp only[Bool.and_eq_true,decide_eq_true_eq,beq_iff_eq] at vk;obtain ⟨vk,hel⟩:=vk;cases hs with
      |
       slice _ _ _ _ r y hr =>
       by_cases hfit:sLen+n<=sCap+y
       .
        -- the machine finds room
        obtain ⟨hb1',hb2'⟩:=alive_some hbk;obtain ⟨r',y',C,fr,s',k1,k2,k3,k4,k5,k6,k7⟩:=he.blk b bk hb1' hb2';rw[hr] at k1;cases k1;rw[hel] at k5 k3;have k4:=k4.resolve_left (by have:=he.lk;omega)
        have k5:aU c.P e=some s':=by
         rcases k5.1 with k5|k5
         .
          have:=he.lk;omega
         exact k5
        rw[hsz] at k5;cases k5;have e1:old.length=sLen*inf.size:=afr;have e2:new.length=n*inf.size:=w9 hnew
        have ajS:sLen*inf.size+new'.length<=C.size:=by
         rw[VY.fu,e2,k6,vk,<-Nat.add_mul,<-Nat.add_mul];exact Nat.mul_le_mul_right _ hfit
        have hone:∀v∈new',v.oneCell'=true:=by
         intro v hm;obtain ⟨j,hj⟩:=List.getElem?_of_mem hm;have hlt':j<new.length:=by rw[<-VY.fu];exact (List.getElem?_eq_some_iff.1 hj).1
         have hall:new.all plainCell=true:=by simpa using hpl
         exact (VY.2 j new[j] v (by simp[hlt']) hj).plain (List.all_eq_true.1 hall _ (List.getElem_mem hlt'))
        have hst:=tW (c:=c) (off:=0+sLen*inf.size) new' 0 C w k3 k4 (by omega) hone
        have hrun:=GI (ty:=ty) sZ qt qO s8 hu JJ hi hlen hfit Qn hst;refine ⟨ρ.put H1.size (r,sCap+y-(sLen+n)),_,_,(he.kill bV).qL (Nat.le_refl _) _,?_,?_,hrun⟩
        .
         have JZ:r<w.heap.size:=(Array.getElem?_eq_some_iff.1 k3).1
         have hBr:c.own r:=by
          rcases k2 with k2|k2
          .
           have:=he.lk;omega
          exact k2
         refine (he.kill bV).add hp' (s:=inf.size) (C:=iL C (0+sLen*inf.size+0) new') (fr:=fr) ?_ ?_ ?_ (λi bi hi' hm=>((he.kill bV).maps i bi hi' hm).heap λq es clock hh=>by rw[cw _ _ _ _ (λe0=>by subst e0;rw[k3] at hh;cases hh)];exact hh) ?_ (mK _ _ _ JZ) hBr ?_ hsz ?_ ?_ (λh=>by cases h) ⟨λj v hj hv=>by
          have hlo:bk.cells.length<=j:=by
           rw[vk];rw[List.length_append,e1,e2,<-Nat.add_mul] at hj;exact Nat.le_trans (Nat.mul_le_mul_right _ (by omega)) hj
          rw[wZ _ _ _ _ (by rw[VY.fu,e2];rw[List.length_append,e1,e2] at hj;omega)] at hv
          rcases k7.2 with k8|k8
          .
           have:=he.lk;omega
          .
           rw[hel] at k8;exact k8.zero j v hlo hv,by
          rw[jx];rcases k7.2 with k8|k8
          .
           have:=he.lk;omega
          rw[hel] at k8;rcases k8.room with k9|k9|k9
          .
           left
           rw[List.length_append,e1,e2,<-Nat.add_mul];rw[vk] at k9;exact Nat.le_trans k9 (Nat.mul_le_mul_right _ (by omega))
          .
           exact .inr (.inl k9)
          refine .inr (.inr ?_);rw[List.length_append,e1,e2,<-Nat.add_mul];rw[vk] at k9;exact Nat.le_trans k9 (Nat.mul_le_mul_right _ (by omega))⟩
         .
          exact he.stay.GB hBr ⟨rfl,rfl,rfl,by simp[cE],λk hk=>cw _ _ _ _ (by have:=hBr.1;omega)⟩ (λk hk=>cw _ _ _ _ hk)
         .
          simpa[cE] using he.base
         .
          intro i bi hi' CC;obtain ⟨g1,g2⟩:=kl3 i bi hi' (.inl CC);obtain ⟨q,y2,E,er,s2,m1,m2,m3,m4⟩:=he.blk i bi g1 CC
          have hne:q≠r:=by
           intro e0;subst e0;exact g2 (he.inj i b bi bk q y2 y g1 CC hb1' hb2' m1 hr)
          exact ⟨q,y2,E,er,s2,m1,m2,by rw[cw _ _ _ _ hne];exact m3,m4⟩
         .
          intro i bi q y2 hi' CC hq e0;subst e0;obtain ⟨g1,g2⟩:=kl3 i bi hi' (.inl CC);exact g2 (he.inj i b bi bk q y2 y g1 CC hb1' hb2' hq hr)
         .
          exact ⟨k4.1,λj hj=>k4.2 j (by rw[jx] at hj;exact hj)⟩
         .
          rw[jx,k6,vk,List.length_append,e1,e2,<-Nat.add_mul,<-Nat.add_mul,<-Nat.add_mul]
          congr 1;omega
         refine ⟨by rw[jx,k6,vk,List.length_append,e1,e2,<-Nat.add_mul,<-Nat.add_mul];exact Nat.mul_le_mul_right _ (by omega),λj u hu hju=>?_⟩
         rw[List.getElem?_append] at hu;split at hu
         .
          rename_i hj
          have hold':bk.cells[j]? = some u:=by
           simp only[dW,cr,hbk] at hold;split at hold
           .
            rw[pick2_eq] at hold;split at hold
            .
             cases hold
            cases hold;rw[List.getElem?_take] at hu;split at hu
            .
             simpa using hu
            cases hu
           cases hold
          obtain ⟨u',p1,p2⟩:=k7.1.2 j u hold' hju;exact ⟨u',by rw[xd _ _ _ _ (by omega)];exact p1,p2⟩
         rename_i hj;obtain ⟨u',p1,p2⟩:=VY.get hu;refine ⟨u',?_,p2⟩;have:=Df new' C (0+sLen*inf.size+0) (j-old.length) u' p1 (by omega)
         rw[show 0+sLen*inf.size+0+(j-old.length)=j by omega] at this
         exact this
        have:=VRel.slice (ρ:=ρ.put H1.size (r,sCap+y-(sLen+n))) H1.size 0 (sLen+n) (sLen+n) r _ (Ren.fU _ _ _);rw[Nat.add_sub_cancel' hfit] at this;exact this
       exact grow (sCap+y) rfl hfit (by omega) (he.kill bV) h
     cases h
    .
     cases hs;exact grow sCap rfl hroom (by omega) he h
    cases h
   cases h
  cases h
 cases h
end
end Go.Ev

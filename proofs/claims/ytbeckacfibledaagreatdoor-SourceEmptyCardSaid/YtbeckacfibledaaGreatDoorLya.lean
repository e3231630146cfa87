/- A closed run of a function, by an evaluator with memory of its own: its definitions. The evaluator's values and memory beside the machine's own: how the two are held against each other. Each operation of the evaluator's is the machine's own. The evaluator's operations, second part: slices, appends, copies, conversions. The evaluator's operations, third part: append, copy, conversions, places; then all of them. -/
import Derived.Calls
import Derived.Orders
import Derived.LoopN
import Derived.KernelRfl
import Derived.Laws.Tables
import Derived.Below
import Derived.Laws.Cells
import Derived.Laws.Append
import Derived.Laws.IdiomStrings
import Derived.Laws.BytesString
import Derived.Still
import Derived.Lib.Builder
import Derived.Lib.UnsafeStr
import Derived.IntWalk
set_option linter.unusedVariables false
set_option linter.unusedSimpArgs false

namespace Go
abbrev eX:=@Array.eq_empty_of_size_eq_zero
abbrev jC:=@Array.ext'
abbrev mH:=@Array.ext_getElem?
abbrev kM:=@Array.getD_eq_getD_getElem?
abbrev fY:=@Array.getElem?_append
abbrev bN:=@Array.getElem?_eq_getElem
abbrev eR:=@Array.getElem?_eq_none
abbrev aB:=@Array.getElem?_eq_some_iff
abbrev kA:=@Array.getElem?_modify
abbrev cy:=@Array.getElem?_setIfInBounds
abbrev lK:=@Array.length_toList
abbrev aY:=@Array.mem_of_getElem?
abbrev fq:=@Array.mem_toList_iff
abbrev kN:=@Array.replicate_succ
abbrev kO:=@Array.replicate_zero
abbrev fu:=@Array.toArray_toList
abbrev kG:=@Array.toList_inj
abbrev iX:=@BitVec.ofInt_natCast
abbrev jX:=@BitVec.toNat_ofNat
abbrev ak:=@Bool.and_eq_true
abbrev nH:=@Bool.and_self
abbrev kP:=@Bool.and_true
abbrev bO:=@Bool.eq_iff_iff
abbrev iY:=@Bool.false_and
abbrev cu:=@Bool.false_eq_true
abbrev mI:=@Bool.false_ne_true
abbrev eB:=@Bool.not_eq_true
abbrev aS:=@Bool.not_eq_true'
abbrev cJ:=@Bool.or_eq_true
abbrev dM:=@Bool.true_and
abbrev j4:=@ByteArray.size_extract
abbrev eN:=@Classical.not_not
abbrev gk:=@Go.MapKept.run_getObj_map
abbrev iP:=@Int.fdiv_eq_ediv_of_nonneg
abbrev bB:=@Int.le_refl
abbrev jI:=@Int.mul_assoc
abbrev oC:=@Int.mul_comm
abbrev iZ:=@Int.mul_ediv_self_le
abbrev dA:=@Int.mul_le_mul_of_nonneg_left
abbrev gM:=@Int.mul_le_mul_of_nonneg_right
abbrev mN:=@Int.mul_nonneg
abbrev jK:=@Int.natCast_mul
abbrev mO:=@Int.negSucc_eq
abbrev dU:=@Int.ofNat_eq_natCast
abbrev di:=@Int.tdiv_eq_ediv_of_nonneg
abbrev bg:=@Int.toNat_natCast
abbrev mP:=@Int.toNat_zero
abbrev jL:=@List.all_append
abbrev bY:=@List.all_cons
abbrev aK:=@List.all_eq_true
abbrev ji:=@List.any_eq_true
abbrev bM:=@List.append_assoc
abbrev nV:=@List.append_inj'
abbrev fB:=@List.append_nil
abbrev lM:=@List.append_toArray
abbrev fR:=@List.cons_append
abbrev fj:=@List.drop_append_of_le_length
abbrev eJ:=@List.drop_drop
abbrev l7:=@List.drop_eq_getElem_cons
abbrev iz:=@List.drop_eq_nil_of_le
abbrev mQ:=@List.drop_left
abbrev pF:=@List.drop_take
abbrev ke:=@List.drop_zero
abbrev gN:=@List.eq_nil_iff_forall_not_mem
abbrev kf:=@List.ext_getElem?
abbrev gm:=@List.extract_eq_take_drop
abbrev jb:=@List.extract_toArray
abbrev kg:=@List.flatten_cons
abbrev gw:=@List.foldl_cons
abbrev fC:=@List.foldr_cons
abbrev kj:=@List.foldr_nil
abbrev fS:=@List.getD_eq_getElem?_getD
abbrev fV:=@List.getElem?_drop
abbrev aP:=@List.getElem?_eq_getElem
abbrev dK:=@List.getElem?_eq_none
abbrev gp:=@List.getElem?_eq_none_iff
abbrev bx:=@List.getElem?_eq_some_iff
abbrev cB:=@List.getElem?_map
abbrev eD:=@List.getElem?_of_mem
abbrev mZ:=@List.getElem?_set
abbrev dD:=@List.getElem?_take
abbrev jj:=@List.getElem_mem
abbrev ia:=@List.isEmpty_iff
abbrev aA:=@List.length_append
abbrev aJ:=@List.length_cons
abbrev bQ:=@List.length_drop
abbrev aQ:=@List.length_eq_zero_iff
abbrev cg:=@List.length_map
abbrev bA:=@List.length_nil
abbrev dJ:=@List.length_pos_iff
abbrev iM:=@List.length_replicate
abbrev ek:=@List.length_singleton
abbrev bR:=@List.length_take
abbrev eo:=@List.map_append
abbrev jq:=@List.map_congr_left
abbrev cP:=@List.map_cons
abbrev j8:=@List.map_map
abbrev oD:=@List.map_nil
abbrev cz:=@List.mem_append
abbrev eE:=@List.mem_append_left
abbrev iN:=@List.mem_append_right
abbrev bt:=@List.mem_cons
abbrev bE:=@List.mem_cons_of_mem
abbrev cF:=@List.mem_cons_self
abbrev cK:=@List.mem_filter
abbrev mJ:=@List.mem_filterMap
abbrev bW:=@List.mem_map
abbrev jg:=@List.mem_of_find?_eq_some
abbrev bh:=@List.mem_of_getElem?
abbrev cZ:=@List.mem_singleton
abbrev eS:=@List.nil_append
abbrev lO:=@List.nodup_cons
abbrev kH:=@List.not_mem_nil
abbrev m9:=@List.push_toArray
abbrev gQ:=@List.replicate_succ
abbrev iO:=@List.set_append_right
abbrev jY:=@List.set_cons_succ
abbrev iQ:=@List.size_toArray
abbrev jr:=@List.takeWhile_cons
abbrev eY:=@List.take_append_drop
abbrev fk:=@List.take_append_of_le_length
abbrev kI:=@List.take_length
abbrev cU:=@List.take_of_length_le
abbrev pG:=@List.take_take
abbrev l8:=@Nat.add_comm
abbrev dm:=@Nat.add_mul
abbrev js:=@Nat.add_sub_cancel'
abbrev oE:=@Nat.add_zero
abbrev aO:=@Nat.beq_eq
abbrev oF:=@Nat.beq_refl
abbrev bu:=@Nat.ble_eq
abbrev ep:=@Nat.ble_eq_true_of_le
abbrev bf:=@Nat.eq_of_beq_eq_true
abbrev az:=@Nat.le_of_ble_eq_true
abbrev eZ:=@Nat.le_of_not_lt
abbrev aC:=@Nat.le_refl
abbrev fD:=@Nat.le_succ
abbrev br:=@Nat.le_trans
abbrev cw:=@Nat.lt_of_lt_of_le
abbrev gx:=@Nat.min_eq_left
abbrev ig:=@Nat.mod_eq_of_lt
abbrev fZ:=@Nat.mod_one
abbrev pH:=@Nat.mul_le_mul
abbrev dV:=@Nat.mul_le_mul_right
abbrev l9:=@Nat.ne_of_lt
abbrev oK:=@Nat.not_lt_zero
abbrev mb:=@Nat.sub_self
abbrev oG:=@Nat.succ_mul
abbrev bX:=@Nat.zero_add
abbrev ct:=@Nat.zero_le
abbrev lP:=@Nat.zero_lt_one
abbrev oH:=@Nat.zero_mul
abbrev jM:=@Ne.symm
abbrev dP:=@Option.bind_eq_some_iff
abbrev aW:=@Option.bind_some
abbrev bV:=@Option.isSome_iff_exists
abbrev aL:=@Option.map_eq_some_iff
abbrev eT:=@Option.map_none
abbrev bK:=@Option.map_some
abbrev bL:=@Option.some.inj
abbrev aq:=@Option.some.injEq
abbrev jN:=@Prod.mk.inj
abbrev ay:=@Prod.mk.injEq
abbrev jO:=@UInt8.toNat_inj
abbrev eK:=@beq_iff_eq
abbrev nW:=@beq_self_eq_true
abbrev cr:=@congrArg
abbrev fc:=@decide_eq_decide
abbrev aU:=@decide_eq_false
abbrev bH:=@decide_eq_false_iff_not
abbrev aX:=@decide_eq_true
abbrev aV:=@decide_eq_true_eq
abbrev ee:=@if_false
abbrev aa:=@if_neg
abbrev ag:=@if_pos
abbrev fF:=@if_true
abbrev kQ:=@not_or
abbrev fG:=@of_decide_eq_true
abbrev jF:=@true_and
end Go
namespace Go.Ev
noncomputable section
inductive Tr (α:Type) where
 |e
 |n (l:Tr α) (v:Option α) (r:Tr α)
abbrev ah {α:Type}(b:Bool)(x y:α):α:=Bool.rec (motive:=λ_=>α) y x b
def Tr.get {α:Type}(t:Tr α):Nat->Option α :=
 Tr.rec (motive:=λ_=>Nat->Option α) (λ_=>none)
  (λ_ v _ gl gr k=>ah (Nat.beq k 0) v (ah (Nat.beq (Nat.mod k 2) 1) (gl (Nat.div k 2)) (gr (Nat.sub (Nat.div k 2) 1)))) t
def Tr.mk1 {α:Type}(x:α)(d:Nat):Nat->Tr α :=
 Nat.rec (motive:=λ_=>Nat->Tr α) (λ_=>.n .e (some x) .e)
  (λ_ go k=>ah (Nat.beq k 0) (.n .e (some x) .e) (ah (Nat.beq (Nat.mod k 2) 1) (.n (go (Nat.div k 2)) none .e) (.n .e none (go (Nat.sub (Nat.div k 2) 1))))) d
def Tr.set {α:Type}(t:Tr α):Nat->α->Option (Tr α) :=
 Tr.rec (motive:=λ_=>Nat->α->Option (Tr α)) (λk x=>some (Tr.mk1 x k k))
  (λl v r gl gr k x=>ah (Nat.beq k 0) (some (.n l (some x) r))
   (ah (Nat.beq (Nat.mod k 2) 1)
    (Option.rec (motive:=λ_=>Option (Tr α)) none (λl'=>some (.n l' v r)) (gl (Nat.div k 2) x))
    (Option.rec (motive:=λ_=>Option (Tr α)) none (λr'=>some (.n l v r')) (gr (Nat.sub (Nat.div k 2) 1) x)))) t
def Tr.full {α:Type}:Nat->Tr α
 |0=>.e
 |d+1=>.n (Tr.full d) none (Tr.full d)
structure jJ where
 cells:List Value
 elem:TypeId
 live:Bool
 fix:Bool
structure Mem where
 size:Nat
 lk:Nat
 t:Tr jJ
def Mem.get (H:Mem)(i:Nat):Option jJ:=ah (Nat.ble (Nat.succ i) H.size) (H.t.get i) none
def Mem.push (H:Mem)(b:jJ):Option Mem :=
 Option.rec (motive:=λ_=>Option Mem) none (λt=>some ⟨Nat.add H.size 1,H.lk,t⟩) (H.t.set H.size b)
def Mem.set (H:Mem)(i:Nat)(b:jJ):Option Mem :=
 ah (Nat.ble (Nat.succ i) H.size) (ah (Nat.ble H.lk i) (Option.rec (motive:=λ_=>Option Mem) none (λt=>some ⟨H.size,H.lk,t⟩) (H.t.set i b)) none) none
def Mem.empty:Mem:=⟨0,0,.e⟩
structure Fr where
 n:Nat
 t:Tr Value
def Fr.get (f:Fr)(i:Nat):Value:=ah (Nat.ble (Nat.succ i) f.n) (Option.rec (motive:=λ_=>Value) undef (λv=>v) (f.t.get i)) undef
def Fr.put (f:Fr)(dst:Option Tmp)(v:Value):Option Fr :=
 Option.rec (motive:=λ_=>Option Fr) (some f)
  (λd=>ah (Nat.ble (Nat.succ d) f.n) (Option.rec (motive:=λ_=>Option Fr) none (λt=>some ⟨f.n,t⟩) (f.t.set d v)) (some f)) dst
def Fr.eval (f:Fr):Operand->Value
 |.tmp t=>f.get t
 |.const v=>v
 |.global g=>.pointer (some ⟨g,0,none⟩)
 |.func f=>.func (.func f) #[] #[]
def xQ (n:Nat):Nat:=cond (Nat.blt n 31) 5 (cond (Nat.blt n 127) 7 (cond (Nat.blt n 511) 9 12))
def Fr.fill (f:Fr):Nat->List Value->Option Fr
 |_,[]=>some f
 |i,v::l=>match f.put (some i) v with
  |some f'=>f'.fill (i+1) l
  |none=>none
mutual
def aZ:Value->Bool
 |.bool _=>true
 |.int _ _=>true
 |.float _ _=>true
 |.complex _ _ _=>true
 |.string _=>true
 |.pointer none=>true
 |.pointer (some _)=>false
 |.slice none _ _=>true
 |.slice (some _) _ _=>false
 |.map none=>true
 |.map (some _)=>false
 |.chan _=>false
 |.func _ a b=>mF a&&mF b
 |.nilFunc=>true
 |.iface _ v=>aZ v
 |.nilIface=>true
 |.agg cs=>mF cs
 |.tuple cs=>mF cs
def mF:Array Value->Bool
 |⟨l⟩=>cG l
def cG:List Value->Bool
 |[]=>true
 |v::l=>aZ v&&cG l
end
def bF (P:Program){α:Type}:Sem α->Option α
 |.pure a=>some a
 |.program k=>bF P (k P)
 |.mark _ k=>bF P k
 |_=>none
def cR (P:Program)(t:TypeId):Option Nat:=(P.info? t).map (·.size)
def yP (P:Program)(t:TypeId):Option Bool :=
 match P.underlying t with
 |some (.struct _)=>some true
 |some (.array _ _)=>some true
 |some _=>some false
 |none=>none
def alive (H:Mem)(i:Nat):Option jJ :=
 match H.get i with
 |some b=>cond b.live (some b) none
 |none=>none
def pI:Value->Bool
 |.chan _=>true
 |_=>false
def fW (H:Mem)(i off n:Nat):Option (List Value) :=
 match alive H i with
 |some b=>if off+n<=b.cells.length then ah (((b.cells.drop off).take n).any pI) none (some ((b.cells.drop off).take n)) else none
 |none=>none
def DI:Option Value->Option Value
 |some v=>ah (pI v) none (some v)
 |none=>none
def rB (P:Program)(H:Mem)(t:TypeId)(v:Value):Option Value :=
 match v with
 |.pointer (some ⟨i,off,none⟩) =>
  match yP P t,cR P t with
  |some true,some n=>(fW H i off n).map λl=>.agg l.toArray
  |some false,_=>match alive H i with
   |some b=>DI b.cells[off]?
   |none=>none
  |_,_=>none
 |_=>none
def plainCell:Value->Bool
 |.agg _=>false
 |.tuple _=>false
 |_=>true
def ou (l:List Value)(off:Nat):List Value->List Value
 |[]=>l
 |v::vs=>ou (l.set off v) (off+1) vs
def iH (H:Mem)(i off:Nat)(vs:List Value):Option Mem :=
 if vs.isEmpty then some H else
 match alive H i with
 |some b=>if off+vs.length<=b.cells.length&&vs.all plainCell then H.set i { b with cells:=ou b.cells off vs } else none
 |none=>none
def su (P:Program)(H:Mem)(t:TypeId)(v x:Value):Option Mem :=
 match v,cR P t with
 |.pointer (some ⟨i,off,none⟩),some n=>if x.cells.size=n then iH H i off x.cells.toList else none
 |_,_=>none
def uU (H:Mem)(t:TypeId)(cs:List Value):Option (Value×Mem) :=
 match H.push ⟨cs,t,true,true⟩ with
 |some H'=>some (.pointer (some ⟨H.size,0,none⟩),H')
 |none=>none
def kU (H:Mem)(t:TypeId)(cs:List Value)(len cap:Nat):Option (Value×Mem) :=
 match H.push ⟨cs,t,true,false⟩ with
 |some H'=>some (.slice (some ⟨H.size,0,none⟩) len cap,H')
 |none=>none
def uV (H:Mem)(t:TypeId)(cs:List Value)(len cap:Nat):Option (Value×Mem) :=
 match H.push ⟨cs,t,true,true⟩ with
 |some H'=>some (.slice (some ⟨H.size,0,none⟩) len cap,H')
 |none=>none
def mc (P:Program)(t:TypeId):Option Value :=
 match P.info? t with
 |some i=>match i.zero with
  |some z=>if aZ z then some z else none
  |none=>none
 |none=>none
def R6 (i:Int)(len:Nat):Option Nat :=
 match i with
 |.ofNat m=>ah (Nat.ble (Nat.succ m) len) (some m) none
 |.negSucc _=>none
def Ii (P:Program)(t:TypeId)(x ix:Value):Option Value :=
 match P.underlying t,x,ix with
 |some (.slice e),.slice (some ⟨b,off,none⟩) len _,.int _ i =>
  match cR P e,R6 i len with
  |some s,some m=>some (.pointer (some ⟨b,Nat.add off (Nat.mul m s),none⟩))
  |_,_=>none
 |some (.array len e),.pointer (some ⟨b,off,none⟩),.int _ i =>
  match cR P e,R6 i len with
  |some s,some m=>some (.pointer (some ⟨b,Nat.add off (Nat.mul m s),none⟩))
  |_,_=>none
 |_,_,_=>none
def yQ (P:Program)(s:TypeId)(x:Value)(f:Nat):Option Value :=
 match P.underlying s,x with
 |some (.struct fs),.pointer (some ⟨b,off,none⟩) =>
  match fs[f]? with
  |some fd=>match cR P fd.type with
   |some n=>if n=0 then none else some (.pointer (some ⟨b,off+fd.offset,none⟩))
   |none=>none
  |none=>none
 |_,_=>none
def nX:Value->Nat->Option Nat
 |.int _ i,y=>if 0<=i/\i<=y then some i.toNat else none
 |_,_=>none
def kV (P:Program)(t:TypeId)(x:Value)(lo hi:Option Value):Option Value :=
 match P.underlying t,x with
 |some (.slice e),.slice a len cap =>
  match (match hi with|some v=>nX v cap|none=>some len) with
  |some h=>match (match lo with|some v=>nX v h|none=>some 0) with
   |some l=>match a,cR P e with
    |some ⟨b,off,none⟩,some s=>if (l=cap/\l≠0)\/cap<l then none else some (.slice (some ⟨b,off+l*s,none⟩) (h-l) (cap-l))
    |none,some _=>some (.slice none (h-l) (cap-l))
    |some ⟨b,off,some q⟩,some _=>if h=0 then some (.slice (some ⟨b,off,some q⟩) 0 0) else none
    |_,_=>none
   |none=>none
  |none=>none
 |_,_=>none
def DJ (P:Program)(t:TypeId)(cs:Array Value)(off:Nat):Option Value :=
 match yP P t,cR P t with
 |some true,some n=>some (.agg (cs.extract off (off+n)))
 |some false,_=>cs[off]?
 |_,_=>none
def zH (P:Program)(t:TypeId)(x:Value)(f:Nat):Option Value :=
 match P.underlying t,x with
 |some (.struct fs),.agg cs=>match fs[f]? with
  |some fd=>DJ P fd.type cs fd.offset
  |none=>none
 |_,_=>none
def xR (P:Program)(t:TypeId)(x ix:Value):Option Value :=
 match P.underlying t,x,ix with
 |some (.array len e),.agg cs,.int _ i=>match cR P e,R6 i len with
  |some s,some m=>DJ P e cs (Nat.mul m s)
  |_,_=>none
 |_,_,_=>none
def DK (P:Program)(t:TypeId)(parts:List (Nat×Value)):Option Value :=
 if (mc P t).isSome then (P.built t parts).map .agg else none
def uW (P:Program)(e:TypeId)(n:Nat):Option (Array Value) :=
 match cR P e,mc P e with
 |some s,some z=>if n*s=0 then some #[] else some ((Array.range (n*s)).map (z.cells[· % z.cells.size]!))
 |_,_=>none
def ng (P:Program)(H:Mem)(t:TypeId)(len:Nat)(parts:List (Nat×Value)):Option (Value×Mem) :=
 match P.underlying t with
 |some (.slice e)=>match cR P e,uW P e len with
  |some s,some z=>if len*s>2 ^ 24 then none else
   match Instr.fill (λi=>some (i*s,s)) z parts with
   |some cs=>uV H e cs.toList len len
   |none=>none
  |_,_=>none
 |_=>none
def qb (P:Program)(H:Mem)(t:TypeId)(len cap:Value):Option (Value×Mem) :=
 match P.underlying t,len,cap with
 |some (.slice e),.int _ l,.int _ c=>match P.info? e,uW P e c.toNat with
  |some inf,some z=>if 0<=l/\l<=c/\c<=2000000/\inf.bytes<=2000000 then uV H e z.toList l.toNat c.toNat else none
  |_,_=>none
 |_,_,_=>none
def iR (H:Mem)(s n:Nat):Value->Option (List Value)
 |.slice (some ⟨b,off,none⟩) _ _=>fW H b off (n*s)
 |.slice none _ _=>if n=0 then some [] else none
 |.slice (some ⟨_,_,some _⟩) _ _=>if n=0 then some [] else none
 |.string x=>if s=1/\n<=x.size then some ((x.extract 0 n).data.toList.map λb=>.int .u8 b.toNat) else none
 |_=>none
def vW:Value->Option Nat
 |.slice _ n _=>some n
 |.string s=>some s.size
 |_=>none
def lG (P:Program)(t:TypeId):Bool :=
 match P.underlying t with
 |some (.slice _)=>true
 |some .string=>true
 |_=>false
def kill (H:Mem)(i:Nat):Option Mem :=
 match H.get i with
 |some b=>H.set i { b with live:=false,fix:=false }
 |none=>none
def rH (P:Program)(H:Mem)(st xt:TypeId)(s x:Value):Option (Value×Mem) :=
 match P.underlying st,s,lG P xt with
 |some (.slice e),.slice base sLen sCap,true =>
  match P.info? e,mc P e,vW x with
  |some inf,some z,some n =>
   match iR H inf.size n x,iR H inf.size sLen s with
   |some new,some old =>
    if inf.size=0\/inf.bytes=0\/inf.bytes>100000\/sLen+n>2000000\/sCap>2000000\/z.cells.size≠inf.size \/ !new.all plainCell then none else
    if sLen+n<=sCap then
     match base with
     |some ⟨b,off,none⟩=>(iH H b (off+sLen*inf.size) new).map λH'=>(.slice base (sLen+n) sCap,H')
     |none=>if n=0 then some (s,H) else none
     |_=>none
    else
     match base with
     |some ⟨b,off,none⟩ =>
      if off=0/\old.length=sLen*inf.size/\(alive H b).any (λk=>decide (k.cells.length=sCap*inf.size)&&(k.elem==e)) then
       match kill H b with
       |some H1=>kU H1 e (old++new) (sLen+n) (sLen+n)
       |none=>none
      else none
     |none=>kU H e (old++new) (sLen+n) (sLen+n)
     |_=>none
   |_,_=>none
  |_,_,_=>none
 |_,_,_=>none
def Gn (P:Program)(H:Mem)(dt:TypeId)(d x:Value):Option (Value×Mem) :=
 match P.underlying dt,d,vW x with
 |some (.slice e),.slice base dLen _,some n =>
  match cR P e with
  |some s=>match iR H s (Nat.min n dLen) x with
   |some cs=>match base with
    |some ⟨b,off,none⟩=>(iH H b off cs).map λH'=>(goInt (Nat.min n dLen),H')
    |none=>some (goInt (Nat.min n dLen),H)
    |_=>none
   |none=>none
  |none=>none
 |_,_,_=>none
def De:Value->Option UInt8
 |.int .u8 n=>some (UInt8.ofNat n.toNat)
 |_=>none
def sv:List Value->ByteArray->Option ByteArray
 |[],acc=>some acc
 |v::vs,acc=>match De v with
  |some b=>sv vs (acc.push b)
  |none=>none
def jk (P:Program)(H:Mem)(src dst:TypeId)(x:Value):Option (Value×Mem) :=
 match P.underlying src,P.underlying dst,x with
 |some (.slice e),some .string,.slice a len _ =>
  match P.underlying e,a with
  |some (.int .u8),some ⟨b,off,none⟩=>match fW H b off len with
   |some cs=>(sv cs .empty).map λs=>(.string s,H)
   |none=>none
  |some (.int .u8),none=>some (.string .empty,H)
  |some (.int .u8),some ⟨_,_,some _⟩=>some (.string .empty,H)
  |_,_=>none
 |some .string,some (.slice e),.string s =>
  match P.underlying e,cR P e with
  |some (.int .u8),some 1=>kU H e (s.data.toList.map λb=>.int .u8 b.toNat) s.size s.size
  |_,_=>none
 |some (.slice _),some (.slice e),.slice (some ⟨i,off,none⟩) l c =>
  match alive H i,P.underlying e with
  |some _,some (.int .u8)=>ah (Nat.ble H.lk i&&Nat.beq src dst) (some (.slice (some ⟨i,off,none⟩) l c,H)) none
  |_,_=>none
 |some (.pointer t),some .unsafePointer,.pointer (some ⟨i,0,none⟩) =>
  match alive H i,cR P t with
  |some b,some n=>ah (Nat.ble 1 n&&Nat.ble 1 b.cells.length) (some (.pointer (some ⟨i,0,none⟩),H)) none
  |_,_=>none
 |some .unsafePointer,some (.pointer u),.pointer (some ⟨i,0,none⟩) =>
  match alive H i,cR P u with
  |some b,some _=>ah (b.fix&&liesAt P P.depth b.elem (b.cells.length/P.cellsOf b.elem) 0 u 1) (some (.pointer (some ⟨i,0,none⟩),H)) none
  |_,_=>none
 |_,_,_=>none
def dg (ev:Operand->Value)(o:Op):Bool:=o.operands.toList.all λx=>aZ (ev x)
def gR (P:Program)(ev:Operand->Value)(o:Oper):Option Value :=
 match o.op with
 |.select _ _=>none
 |_=>if dg ev o.op then
   match bF P (execOp ev o) with
   |some (.value v)=>if aZ v then some v else none
   |_=>none
  else none
def forced (n:Int):Int :=
 match n with
 |.ofNat 0=>0
 |.ofNat (m+1)=>.ofNat (m+1)
 |.negSucc 0 => -1
 |.negSucc (m+1)=>.negSucc (m+1)
def Kr (n:Int):Bool :=
 match n with
 |.ofNat m=>Nat.blt m 9223372036854775808
 |.negSucc m=>Nat.blt m 9223372036854775808
def bC (a b:Int):Bool :=
 match a,b with
 |.ofNat m,.ofNat n=>Nat.ble (Nat.succ m) n
 |.ofNat _,.negSucc _=>false
 |.negSucc _,.ofNat _=>true
 |.negSucc m,.negSucc n=>Nat.ble (Nat.succ n) m
def bI (a b:Int):Bool :=
 match a,b with
 |.ofNat m,.ofNat n=>Nat.beq m n
 |.negSucc m,.negSucc n=>Nat.beq m n
 |_,_=>false
def NM:IntKind->IntKind->Bool
 |.i64,.i64=>true
 |.u8,.u8=>true
 |.i32,.i32=>true
 |.u64,.u64=>true
 |_,_=>false
def Qk (op:BinOp)(a b:Int):Option Bool :=
 match op with
 |.eql=>some (bI a b)
 |.neq=>some (!bI a b)
 |.lss=>some (bC a b)
 |.leq=>some (!bC b a)
 |.gtr=>some (bC b a)
 |.geq=>some (!bC a b)
 |_=>none
def Ql (op:BinOp)(k:IntKind)(a b:Int):Option Int :=
 match k,op with
 |.i64,.add=>ah (Kr (Int.add a b)) (some (forced (Int.add a b))) none
 |.i64,.sub=>ah (Kr (Int.sub a b)) (some (forced (Int.sub a b))) none
 |_,_=>none
def DL (op:BinOp)(x y:Value):Option Value :=
 match x,y with
 |.int k a,.int k' b=>ah (NM k k')
  (match Qk op a b with
   |some t=>some (.bool t)
   |none=>match Ql op k a b with
    |some n=>some (.int k n)
    |none=>none)
  none
 |_,_=>none
def ue (P:Program)(op:BinOp)(t:TypeId)(x y:Value):Option Value :=
 match P.underlying t,x,y with
 |some .bool,.bool a,.bool b=>match op with
  |.eql=>some (.bool (ah a b (!b)))
  |.neq=>some (.bool (ah a (!b) b))
  |_=>none
 |some (.slice _),.slice (some _) _ _,.slice none _ _=>match op with
  |.eql=>some (.bool false)
  |.neq=>some (.bool true)
  |_=>none
 |some (.pointer _),.pointer (some _),.pointer none=>match op with
  |.eql=>some (.bool false)
  |.neq=>some (.bool true)
  |_=>none
 |some (.pointer e),.pointer (some ⟨i,a,none⟩),.pointer (some ⟨j,b,none⟩)=>ah (Nat.beq i j&&Nat.beq a b&&(cR P e).isSome) (match op with
  |.eql=>some (.bool true)
  |.neq=>some (.bool false)
  |_=>none) none
 |some (.pointer _),.pointer none,.pointer none=>match op with
  |.eql=>some (.bool true)
  |.neq=>some (.bool false)
  |_=>none
 |_,_,_=>none
def nY (ev:Operand->Value)(ps:Array (Nat×Operand)):List (Nat×Value):=ps.toList.map λq=>(q.1,ev q.2)
def cE (H:Mem)(v:Option Value):Option (Value×Mem):=Option.rec (motive:=λ_=>Option (Value×Mem)) none (λv=>some (v,H)) v
def orElse (x y:Option Value):Option Value:=Option.rec (motive:=λ_=>Option Value) y (λv=>some v) x
def DM (c a b:Value)(H:Mem):Option (Value×Mem) :=
 match c with
 |.bool t=>some (ah t a b,H)
 |_=>none
def wk (P:Program)(ev:Operand->Value)(o:Oper)(op:BinOp)(t:TypeId)(x y:Value)(H:Mem):Option (Value×Mem) :=
 cE H (orElse (DL op x y) (orElse (ue P op t x y) (gR P ev o)))
def rI (P:Program)(t:TypeId)(H:Mem):Option (Value×Mem) :=
 match mc P t with
 |some z=>uU H t z.cells.toList
 |none=>none
def Gp (P:Program)(t:TypeId)(x:Value)(H:Mem):Option (Value×Mem) :=
 match cR P t with
 |some _=>uU H t x.cells.toList
 |none=>none
def qt (P:Program)(t:TypeId)(a x:Value)(H:Mem):Option (Value×Mem) :=
 match su P H t a x with
 |some H'=>some (undef,H')
 |none=>none
def sw (x:Value)(H:Mem):Option (Value×Mem) :=
 match x with
 |.pointer (some a)=>some (.pointer (some a),H)
 |.func (.func f) a b=>some (.func (.func f) a b,H)
 |_=>none
def r7 (x:Value)(k:Nat)(H:Mem):Option (Value×Mem) :=
 match x with
 |.tuple vs=>cE H (vs.toList[k]?)
 |_=>none
def qE (P:Program)(t:TypeId)(x ix:Value):Option Value :=
 match P.underlying t,x,ix with
 |some .string,.string s,.int _ (.ofNat i)=>match s.data.toList[i]? with
  |some b=>some (.int .u8 (.ofNat b.toNat))
  |none=>none
 |_,_,_=>none
def wm (P:Program)(t:TypeId):Bool :=
 match P.underlying t with
 |some (.array _ _)=>true
 |_=>false
def qF (P:Program)(H:Mem)(t:TypeId)(x:Value)(lo hi:Option Value):Option Value :=
 match P.underlying t,x with
 |some (.array n e),.pointer (some ⟨b,off,none⟩) =>
  match (match hi with|some v=>nX v n|none=>some n) with
  |some h=>match (match lo with|some v=>nX v h|none=>some 0) with
   |some l=>match alive H b,cR P e with
    |some k,some s=>ah k.fix (some (.slice (some ⟨b,ah (Nat.beq n l) off (Nat.add off (Nat.mul l s)),none⟩) (h-l) (n-l))) none
    |_,_=>none
   |none=>none
  |none=>none
 |_,_=>none
def pJ (P:Program)(ev:Operand->Value)(o:Oper)(t:TypeId)(x:Value)(lo hi:Option Value)(H:Mem):Option (Value×Mem) :=
 ah (wm P t) (cE H (qF P H t x lo hi)) (cE H (orElse (kV P t x lo hi) (gR P ev o)))
def Ij (P:Program)(ev:Operand->Value)(o:Oper)(t:TypeId)(x ix:Value)(H:Mem):Option (Value×Mem) :=
 cE H (orElse (qE P t x ix) (orElse (xR P t x ix) (gR P ev o)))
def nZ (P:Program)(d:TypeId)(x:Value):Option Value :=
 match P.underlying d,x with
 |some (.int .i64),.int .u8 (.ofNat n)=>ah (Nat.ble n 255) (some (.int .i64 (.ofNat n))) none
 |some (.int .i64),.int .i64 n=>ah (Kr n) (some (.int .i64 n)) none
 |_,_=>none
def kW (P:Program)(ev:Operand->Value)(o:Oper)(s d:TypeId)(x:Value)(H:Mem):Option (Value×Mem) :=
 match orElse (match P.underlying s with|some _=>nZ P d x|none=>none) (gR P ev o) with
 |some v=>some (v,H)
 |none=>jk P H s d x
def tQ (P:Program)(t:TypeId)(x:Value):Option Value :=
 match P.underlying t,x with
 |some (.slice _),.slice _ n _=>some (goInt n)
 |some .string,.string s=>some (goInt s.size)
 |_,_=>none
def zI (P:Program)(ev:Operand->Value)(o:Oper)(args:Array Operand)(ats:Array TypeId)(H:Mem):Option (Value×Mem) :=
 match args[0]?,ats[0]? with
 |some x,some t=>cE H (orElse (tQ P t (ev x)) (gR P ev o))
 |_,_=>none
def sx (P:Program)(ev:Operand->Value)(args:Array Operand)(ats:Array TypeId)(H:Mem):Option (Value×Mem) :=
 match args[0]?,args[1]?,ats[0]?,ats[1]? with
 |some s,some x,some st,some xt=>rH P H st xt (ev s) (ev x)
 |_,_,_,_=>none
def A9 (P:Program)(ev:Operand->Value)(args:Array Operand)(ats:Array TypeId)(H:Mem):Option (Value×Mem) :=
 match args[0]?,args[1]?,ats[0]? with
 |some d,some x,some dt=>Gn P H dt (ev d) (ev x)
 |_,_,_=>none
abbrev cH:=FuncId->List Value->Mem->Option (Value×Mem)
def qc (P:Program)(call:cH)(fv:Value)(args:List Value)(H:Mem):Option (Value×Mem) :=
 match fv with
 |.func (.func id) first captured=>match P.funcs[id]? with
  |some fn=>ah fn.body.isSome (call id (first.toList++(args++captured.toList)) H) none
  |none=>none
 |_=>none
def wo (P:Program)(fv:Value):Bool :=
 match fv with
 |.func (.func id) ⟨[]⟩ ⟨[]⟩=>match P.funcs[id]? with
  |some fn=>ah fn.body.isSome false (fn.name == "internal/abi.NoEscape" && fn.origin == "")
  |none=>false
 |_=>false
def DN (P:Program)(ev:Operand->Value)(o:Oper)(fv:Value)(args:List Value)(H:Mem):Option (Value×Mem) :=
 match args with
 |[x]=>ah (wo P fv) (some (x,H)) (cE H (gR P ev o))
 |_=>cE H (gR P ev o)
def CT (P:Program)(H:Mem)(t:TypeId)(x:Value):Option Value :=
 match P.underlying t,x with
 |some (.slice _),.slice (some ⟨i,_,none⟩) _ c=>match alive H i with
  |some b=>ah b.fix (some (goInt c)) none
  |none=>none
 |some (.slice _),.slice none _ c=>some (goInt c)
 |_,_=>none
def uf (P:Program)(ev:Operand->Value)(args:Array Operand)(ats:Array TypeId)(H:Mem):Option (Value×Mem) :=
 match args[0]?,ats[0]? with
 |some x,some t=>cE H (CT P H t (ev x))
 |_,_=>none
def uX:Value->Option Value
 |.slice (some a) _ c=>ah (Nat.beq c 0) none (some (.pointer (some a)))
 |.slice none _ _=>some (.pointer none)
 |_=>none
def oV (ev:Operand->Value)(args:Array Operand)(H:Mem):Option (Value×Mem) :=
 match args.toList with
 |[x]=>cE H (uX (ev x))
 |_=>none
def zJ:Value->Bool
 |.int .u8 (.ofNat n)=>Nat.ble n 255
 |_=>false
def DP (P:Program)(H:Mem)(pt:TypeId)(p n:Value):Option (Value×Mem) :=
 match p,n,P.underlying pt with
 |.pointer _,.int .i64 (.ofNat 0),_=>some (.string .empty,H)
 |.pointer (some ⟨i,0,none⟩),.int .i64 (.ofNat (m+1)),some (.pointer e) =>
  match alive H i,fW H i 0 (m+1) with
  |some b,some cs=>ah ((b.elem==e)&&Nat.beq (P.cellsOf e) 1&&Nat.ble (m+1) 2000000&&cs.all zJ)
   (match sv cs .empty,kill H i with
    |some s,some H'=>some (.string s,H')
    |_,_=>none) none
  |_,_=>none
 |_,_,_=>none
def Ba (P:Program)(ev:Operand->Value)(args:Array Operand)(ats:Array TypeId)(H:Mem):Option (Value×Mem) :=
 match args.toList,ats.toList with
 |[p,n],[pt,_]=>DP P H pt (ev p) (ev n)
 |_,_=>none
def r8 (P:Program)(ev:Operand->Value)(o:Oper)(b:Builtin)(args:Array Operand)(ats:Array TypeId)(H:Mem):Option (Value×Mem) :=
 match b with
 |.len=>zI P ev o args ats H
 |.append=>sx P ev args ats H
 |.copy=>A9 P ev args ats H
 |.cap=>uf P ev args ats H
 |.unsafeSliceData=>oV ev args H
 |.unsafeString=>Ba P ev args ats H
 |_=>cE H (gR P ev o)
def ez (P:Program)(call:cH)(ev:Operand->Value)(o:Oper)(c:Call)(H:Mem):Option (Value×Mem) :=
 match c.callee with
 |.value f=>match qc P call (ev f) (c.args.toList.map ev) H with
  |some r=>some r
  |none=>DN P ev o (ev f) (c.args.toList.map ev) H
 |.builtin b=>r8 P ev o b c.args c.argTypes H
 |.invoke _ _=>none
def iS (b:jJ):Bool:=ah b.live false b.fix
def mapOf (H:Mem)(i:Nat):Option jJ :=
 match H.get i with
 |some b=>ah (iS b) (some b) none
 |none=>none
def oI:List UInt8->List UInt8->Bool
 |[],[]=>true
 |a::l,b::m=>ah (Nat.beq a.toNat b.toNat) (oI l m) false
 |_,_=>false
def Ks:TypeDesc->Value->Value->Option Bool
 |.int d,.int k a,.int k' b=>ah (decide (k=d)&&decide (k=k')) (some (bI a b)) none
 |.string,.string a,.string b=>some (oI a.data.toList b.data.toList)
 |_,_,_=>none
def tn:TypeDesc->Bool
 |.int _=>true
 |.string=>true
 |_=>false
def sy (d:TypeDesc)(k:Value):List Value->Nat->Option (Option (Nat×Value))
 |[],_=>some none
 |[_],_=>none
 |q::v::l,i=>match Ks d k q with
  |some true=>some (some (i,v))
  |some false=>sy d k l (i+1)
  |none=>none
def nI (P:Program)(t:TypeId)(r:Option Value)(H:Mem):Option (Value×Mem) :=
 match P.underlying t,r with
 |some (.map _ _),none=>match H.push ⟨[],t,false,true⟩ with
  |some H'=>some (.map (some H.size),H')
  |none=>none
 |some (.map _ _),some (.int _ _)=>match H.push ⟨[],t,false,true⟩ with
  |some H'=>some (.map (some H.size),H')
  |none=>none
 |_,_=>none
def pK (H:Mem):Value->Option (List Value)
 |.map none=>some []
 |.map (some i)=>match mapOf H i with
  |some b=>some b.cells
  |none=>none
 |_=>none
def vN (P:Program)(H:Mem)(t:TypeId)(x k:Value)(ok:Bool):Option Value :=
 match P.underlying t with
 |some (.map kt e)=>match P.underlying kt,mc P e,pK H x with
  |some d,some z,some cs=>ah (tn d) (match sy d k cs 0 with
   |some (some (_,v))=>some (ah ok (.tuple #[v,.bool true]) v)
   |some none=>some (ah ok (.tuple #[z,.bool false]) z)
   |none=>none) none
  |_,_,_=>none
 |_=>none
def pL (P:Program)(t:TypeId)(m k x:Value)(H:Mem):Option (Value×Mem) :=
 match P.underlying t,m with
 |some (.map kt _),.map (some i)=>match P.underlying kt,mapOf H i with
  |some d,some b=>ah (tn d&&aZ k) (match sy d k b.cells 0 with
   |some (some (j,_))=>match H.set i { b with cells:=b.cells.set (2*j+1) x } with
    |some H'=>some (undef,H')
    |none=>none
   |some none=>match H.set i { b with cells:=b.cells++[k,x] } with
    |some H'=>some (undef,H')
    |none=>none
   |none=>none) none
  |_,_=>none
 |_,_=>none
def jt (P:Program)(call:cH)(ev:Operand->Value)(o:Oper)(H:Mem):Option (Value×Mem) :=
 match o.op with
 |.move x=>some (ev x,H)
 |.assign x=>some (ev x,H)
 |.pick c a b=>DM (ev c) (ev a) (ev b) H
 |.binOp op t x y _=>wk P ev o op t (ev x) (ev y) H
 |.alloc t=>rI P t H
 |.box t x=>Gp P t (ev x) H
 |.build t ps=>cE H (DK P t (nY ev ps))
 |.buildSlice t len ps=>ng P H t len (nY ev ps)
 |.load t a=>cE H (rB P H t (ev a))
 |.store t a x=>qt P t (ev a) (ev x) H
 |.nilCheck x=>sw (ev x) H
 |.fieldAddr s x f=>cE H (yQ P s (ev x) f)
 |.indexAddr t x ix=>cE H (Ii P t (ev x) (ev ix))
 |.extract x k=>r7 (ev x) k H
 |.makeSlice t l c=>qb P H t (ev l) (ev c)
 |.makeFunc fn first captured=>some (.func fn (first.map ev) (captured.map ev),H)
 |.slice t x lo hi none=>pJ P ev o t (ev x) (lo.map ev) (hi.map ev) H
 |.field t x f=>cE H (zH P t (ev x) f)
 |.index t x ix=>Ij P ev o t (ev x) (ev ix) H
 |.convert s d x=>kW P ev o s d (ev x) H
 |.call c=>ez P call ev o c H
 |.makeMap t r=>nI P t (r.map ev) H
 |.lookup t x k ok=>cE H (vN P H t (ev x) (ev k) ok)
 |.mapUpdate t m k x=>pL P t (ev m) (ev k) (ev x) H
 |.insert t m k x=>pL P t (ev m) (ev k) (ev x) H
 |_=>cE H (gR P ev o)
def CU:Value->Option (Option Nat)
 |.float .f64 n=>some (some n)
 |.chan (some 1)=>some none
 |_=>none
def NN:Option Nat->Value
 |some n=>.float .f64 n
 |none=>.chan (some 1)
def NT (op:BinOp)(a b:Option Nat):Option Nat :=
 match a,b with
 |some x,some y=>match op with
  |.add=>Ieee.double.add x y
  |.sub=>Ieee.double.sub x y
  |.mul=>Ieee.double.mul x y
  |_=>none
 |_,_=>none
def Ik (op:BinOp)(x y:Value):Option Value :=
 match CU x,CU y with
 |some a,some b=>match op with
  |.add=>some (NN (NT .add a b))
  |.sub=>some (NN (NT .sub a b))
  |.mul=>some (NN (NT .mul a b))
  |.neq=>match a,b with
   |some _,some _=>none
   |_,_=>some (.bool true)
  |_=>none
 |_,_=>none
def ug (a b:Nat):Nat:=2 ^ a*(2*b+1)
def vO:Nat->Nat->Nat×Nat
 |0,_=>(0,0)
 |f+1,n=>ah (Nat.beq (n%2) 0) ((vO f (n/2)).1+1,(vO f (n/2)).2) (0,n/2)
def DQ:Option Nat->Nat
 |none=>0
 |some n=>n+1
def uY:Nat->Option Nat
 |0=>none
 |n+1=>some n
def Il:Value->Option (Option Nat×Option Nat)
 |.complex .f64 a b=>some (some a,some b)
 |.chan (some (k+2))=>some (uY (vO k k).1,uY (vO k k).2)
 |_=>none
def cxV (a b:Option Nat):Value :=
 match a,b with
 |some a,some b=>.complex .f64 a b
 |a,b=>.chan (some (ug (DQ a) (DQ b)+2))
def Im (P:Program)(fv:Value):Bool :=
 match fv with
 |.func (.func id) ⟨[]⟩ ⟨[]⟩=>match P.funcs[id]? with
  |some fn=>ah fn.body.isSome false (fn.name == "math.Float64bits" && fn.origin == "")
  |none=>false
 |_=>false
def F7 (P:Program)(ev:Operand->Value)(o:Oper):Option Value :=
 match o.op with
 |.binOp op _ x y _=>Ik op (ev x) (ev y)
 |.call c=>match c.callee,c.args.toList.map ev with
  |.builtin .complex,[x,y]=>match CU x,CU y with
   |some a,some b=>some (cxV a b)
   |_,_=>none
  |.builtin .real,[x]=>match Il x with
   |some q=>some (NN q.1)
   |none=>none
  |.builtin .imag,[x]=>match Il x with
   |some q=>some (NN q.2)
   |none=>none
  |.value f,[.chan (some 1)]=>ah (Im P (ev f)) (some (.chan none)) none
  |_,_=>none
 |_=>none
def dW (G:Nat):Operand->Bool
 |.global g=>Nat.blt g G
 |.const v=>aZ v
 |_=>true
def wq (P:Program)(t:TypeId):Bool :=
 match P.underlying t with
 |some (.slice _)=>true
 |_=>false
def NU (P:Program)(t:TypeId):Bool :=
 match P.underlying t with
 |some (.pointer _)=>true
 |some .unsafePointer=>true
 |_=>false
def quiet (P:Program):Op->Bool
 |.alloc _=>false
 |.box _ _=>false
 |.buildSlice _ _ _=>false
 |.store _ _ _=>false
 |.makeSlice _ _ _=>false
 |.convert s d _ => !wq P s && !wq P d && !NU P s
 |.slice t _ _ _ _ => !wm P t
 |.call { callee:=.builtin .len,.. }=>true
 |.call { callee:=.builtin .cap,.. }=>true
 |.call { callee:=.builtin .min,.. }=>true
 |.call { callee:=.builtin .max,.. }=>true
 |.call _=>false
 |.makeMap _ _=>false
 |.mapUpdate _ _ _ _=>false
 |.insert _ _ _ _=>false
 |_=>true
inductive iL where
 |normal
 |exit (id:Nat)
 |ret
 |goto (l:Nat)
def wu (ops:List Oper)(f:Fr)(j:Nat):Option Bool :=
 match ops[j]? with
 |some o=>match o.dst with
  |some d=>match f.get d with
   |.bool b=>some b
   |_=>none
  |none=>none
 |none=>none
def nJ (o:Oper)(ops:List Oper)(f:Fr):Bool :=
 match o.guard with
 |none=>true
 |some (j,want)=>match wu ops f j with
  |some b=>ah b want (!want)
  |none=>false
def uh (f:Fr)(dst:Option Tmp)(r:Option (Value×Mem)):Option (Fr×Mem) :=
 match r with
 |some (v,H)=>match f.put dst v with
  |some f'=>some (f',H)
  |none=>none
 |none=>none
def iA (P:Program)(call:cH)(ops:List Oper)(o:Oper)(f:Fr)(H:Mem):Option (Fr×Mem) :=
 ah (nJ o ops f) (uh f o.dst (jt P call f.eval o H)) (uh f o.dst (some (undef,H)))
def uj (P:Program)(call:cH)(ops:List Oper)(o:Oper)(f:Fr)(H:Mem):Option (Fr×Mem) :=
 match iA P call ops o f H with
 |some r=>some r
 |none=>ah (nJ o ops f) (uh f o.dst (cE H (F7 P f.eval o))) none
def Kt (P:Program)(call:cH)(ops:List Oper)(l:List Oper):Fr->Mem->Option (Fr×Mem) :=
 List.rec (motive:=λ_=>Fr->Mem->Option (Fr×Mem)) (λf H=>some (f,H))
  (λo _ go f H=>Option.rec (motive:=λ_=>Option (Fr×Mem)) none (λr=>go r.1 r.2) (uj P call ops o f H)) l
def Uu (G:Nat)(ops:List Oper):Bool:=ops.all λo=>o.op.operands.toList.all (dW G)
def bit (m i:Nat):Bool:=Nat.beq (Nat.land (Nat.shiftRight m i) 1) 1
def tR (m i:Nat):Nat:=Nat.lor m (Nat.shiftLeft 1 i)
def kX:Op->Bool
 |.load _ _=>true
 |.call { callee:=.builtin .cap,.. }=>true
 |.lookup _ _ _ _=>true
 |_=>false
structure PO where
 o:Oper
 i:Nat
 pre:Nat
 Zr:Nat
 looks:Nat
 q:Bool
 ld:Bool
 Uv:Bool
def rJ (o:Oper):Nat:=o.after.toList.foldr (λe m=>ah (Region.binds .any e) (tR m e.on) m) 0
def uk (ops:Array Oper)(o:Oper):Nat:=(o.looksAt ops).foldr (λd m=>tR m d) 0
def tq (pre:Nat):List PO->Nat
 |[]=>pre
 |p::l=>ah (bit pre p.i) (Nat.lor p.Zr (tq pre l)) (tq pre l)
def makes (_P:Program)(o:Oper):Bool :=
 match o.op,o.guard,o.dst with
 |.alloc _,none,some _=>true
 |.buildSlice _ _ _,none,some _=>true
 |_,_,_=>false
def rC (P:Program)(ev:Operand->Value)(o:Oper):Option (TypeId×List Value×Option Nat) :=
 match o.op with
 |.alloc t=>match mc P t with
  |some z=>some (t,z.cells.toList,none)
  |none=>none
 |.buildSlice t len ps=>match P.underlying t with
  |some (.slice e)=>match cR P e,uW P e len with
   |some s,some z=>if len*s>2 ^ 24 then none else
    match Instr.fill (λi=>some (i*s,s)) z (nY ev ps) with
    |some cs=>some (e,cs.toList,some len)
    |none=>none
   |_,_=>none
  |_=>none
 |_=>none
def yx:Option Nat->Nat->Value
 |none,n=>.pointer (some ⟨n,0,none⟩)
 |some len,n=>.slice (some ⟨n,0,none⟩) len len
def tS (P:Program)(ops:Array Oper):List Oper->Nat->List PO->List PO
 |[],_,acc=>acc
 |o::l,i,acc=>tS P ops l (i+1) (⟨o,i,rJ o,tq (rJ o) acc,uk ops o,quiet P o.op,kX o.op,makes P o⟩::acc)
def tU (L:Nat)(p:PO):Bool:=ah (bit L p.i) false (Nat.beq (Nat.land p.pre L) p.pre)
def DR (x y:PO):Bool :=
 match x.o.dst,y.o.dst with
 |some d,some e => !bit y.looks d && !Nat.beq d e && !bit x.looks e
 |some d,none => !bit y.looks d
 |none,some e => !bit x.looks e
 |none,none=>true
def adi (pos:List PO)(L:Nat)(p:PO):Bool:=pos.all λr=>Nat.beq r.i p.i||bit L r.i||bit r.pre p.i||DR p r
def NV (pos:List PO)(L:Nat)(p:PO):Bool:=pos.all λr => !r.ld || !bit L r.i||bit p.Zr r.i
def Io (l:List PO):Option (PO×List PO) :=
 match l.filter (λp => !p.Uv) with
 |[p]=>some (p,l.filter λp=>p.Uv)
 |[]=>match l with
  |p::ms=>some (p,ms)
  |[]=>none
 |_=>none
def aev (pos:List PO)(p:PO)(ms:List PO):Bool :=
 ms.all λm=>DR m p&&(pos.all λr => !bit r.pre m.i||bit r.Zr p.i)&&ms.all λm'=>Nat.beq m.i m'.i||DR m m'
def vP (pos:List PO):Nat->Nat->Option (List (Oper×Bool))
 |0,L=>match pos.find? (tU L) with
  |none=>some []
  |some _=>none
 |n+1,L=>match pos.find? λp=>p.q&&tU L p with
  |some p=>ah (adi pos L p)
   (match vP pos n (tR L p.i) with
    |some l=>some ((p.o,false)::l)
    |none=>none)
   none
  |none=>match pos.filter (tU L) with
   |[]=>some []
   |q::r=>match Io (q::r) with
    |some (p,ms)=>ah (aev pos p ms)
     (match vP pos n (tR L p.i) with
      |some l=>some ((p.o,!NV pos L p)::l)
      |none=>none)
     none
    |none=>none
def Gq (ops:List Oper):Bool:=ops.all λo=>match o.op with | .select _ _=>false|_=>true
def NW (P:Program)(ops:Array Oper):Option (List (Oper×Bool)):=ah (Gq ops.toList) (vP (tS P ops ops.toList 0 []).reverse ops.toList.length 0) none
def plan (P:Program)(ops:Array Oper):Option (List (Oper×Bool)):=NW P ops
def qd (ev:Operand->Value)(o:Oper)(R:Option (List Nat)):Option (List Nat) :=
 match o.op with
 |.load _ x=>match R,ev x with
  |some l,.pointer (some ⟨b,_,_⟩)=>some (b::l)
  |_,_=>none
 |op=>ah (kX op) none R
def kJ:Op->Option Operand
 |.call { callee:=.builtin .append,args,.. }=>args[0]?
 |_=>none
def mG:Op->Option Operand
 |.store _ a _=>some a
 |_=>none
def tV (R:Option (List Nat))(s:Value):Bool :=
 match s,R with
 |.slice none _ _,_=>true
 |.slice (some ⟨b,_,_⟩) _ _,some l=>l.all λj => !Nat.beq j b
 |.pointer (some ⟨b,_,_⟩),some l=>l.all λj => !Nat.beq j b
 |_,_=>false
def iI (R:Option (List Nat))(ev:Operand->Value)(o:Oper):Bool :=
 match mG o.op with
 |some s=>tV R (ev s)
 |none=>false
def qG (P:Program)(call:cH)(ops:List Oper)(R:Option (List Nat))(lk:Bool)(o:Oper)(f:Fr)(H:Mem):Option (Fr×Mem) :=
 ah lk
  (match kJ o.op with
   |some s=>ah (tV R (f.eval s)) (iA P call ops o f H) none
   |none=>ah (iI R f.eval o) (iA P call ops o f H)
    (match iA P call ops o f { H with lk:=H.size } with
     |some (f',H')=>some (f',{ H' with lk:=H.lk })
     |none=>none))
  (iA P call ops o f H)
def yz (P:Program)(call:cH)(ops:List Oper)(l:List (Oper×Bool)):Option (List Nat)->Fr->Mem->Option (Fr×Mem) :=
 List.rec (motive:=λ_=>Option (List Nat)->Fr->Mem->Option (Fr×Mem)) (λ_ f H=>some (f,H))
  (λq _ go R f H=>Option.rec (motive:=λ_=>Option (Fr×Mem)) none (λr=>go (qd f.eval q.1 R) r.1 r.2) (qG P call ops R q.2 q.1 f H)) l
abbrev Out:=Option (iL×Fr×Mem)
def andThen (r:Out)(k:Fr->Mem->Out):Out :=
 match r with
 |some (.normal,f,H)=>k f H
 |some (.exit id,f,H)=>some (.exit id,f,H)
 |some (.ret,f,H)=>some (.ret,f,H)
 |some (.goto l,f,H)=>some (.goto l,f,H)
 |none=>none
def ni (id:Nat)(r:Out):Out :=
 match r with
 |some (.exit id',f,H)=>ah (Nat.beq id' id) (some (.normal,f,H)) (some (.exit id',f,H))
 |some (.normal,f,H)=>some (.normal,f,H)
 |some (.ret,f,H)=>some (.ret,f,H)
 |some (.goto l,f,H)=>some (.goto l,f,H)
 |none=>none
def yA (body:Fr->Mem->Out)(n:Nat):Fr->Mem->Out :=
 Nat.rec (motive:=λ_=>Fr->Mem->Out) (λ_ _=>none) (λ_ go f H=>andThen (body f H) go) n
def atEnd (r:Option (Fr×Mem)):Out:=Option.rec (motive:=λ_=>Out) none (λq=>some (.normal,q.1,q.2)) r
def qu (P:Program)(G:Nat)(call:cH)(ops:Array Oper)(draw:Bool)(f:Fr)(H:Mem):Out :=
 ah (Uu G ops.toList)
  (ah draw
   (Option.rec (motive:=λ_=>Out) none (λl=>atEnd (yz P call ops.toList l (some []) f H)) (plan P ops))
   (atEnd (Kt P call ops.toList ops.toList f H)))
  none
def DS (v:Value)(x y:Fr->Mem->Out)(f:Fr)(H:Mem):Out :=
 match v with
 |.bool b=>ah b (x f H) (y f H)
 |_=>none
abbrev um:=Code->Code->Fr->Mem->Out
def lQ (c:Code)(J:um)(r:Out):Out :=
 match r with
 |some (.goto l,f,H)=>match findLabel c l with
  |some rest=>J c rest f H
  |none=>some (.goto l,f,H)
 |some (.normal,f,H)=>some (.normal,f,H)
 |some (.exit id,f,H)=>some (.exit id,f,H)
 |some (.ret,f,H)=>some (.ret,f,H)
 |none=>none
def iB:Value:=.pointer (some ⟨0,0,some 0⟩)
def qZ (fid:FuncId):FuncId:=Nat.add 4294967296 fid
def sA (o:Oper):Bool :=
 match o.op with
 |.defer _=>false
 |_=>true
def n9 (c:Code):Bool :=
 Code.rec (motive:=λ_=>Bool) true (λ_ ops _=>ops.toList.all sA) (λ_ _ x y=>x&&y) (λ_ _ _ x y=>x&&y) (λ_ _ b=>b) (λ_ b=>b)
  (λ_ _ _ _ _ _=>false) (λ_=>true) (λ_ _=>false) (λ_=>true) (λ_=>true) true (λ_=>true) c
def rK (p:Tmp)(x y:Fr->Mem->Out)(f:Fr)(items:List Value):Mem->Out :=
 List.rec (motive:=λ_=>Mem->Out) (λH=>some (.normal,f,H))
  (λv _ go H=>match f.put (some p) v with
   |some f1=>match x f1 H with
    |some (.normal,f2,H2)=>match y f2 H2 with
     |some (.normal,_,H3)=>go H3
     |some (.ret,_,H3)=>some (.ret,f,H3)
     |_=>none
    |_=>none
   |none=>none) items
def Bb (P:Program)(G:Nat)(call:cH)(g:Operand)(ps:List Tmp)(plain:Bool)(x y:Fr->Mem->Out)(f:Fr)(H:Mem):Out :=
 ah (dW G g&&plain)
  (match ps,f.eval g with
   |[p],.func (.func fid) ta caps=>match ta.toList,caps.toList,P.funcs[qZ fid]? with
    |[],[.pointer (some ⟨i,0,none⟩)],none=>match call (qZ fid) [.pointer (some ⟨i,0,none⟩)] H with
     |some (.tuple items,H1)=>match items.toList with
      |_::l=>rK p x y f l H1
      |[]=>none
     |_=>none
    |_,_,_=>none
   |_,_=>none) none
def jQ (P:Program)(G:Nat)(call:cH)(jump:um)(rounds:Nat)(c:Code):Fr->Mem->Out :=
 Code.rec (motive:=λ_=>Fr->Mem->Out)
  (λf H=>some (.normal,f,H))
  (λ_ ops draw=>qu P G call ops draw)
  (λ_ _ x y f H=>andThen (x f H) y)
  (λc _ _ x y f H=>ah (dW G c) (DS (f.eval c) x y f H) none)
  (λid _ b f H=>ni id (b f H))
  (λ_ b=>yA b rounds)
  (λg ps a b x y=>Bb P G call g ps.toList (n9 a&&n9 b) x y)
  (λid f H=>some (.exit id,f,H))
  (λc b f H=>lQ c jump (b f H))
  (λ_ f H=>some (.normal,f,H))
  (λl f H=>some (.goto l,f,H))
  (λf H=>some (.ret,f,H))
  (λ_ _ _=>none) c
def uZ (P:Program)(G:Nat)(call:cH)(rounds:Nat)(n:Nat):um :=
 Nat.rec (motive:=λ_=>um) (λ_ _ _ _=>none)
  (λ_ go c rest f H=>lQ c go (jQ P G call go rounds rest f H)) n
def zK (P:Program)(H:Mem)(f:Fr):ResultVar->Option Value
 |.tmp t=>some (f.get t)
 |.cell x t=>rB P H t (f.get x)
def ko (P:Program)(H:Mem)(f:Fr):List ResultVar->Option (List Value)
 |[]=>some []
 |r::l=>match zK P H f r,ko P H f l with
  |some v,some vs=>some (v::vs)
  |_,_=>none
def wz:List Value->Value
 |[v]=>v
 |l=>.tuple l.toArray
def Df (P:Program)(fn:Func)(r:Out):Option (Value×Mem) :=
 match r with
 |some (.normal,f,H)=>cE H ((ko P H f fn.results.toList).map wz)
 |some (.ret,f,H)=>cE H ((ko P H f fn.results.toList).map wz)
 |_=>none
abbrev fe:=FuncId->List Value->Option Value
def lR (P:Program)(G:Nat)(call:cH)(rounds:Nat)(id:FuncId)(args:List Value)(H:Mem):Option (Value×Mem) :=
 match P.funcs[id]? with
 |some fn=>match fn.body with
  |some c=>match (Fr.mk fn.ntmps (Tr.full (xQ fn.ntmps))).fill 0 args with
   |some f0=>ah (Nat.ble args.length fn.ntmps) (Df P fn (jQ P G call (uZ P G call rounds rounds) rounds c f0 H)) none
   |none=>none
  |none=>none
 |none=>none
def Ku:Value->Bool
 |.int .u8 _=>true
 |_=>false
def pM:List Value:=[.pointer (some ⟨0,0,none⟩)]
def Ip (P:Program)(t:TypeId):Bool :=
 match P.underlying t,mc P t,cR P t with
 |some (.int .u8),some (.int .u8 (.ofNat 0)),some 1=>true
 |_,_,_=>false
def oL (P:Program)(K:fe)(id:FuncId)(args:List Value)(H:Mem):Option (Value×Mem) :=
 match args with
 |[.slice (some ⟨i,0,none⟩) n c]=>match K id pM,alive H i with
  |some u,some b=>ah (aZ u&&Nat.ble n c&&Nat.beq b.cells.length c&&Nat.ble c 2000000&&b.cells.all Ku&&Ip P b.elem)
   (match kill H i with
    |some H'=>some (u,H')
    |none=>none) none
  |_,_=>none
 |_=>none
def nK (a b:Option (Value×Mem)):Option (Value×Mem) :=
 match a with
 |some r=>some r
 |none=>b
def yR (P:Program)(K:fe)(id:FuncId)(args:List Value)(H:Mem):Option (Value×Mem) :=
 match args with
 |[.pointer (some ⟨i,0,none⟩)]=>match P.funcs[id]? with
  |none=>match alive H i with
   |some b=>match b.cells with
    |[.string s]=>match K id [iB,.string s] with
     |some (.tuple items)=>ah (cG items.toList)
      (match kill H i with
       |some H'=>some (.tuple (iB::items.toList).toArray,H')
       |none=>none) none
     |_=>none
    |_=>none
   |none=>none
  |some _=>none
 |_=>none
def nR (P:Program)(G:Nat)(K:fe)(rounds:Nat)(n:Nat):cH :=
 Nat.rec (motive:=λ_=>cH) (λ_ _ _=>none)
  (λ_ go id args H=>Option.rec (motive:=λ_=>Option (Value×Mem)) (nK (oL P K id args H) (nK (lR P G go rounds id args H) (yR P K id args H)))
   (λv=>ah (cG args&&aZ v) (some (v,H)) none) (K id args)) n
def qv:fe:=λ_ _=>none
def Mem.u7 (H:Mem)(l:List jJ):Option Mem :=
 match l with
 |[]=>some ⟨H.size,H.size,H.t⟩
 |b::l=>match H.push b with
  |some H'=>H'.u7 l
  |none=>none
def Iq (P:Program)(K:fe)(rows:List jJ)(rounds depth:Nat)(f:FuncId)(args:List Value):Option Value :=
 match Mem.u7 Mem.empty rows with
 |some H=>match nR P rows.length K rounds depth f args H with
  |some (v,_)=>ah (aZ v&&cG args&&rows.all λb=>cG b.cells && !iS b) (some v) none
  |none=>none
 |none=>none
end
end Go.Ev
namespace Go.Ev
open Go.RowKit
abbrev Ren:=Nat->Option (Nat×Nat)
def Ren.le (ρ ρ':Ren):Prop:=∀i x,ρ i=some x->ρ' i=some x
theorem Ren.le_refl (ρ:Ren):ρ.le ρ:=λ_ _ h=>h
theorem Ren.le_trans {a b c:Ren}(h:a.le b)(k:b.le c):a.le c:=λi x hx=>k i x (h i x hx)
def Ir (m:Nat):Prop:=(Ieee.double.read m).isNaN=true
def NF:Option Nat->Nat->Prop
 |some n,x=>x=n
 |none,x=>Ir x
def vd:Value:=.slice (some ⟨0,0,some 0⟩) 0 0
inductive bG (ρ:Ren):Value->Value->Prop where
 |void (a):bG ρ vd (.slice (some a) 0 0)
 |R7 (k n):bG ρ (.chan none) (.int k n)
 |nan (m) (h:Ir m):bG ρ (.chan (some 1)) (.float .f64 m)
 |cpx (k x y) (hx:NF (uY (vO k k).1) x) (hy:NF (uY (vO k k).2) y):bG ρ (.chan (some (k+2))) (.complex .f64 x y)
 |bool (b):bG ρ (.bool b) (.bool b)
 |int (k n):bG ρ (.int k n) (.int k n)
 |float (k n):bG ρ (.float k n) (.float k n)
 |complex (k a b):bG ρ (.complex k a b) (.complex k a b)
 |string (s):bG ρ (.string s) (.string s)
 |wA:bG ρ (.pointer none) (.pointer none)
 |ptr (i off r x) (h:ρ i=some (r,x)):bG ρ (.pointer (some ⟨i,off,none⟩)) (.pointer (some ⟨r,off,none⟩))
 |me (l c):bG ρ (.slice none l c) (.slice none l c)
 |slice (i off l c r x) (h:ρ i=some (r,x)):bG ρ (.slice (some ⟨i,off,none⟩) l c) (.slice (some ⟨r,off,none⟩) l (c+x))
 |DT:bG ρ (.map none) (.map none)
 |map (i r x) (h:ρ i=some (r,x)):bG ρ (.map (some i)) (.map (some r))
 |nilFunc:bG ρ .nilFunc .nilFunc
 |nilIface:bG ρ .nilIface .nilIface
 |iface (t v v') (h:bG ρ v v'):bG ρ (.iface t v) (.iface t v')
 |func (fn) (a a' b b':Array Value) (sa:a.size=a'.size) (ha:∀(i:Nat) x y,a[i]? = some x->a'[i]? = some y->bG ρ x y)
  (sb:b.size=b'.size) (hb:∀(i:Nat) x y,b[i]? = some x->b'[i]? = some y->bG ρ x y):bG ρ (.func fn a b) (.func fn a' b')
 |agg (a a':Array Value) (sa:a.size=a'.size) (ha:∀(i:Nat) x y,a[i]? = some x->a'[i]? = some y->bG ρ x y):bG ρ (.agg a) (.agg a')
 |tuple (a a':Array Value) (sa:a.size=a'.size) (ha:∀(i:Nat) x y,a[i]? = some x->a'[i]? = some y->bG ρ x y):bG ρ (.tuple a) (.tuple a')
theorem bG.mono {ρ ρ':Ren}(hle:ρ.le ρ'){v v':Value}(h:bG ρ v v'):bG ρ' v v':=by
 induction h with
 |R7=>exact .R7 _ _
 |nan m h=>exact .nan m h
 |cpx k x y hx hy=>exact .cpx k x y hx hy
 |bool=>exact .bool _
 |int=>exact .int _ _
 |float=>exact .float _ _
 |complex=>exact .complex _ _ _
 |string=>exact .string _
 |wA=>exact .wA
 |ptr i off r x h=>exact .ptr i off r x (hle _ _ h)
 |me=>exact .me _ _
 |void a=>exact .void a
 |slice i off l c r x h=>exact .slice i off l c r x (hle _ _ h)
 |DT=>exact .DT
 |map i r x h=>exact .map i r x (hle _ _ h)
 |nilFunc=>exact .nilFunc
 |nilIface=>exact .nilIface
 |iface t v v' _ ih=>exact .iface t v v' ih
 |func fn a a' b b' sa _ sb _ Uw Ux=>exact .func fn a a' b b' sa (λi x y hx hy=>Uw i x y hx hy) sb (λi x y hx hy=>Ux i x y hx hy)
 |agg a a' sa _ ih=>exact .agg a a' sa (λi x y hx hy=>ih i x y hx hy)
 |tuple a a' sa _ ih=>exact .tuple a a' sa (λi x y hx hy=>ih i x y hx hy)
def LR (R:Value->Value->Prop)(l l':List Value):Prop:=l.length=l'.length/\∀(i:Nat) x y,l[i]? = some x->l'[i]? = some y->R x y
def AR (R:Value->Value->Prop)(a a':Array Value):Prop:=a.size=a'.size/\∀(i:Nat) x y,a[i]? = some x->a'[i]? = some y->R x y
theorem AR.list {R:Value->Value->Prop}{a a':Array Value}(h:AR R a a'):LR R a.toList a'.toList :=
 ⟨by simpa using h.1,λi x y hx hy=>h.2 i x y (by simpa using hx) (by simpa using hy)⟩
theorem LR.array {R:Value->Value->Prop}{l l':List Value}(h:LR R l l'):AR R l.toArray l'.toArray :=
 ⟨by simpa using h.1,λi x y hx hy=>h.2 i x y (by simpa using hx) (by simpa using hy)⟩
theorem LR.of_array {R:Value->Value->Prop}{a a':Array Value}(h:LR R a.toList a'.toList):AR R a a' :=
 ⟨by simpa using h.1,λi x y hx hy=>h.2 i x y (by simpa using hx) (by simpa using hy)⟩
theorem LR.nil {R:Value->Value->Prop}:LR R [] []:=⟨rfl,λi x y hx=>by simp at hx⟩
theorem LR.cons {R:Value->Value->Prop}{v v':Value}{l l':List Value}(hv:R v v')(h:LR R l l'):LR R (v::l) (v'::l') :=
 ⟨by simp[h.1],λi x y hx hy=>by
  cases i with
  |zero=>simp at hx hy;subst hx hy;exact hv
  |succ i=>exact h.2 i x y (by simpa using hx) (by simpa using hy)⟩
theorem LR.wB {R:Value->Value->Prop}{v:Value}{l l':List Value}(h:LR R (v::l) l'):∃v' t',l'=v'::t'/\R v v'/\LR R l t':=by
 cases l' with
 |nil=>have:=h.1;simp at this
 |cons v' t'=>exact⟨v',t',rfl,h.2 0 v v' rfl rfl,by have:=h.1;simpa using this,λi x y hx hy=>h.2 (i+1) x y (by simpa using hx) (by simpa using hy)⟩
theorem LR.Gr {R:Value->Value->Prop}{l':List Value}(h:LR R [] l'):l'=[]:=by
 have:=h.1;simpa using this.symm
theorem LR.append {R:Value->Value->Prop}{a a' b b':List Value}(h:LR R a a')(k:LR R b b'):LR R (a++b) (a'++b') :=
 ⟨by simp[h.1,k.1],λi x y hx hy=>by
  rw[List.getElem?_append]at hx hy;by_cases hi:i<a.length
  .rw[ag hi]at hx;rw[ag (h.1 ▸ hi)]at hy;exact h.2 i x y hx hy
  rw[aa hi]at hx;rw[aa (h.1 ▸ hi)]at hy;exact k.2 _ x y hx (by rw[h.1];exact hy)⟩
theorem LR.get {R:Value->Value->Prop}{a a':List Value}(h:LR R a a'){i:Nat}{x:Value}(hx:a[i]? = some x):∃y,a'[i]? = some y/\R x y:=by
 have hlt:i<a.length:=(bx.1 hx).1;have hlt':i<a'.length:=h.1 ▸ hlt;exact⟨a'[i],by simp[hlt'],h.2 i x _ hx (by simp[hlt'])⟩
theorem LR.set {R:Value->Value->Prop}{a a':List Value}(h:LR R a a')(i:Nat){v v':Value}(hv:R v v'):LR R (a.set i v) (a'.set i v') :=
 ⟨by simp[h.1],λj x y hx hy=>by
  rw[mZ]at hx hy;by_cases hij:i=j
  .rw[ag hij]at hx hy;by_cases hl:i<a.length
   .have hl':i<a'.length:=h.1 ▸ hl;rw[ag (hij ▸ hl)]at hx;rw[ag (hij ▸ hl')]at hy;cases hx;cases hy;exact hv
   rw[aa (hij ▸ hl)]at hx;cases hx
  rw[aa hij]at hx hy;exact h.2 j x y hx hy⟩
theorem LR.mono {R R':Value->Value->Prop}(hr:∀x y,R x y->R' x y){a a':List Value}(h:LR R a a'):LR R' a a':=⟨h.1,λi x y hx hy=>hr _ _ (h.2 i x y hx hy)⟩
theorem AR.mono {R R':Value->Value->Prop}(hr:∀x y,R x y->R' x y){a a':Array Value}(h:AR R a a'):AR R' a a':=⟨h.1,λi x y hx hy=>hr _ _ (h.2 i x y hx hy)⟩
mutual
theorem dB {ρ:Ren}:∀v,aZ v=true->bG ρ v v
 |.bool _,_=>.bool _
 |.int _ _,_=>.int _ _
 |.float _ _,_=>.float _ _
 |.complex _ _ _,_=>.complex _ _ _
 |.string _,_=>.string _
 |.pointer none,_=>.wA
 |.pointer (some _),h=>by simp[aZ]at h
 |.slice none _ _,_=>.me _ _
 |.slice (some _) _ _,h=>by simp[aZ]at h
 |.map none,_=>.DT
 |.map (some _),h=>by simp[aZ]at h
 |.chan _,h=>by simp[aZ]at h
 |.func fn a b,h=>by
  simp only[aZ,ak]at h;exact .func fn a a b b rfl (qw a h.1) rfl (qw b h.2)
 |.nilFunc,_=>.nilFunc
 |.iface t v,h=>.iface t v v (dB v (by simpa[aZ] using h))
 |.nilIface,_=>.nilIface
 |.agg cs,h=>.agg cs cs rfl (qw cs (by simpa[aZ] using h))
 |.tuple cs,h=>.tuple cs cs rfl (qw cs (by simpa[aZ] using h))
theorem qw {ρ:Ren}:∀a:Array Value,mF a=true->∀(i:Nat) x y,a[i]? = some x->a[i]? = some y->bG ρ x y
 |⟨l⟩,h,i,x,y,hx,hy=>tW l (by simpa[mF] using h) i x y (by simpa using hx) (by simpa using hy)
theorem tW {ρ:Ren}:∀l:List Value,cG l=true->∀(i:Nat) x y,l[i]? = some x->l[i]? = some y->bG ρ x y
 |[],_,i,x,y,hx,_=>by simp at hx
 |v::l,h,0,x,y,hx,hy=>by
  simp only[cG,ak]at h;simp at hx hy;subst hx hy;exact dB v h.1
 |v::l,h,i+1,x,y,hx,hy=>by
  simp only[cG,ak]at h;exact tW l h.2 i x y (by simpa using hx) (by simpa using hy)
end
theorem oW:∀{l:List Value},cG l=true->∀{i:Nat} {x:Value},l[i]? = some x->aZ x=true
 |[],_,i,x,hx=>by simp at hx
 |v::l,h,0,x,hx=>by
  simp only[cG,ak]at h;simp at hx;subst hx;exact h.1
 |v::l,h,i+1,x,hx=>by
  simp only[cG,ak]at h;exact oW h.2 (by simpa using hx)
theorem xS {a:Array Value}(h:mF a=true){i:Nat}{x:Value}(hx:a[i]? = some x):aZ x=true:=by
 cases a with
 |mk l=>exact oW (l:=l) (by simpa[mF] using h) (by simpa using hx)
theorem Iu {a a':Array Value}(hs:a.size=a'.size)(h:∀(i:Nat) x y,a[i]? = some x->a'[i]? = some y->y=x):a'=a:=by
 apply mH;intro i;by_cases hi:i<a.size
 .have hi':i<a'.size:=hs ▸ hi;rw[bN hi,bN hi'];exact cr some (h i _ _ (bN hi) (bN hi'))
 rw[eR (eZ hi),eR (eZ (hs ▸ hi))]
theorem lS {ρ:Ren}{v v':Value}(h:bG ρ v v')(hf:aZ v=true):v'=v:=by
 induction h with
 |R7=>simp[aZ]at hf
 |nan=>simp[aZ]at hf
 |cpx=>simp[aZ]at hf
 |ptr=>simp[aZ]at hf
 |slice=>simp[aZ]at hf
 |void=>simp[vd,aZ]at hf
 |map=>simp[aZ]at hf
 |iface t v v' _ ih=>rw[ih (by simpa[aZ] using hf)]
 |func fn a a' b b' sa _ sb _ Uw Ux =>
  simp only[aZ,ak]at hf;rw[Iu sa (λi x y hx hy=>Uw i x y hx hy (xS hf.1 hx)),Iu sb (λi x y hx hy=>Ux i x y hx hy (xS hf.2 hx))]
 |agg a a' sa _ ih =>
  simp only[aZ]at hf;rw[Iu sa (λi x y hx hy=>ih i x y hx hy (xS hf hx))]
 |tuple a a' sa _ ih =>
  simp only[aZ]at hf;rw[Iu sa (λi x y hx hy=>ih i x y hx hy (xS hf hx))]
 |_=>rfl
theorem bG.undef {ρ:Ren}:bG ρ Go.undef Go.undef:=.tuple _ _ rfl (λi x y hx=>by simp at hx)
theorem bG.cells {ρ:Ren}{v v':Value}(h:bG ρ v v'):AR (bG ρ) v.cells v'.cells:=by
 have one:∀{v v':Value},bG ρ v v'->AR (bG ρ) #[v] #[v']:=λh=>⟨rfl,λi x y hx hy=>by
  cases i with
  |zero=>simp at hx hy;subst hx hy;exact h
  |succ i=>simp at hx⟩
 cases h with
 |agg a a' sa ha=>exact⟨sa,ha⟩
 |R7=>exact one (.R7 _ _)
 |nan m h=>exact one (.nan m h)
 |cpx k x y hx hy=>exact one (.cpx k x y hx hy)
 |bool=>exact one (.bool _)
 |int=>exact one (.int _ _)
 |float=>exact one (.float _ _)
 |complex=>exact one (.complex _ _ _)
 |string=>exact one (.string _)
 |wA=>exact one .wA
 |ptr i off r x h=>exact one (.ptr i off r x h)
 |me=>exact one (.me _ _)
 |void a=>exact one (.void a)
 |slice i off l c r x h=>exact one (.slice i off l c r x h)
 |DT=>exact one .DT
 |map i r x h=>exact one (.map i r x h)
 |nilFunc=>exact one .nilFunc
 |nilIface=>exact one .nilIface
 |iface t v v' h=>exact one (.iface t v v' h)
 |func fn a a' b b' sa ha sb hb=>exact one (.func fn a a' b b' sa ha sb hb)
 |tuple a a' sa ha=>exact one (.tuple a a' sa ha)
theorem bG.plain {ρ:Ren}{v v':Value}(h:bG ρ v v')(hp:plainCell v=true):v'.oneCell'=true:=by
 cases h<;>first|rfl|(simp[plainCell]at hp)
def oa (R:Value->Value->Prop)(l:List Value)(C:Array Value):Prop:=l.length<=C.size/\∀(j:Nat) v,l[j]? = some v->pI v=false->∃v',C[j]? = some v'/\R v v'
def qH (C:Array Value)(fr:Nat×Nat):Prop:=fr.1<=fr.2/\∀j,j<C.size->¬(fr.1<=j/\j<fr.2)
theorem lU {α:Type}(x y:α):ah true x y=x:=rfl
theorem Kv {α:Type}(x y:α):ah false x y=y:=rfl
theorem ax {α:Type}(b:Bool)(x y:α):ah b x y=if b then x else y:=by cases b<;>rfl
theorem Tr.wC {α:Type}(l:Tr α)(v:Option α)(r:Tr α)(k:Nat):(Tr.n l v r).get k=if k=0 then v else if k%2=1 then l.get (k/2) else r.get (k/2-1):=by
 show ah (Nat.beq k 0) v (ah (Nat.beq (k%2) 1) (l.get (k/2)) (r.get (k/2-1)))=_;rw[ax,ax];simp only[aO]
theorem Tr.adj {α:Type}(l:Tr α)(v:Option α)(r:Tr α)(k:Nat)(x:α):(Tr.n l v r).set k x=if k=0 then some (.n l (some x) r) else if k%2=1 then (l.set (k/2) x).map (λl'=>.n l' v r) else (r.set (k/2-1) x).map (λr'=>.n l v r'):=by
 show ah (Nat.beq k 0) (some (Tr.n l (some x) r)) (ah (Nat.beq (k%2) 1) (Option.rec (motive:=λ_=>Option (Tr α)) none (λl'=>some (Tr.n l' v r)) (l.set (k/2) x)) (Option.rec (motive:=λ_=>Option (Tr α)) none (λr'=>some (Tr.n l v r')) (r.set (k/2-1) x)))=_;rw[ax,ax];simp only[aO];cases l.set (k/2) x<;>cases r.set (k/2-1) x<;>rfl
theorem Tr.Kw {α:Type}(j:Nat):(Tr.e:Tr α).get j=none:=rfl
theorem Tr.Iw {α:Type}{x:α}:∀(d k:Nat),k<=d->∀j,(Tr.mk1 x d k).get j=if j=k then some x else none
 |0,k,hk,j=>by
  obtain rfl:k=0:=by omega
  show (Tr.n .e (some x) .e).get j=_;rw[Tr.wC];simp only[Tr.Kw];split<;>simp_all
 |d+1,k,hk,j=>by
  show (ah (Nat.beq k 0) (Tr.n .e (some x) .e) (ah (Nat.beq (k%2) 1) (.n (Tr.mk1 x d (k/2)) none .e) (.n .e none (Tr.mk1 x d (k/2-1))))).get j=_;rw[ax,ax];simp only[aO];by_cases h0:k=0
  .rw[ag h0,Tr.wC];simp only[Tr.Kw];subst h0;split<;>simp_all
  rw[aa h0];by_cases h1:k%2=1
  .rw[ag h1,Tr.wC,Tr.Iw d (k/2) (by omega)];simp only[Tr.Kw];by_cases hj:j=0
   .rw[ag hj,aa (by omega)]
   rw[aa hj];by_cases NX:j%2=1
   .rw[ag NX];by_cases Iy:j/2=k/2
    .rw[ag Iy,ag (by omega)]
    rw[aa Iy,aa (by omega)]
   rw[aa NX,aa (by omega)]
  rw[aa h1,Tr.wC,Tr.Iw d (k/2-1) (by omega)];simp only[Tr.Kw];by_cases hj:j=0
  .rw[ag hj,aa (by omega)]
  rw[aa hj];by_cases NX:j%2=1
  .rw[ag NX,aa (by omega)]
  rw[aa NX];by_cases Iy:j/2-1=k/2-1
  .rw[ag Iy,ag (by omega)]
  rw[aa Iy,aa (by omega)]
theorem Tr.jc {α:Type}(x:α):∀(t:Tr α) (k:Nat),∃t',t.set k x=some t':=by
 intro t;induction t with
 |e=>exact λk=>⟨_,rfl⟩
 |n l v r ihl ihr =>
  intro k;rw[Tr.adj];obtain⟨l',hl⟩:=ihl (k/2);obtain⟨r',hr⟩:=ihr (k/2-1);rw[hl,hr];split
  .exact ⟨_,rfl⟩
  split<;>exact⟨_,rfl⟩
theorem Tr.xT {α:Type}{x:α}:∀{t t':Tr α} {k:Nat},t.set k x=some t'->∀j,t'.get j=if j=k then some x else t.get j:=by
 intro t;induction t with
 |e =>
  intro t' k h j;have h':some (Tr.mk1 x k k)=some t':=h;cases h';exact Tr.Iw k k (aC k) j
 |n l v r ihl ihr =>
  intro t' k h j;rw[Tr.adj]at h;by_cases hk:k=0
  .rw[ag hk]at h;cases h;rw[Tr.wC,Tr.wC,hk];by_cases hj:j=0<;>simp[hj]
  rw[aa hk]at h;by_cases hm:k%2=1
  .rw[ag hm]at h;simp only[aL]at h;obtain⟨l',hl,rfl⟩:=h;rw[Tr.wC,Tr.wC];by_cases hj:j=0
   .rw[ag hj,ag hj,aa (by omega)]
   rw[aa hj,aa hj];by_cases NX:j%2=1
   .rw[ag NX,ag NX,ihl hl];by_cases Iy:j/2=k/2
    .rw[ag Iy,ag (by omega)]
    rw[aa Iy,aa (by omega)]
   rw[aa NX,aa NX,aa (by omega)]
  rw[aa hm]at h;simp only[aL]at h;obtain⟨r',hr,rfl⟩:=h;rw[Tr.wC,Tr.wC];by_cases hj:j=0
  .rw[ag hj,ag hj,aa (by omega)]
  rw[aa hj,aa hj];by_cases NX:j%2=1
  .rw[ag NX,ag NX,aa (by omega)]
  rw[aa NX,aa NX,ihr hr];by_cases Iy:j/2-1=k/2-1
  .rw[ag Iy,ag (by omega)]
  rw[aa Iy,aa (by omega)]
theorem nj (i n:Nat):Nat.ble (Nat.succ i) n=decide (i<n):=by
 rw[bO];simp[bu];omega
theorem zL (i n:Nat):Nat.ble i n=decide (i<=n):=by
 rw[bO];simp[bu]
theorem Mem.get_eq (H:Mem)(i:Nat):H.get i=if i<H.size then H.t.get i else none:=by
 unfold Mem.get;rw[ax,nj];simp
theorem Mem.eL {H:Mem}{i:Nat}{b:jJ}(h:H.get i=some b):i<H.size:=by
 rw[Mem.get_eq]at h;split at h
 .assumption
 cases h
theorem Mem.dN {H H':Mem}{b:jJ}(h:H.push b=some H'):H'.size=H.size+1/\H'.lk=H.lk/\∀i,H'.get i=if i=H.size then some b else H.get i:=by
 unfold Mem.push at h;cases hs:H.t.set H.size b with
 |none=>rw[hs]at h;cases h
 |some t =>
  rw[hs]at h;have h':some (Mem.mk (H.size+1) H.lk t)=some H':=h;cases h';refine⟨rfl,rfl,λi=>?_⟩;rw[Mem.get_eq,Mem.get_eq];simp only[Tr.xT hs];by_cases h1:i=H.size
  .subst h1;simp
  rw[aa h1,aa h1];by_cases h2:i<H.size
  .rw[ag h2,ag (by omega)]
  rw[aa h2,aa (by omega)]
theorem Mem.kY {H H':Mem}{i:Nat}{b:jJ}(h:H.set i b=some H'):i<H.size/\H.lk<=i/\H'.size=H.size/\H'.lk=H.lk/\∀j,H'.get j=if j=i then some b else H.get j:=by
 unfold Mem.set at h;rw[ax,ax,nj,zL]at h;split at h
 .rename_i hi;simp only[aV]at hi;split at h
  .rename_i hl;simp only[aV]at hl;cases hs:H.t.set i b with
   |none=>rw[hs]at h;cases h
   |some t =>
    rw[hs]at h;have h':some (Mem.mk H.size H.lk t)=some H':=h;cases h';refine⟨hi,hl,rfl,rfl,λj=>?_⟩;rw[Mem.get_eq,Mem.get_eq];simp only[Tr.xT hs];by_cases h1:j=i
    .subst h1;rw[ag rfl,ag rfl,ag hi]
    rw[aa h1,aa h1]
  cases h
 cases h
structure Cx where
 P:Program
 B:Nat
 L:Nat
 G:Nat
 w0:World
 K:Nat->Option Obj
def Cx.own (c:Cx)(r:Nat):Prop:=c.B<=r/\c.K r=none
structure yj (c:Cx)(w:World):Prop where
 below:Below c.B c.w0 w
 kept:∀r o,c.K r=some o->w.heap[r]? = some o
theorem yj.drew {c:Cx}{w:World}(h:yj c w):yj c w.drew:=⟨h.below.drew,h.kept⟩
theorem yj.grow {c:Cx}{w w':World}(h:yj c w)(hb:c.B<=w.heap.size)(hw:Below w.heap.size w w'):yj c w' :=
 ⟨h.below.trans (hw.mono hb),λr o hr=>by
  have h1:=h.kept r o hr;rw[hw.block r (aB.1 h1).1];exact h1⟩
theorem yj.alloc {c:Cx}{w:World}(h:yj c w)(hb:c.B<=w.heap.size)(o:Obj):yj c (w.alloc o):=h.grow hb ((Below.refl _ _).alloc (aC _) _)
theorem yj.Kx {c:Cx}{w w':World}(h:yj c w){r:Nat}(hr:c.own r)(hb:Below c.B w w')(hh:∀k,k≠r->w'.heap[k]? = w.heap[k]?):yj c w' :=
 ⟨h.below.trans hb,λk o hk=>by
  rw[hh k (λe=>by subst e;rw[hr.2]at hk;cases hk)];exact h.kept k o hk⟩
theorem yj.fresh {c:Cx}{w:World}(h:yj c w)(hb:c.B<=w.heap.size):c.own w.heap.size :=
 ⟨hb,by
  cases hk:c.K w.heap.size with
  |none=>rfl
  |some o=>have:=h.kept _ _ hk;simp at this⟩
structure DU (P:Program)(t:TypeId)(n:Nat)(C:Array Value):Prop where
 zero:∀(j:Nat) (v:Value),n<=j->C[j]? = some v->(∃z,mc P t=some z/\v∈z.cells.toList)\/(P.underlying t=some (.int .u8)/\v = .int .u8 0)
 room:C.size<=n\/(∀s,cR P t=some s->C.size<9223372036854775808*s)\/9223372036854775808<=n
theorem DU.full {P:Program}{t:TypeId}{n:Nat}{C:Array Value}(h:C.size<=n):DU P t n C:=⟨λj v hj hv=>by
 have:=(aB.1 hv).1;omega,.inl h⟩
def adk (c:Cx)(ρ:Ren)(w:World)(i:Nat)(b:jJ):Prop :=
 ∃r x C fr s,ρ i=some (r,x)/\((i<c.L/\c.K r=none)\/c.own r)/\w.heap[r]? = some (.cells C b.elem fr)/\(i<c.L\/qH C fr)/\((i<c.L\/cR c.P b.elem=some s)/\(b.fix=true->x=0))/\C.size=b.cells.length+x*s/\oa (bG ρ) b.cells C/\(i<c.L\/DU c.P b.elem b.cells.length C)
def turns (es:List MapEntry):List Value:=es.flatMap λe=>[e.key,e.val]
def Cn (c:Cx)(ρ:Ren)(w:World)(i:Nat)(b:jJ):Prop :=
 ∃r es clock,ρ i=some (r,0)/\c.own r/\w.heap[r]? = some (.map es clock)/\LR (bG ρ) b.cells (turns es.toList)
structure ef (c:Cx)(ρ:Ren)(H:Mem)(w:World):Prop where
 stay:yj c w
 base:c.B<=w.heap.size
 dom:∀i x,ρ i=some x->i<H.size
 lk:c.L<=H.lk
 zF:c.L<=H.size
 ju:∀g,g<c.G->ρ g=some (g,0)
 blk:∀i b,H.get i=some b->b.live=true->adk c ρ w i b
 inj:∀i j bi bj r x y,H.get i=some bi->bi.live=true->H.get j=some bj->bj.live=true->ρ i=some (r,x)->ρ j=some (r,y)->i=j
 maps:∀i b,H.get i=some b->iS b=true->Cn c ρ w i b
 vX:∀i j bi bj r x y,H.get i=some bi->iS bi=true->H.get j=some bj->iS bj=true->ρ i=some (r,x)->ρ j=some (r,y)->i=j
theorem ef.below {c:Cx}{ρ:Ren}{H:Mem}{w:World}(h:ef c ρ H w):Below c.B c.w0 w:=h.stay.below
theorem Qm {b:jJ}(h:b.live=true):iS b=false:=by unfold iS;rw[h]
theorem Cn.mono {c:Cx}{ρ ρ':Ren}{w:World}{i:Nat}{b:jJ}(hle:ρ.le ρ')(h:Cn c ρ w i b):Cn c ρ' w i b:=by
 obtain⟨r,es,clock,h1,h2,h3,h4⟩:=h;exact⟨r,es,clock,hle _ _ h1,h2,h3,h4.mono λ_ _=>bG.mono hle⟩
theorem Cn.heap {c:Cx}{ρ:Ren}{w w':World}{i:Nat}{b:jJ}(h:Cn c ρ w i b)(hh:∀(r:Nat) (es:Array MapEntry) (clock:Nat),w.heap[r]? = some (Obj.map es clock)->w'.heap[r]? = some (Obj.map es clock)):Cn c ρ w' i b:=by
 obtain⟨r,es,clock,h1,h2,h3,h4⟩:=h;exact⟨r,es,clock,h1,h2,hh _ _ _ h3,h4⟩
theorem dF {H:Mem}{i:Nat}{b:jJ}(h:alive H i=some b):H.get i=some b/\b.live=true:=by
 unfold alive at h;split at h
 .rename_i b' hb';cases hl:b'.live with
  |true=>rw[hl]at h;cases h;exact⟨hb',hl⟩
  |false=>rw[hl]at h;cases h
 cases h
section
variable {c:Cx} {w:World} {ρ:Ren} {H:Mem}
theorem ef.drew (h:ef c ρ H w):ef c ρ H w.drew:=⟨h.stay.drew,h.base,h.dom,h.lk,h.zF,h.ju,h.blk,h.inj,h.maps,h.vX⟩
theorem ef.grow {w':World}(h:ef c ρ H w)(hb:Below w.heap.size w w'):ef c ρ H w':=by
 refine⟨h.stay.grow h.base hb,br h.base hb.size,h.dom,h.lk,h.zF,h.ju,λi b hi hl=>?_,h.inj,λi b hi hm=>(h.maps i b hi hm).heap λr es clock hh=>by rw[hb.block r (aB.1 hh).1];exact hh,h.vX⟩;obtain⟨r,x,C,fr,s,h1,h2,h3,h4⟩:=h.blk i b hi hl;have hr:r<w.heap.size:=(aB.1 h3).1;exact⟨r,x,C,fr,s,h1,h2,by rw[hb.block r hr];exact h3,h4⟩
theorem oa.mono {R R':Value->Value->Prop}(hr:∀x y,R x y->R' x y){l:List Value}{C:Array Value}(h:oa R l C):oa R' l C :=
 ⟨h.1,λj v hv hj=>let ⟨v',h1,h2⟩:=h.2 j v hv hj;⟨v',h1,hr _ _ h2⟩⟩
def Ren.put (ρ:Ren)(i:Nat)(x:Nat×Nat):Ren:=λj=>if j=i then some x else ρ j
theorem Ren.mg (ρ:Ren)(i:Nat)(x:Nat×Nat):ρ.put i x i=some x:=by simp[Ren.put]
theorem Ren.nL (ρ:Ren){i j:Nat}(x:Nat×Nat)(h:j≠i):ρ.put i x j=ρ j:=by simp[Ren.put,h]
theorem ef.unused (h:ef c ρ H w){i:Nat}(hi:H.size<=i):ρ i=Option.none:=by
 cases hx:ρ i with
 |none=>rfl
 |some x=>have:=h.dom i x hx;omega
theorem ef.wD (h:ef c ρ H w){i:Nat}(hi:H.size<=i)(x:Nat×Nat):ρ.le (ρ.put i x):=by
 intro j y hy;have:j≠i:=by intro e;subst e;rw[h.unused hi]at hy;cases hy
 rw[Ren.nL ρ x this];exact hy
theorem ef.add {w':World}{H':Mem}(h:ef c ρ H w){t:TypeId}{cs:List Value}{C:Array Value}{fr:Nat×Nat}{r x s:Nat}{fx:Bool}(hp:H.push ⟨cs,t,true,fx⟩=some H')
 (aex:yj c w') (hbase:c.B<=w'.heap.size) (hold:∀(i:Nat) (b:jJ),H.get i=some b->b.live=true->adk c ρ w' i b) (hmap:∀(i:Nat) (b:jJ),H.get i=some b->iS b=true->Cn c ρ w' i b)
 (hfresh:∀(i:Nat) (b:jJ) r' y,H.get i=some b->b.live=true->ρ i=some (r',y)->r'≠r)
 (hnew:w'.heap[r]? = some (.cells C t fr)) (hB:c.own r) (hf:qH C fr) (hs:cR c.P t=some s) (hsz:C.size=cs.length+x*s) (hb:oa (bG ρ) cs C) (Qn:fx=true->x=0) (hsp:DU c.P t cs.length C) :
 ef c (ρ.put H.size (r,x)) H' w':=by
 have hle:=h.wD (aC H.size) (r,x);obtain⟨q1,q2,q3⟩:=Mem.dN hp;have Uy:∀{i:Nat} {b:jJ},H'.get i=some b->(i<H.size/\H.get i=some b)\/(i=H.size/\b=⟨cs,t,true,fx⟩):=by
  intro i b hi;rw[q3]at hi;by_cases h1:i=H.size
  .rw[ag h1]at hi;cases hi;exact .inr ⟨h1,rfl⟩
  rw[aa h1]at hi;exact .inl ⟨Mem.eL hi,hi⟩
 have at2:∀{i:Nat} {b:jJ},H'.get i=some b->iS b=true->i<H.size/\H.get i=some b:=by
  intro i b hi hm;rcases Uy hi with h1|⟨_,rfl⟩
  .exact h1
  rw[Qm rfl]at hm;cases hm
 refine⟨aex,hbase,?_,by rw[q2];exact h.lk,by rw[q1];have:=h.zF;omega,λg hg=>hle _ _ (h.ju g hg),?_,?_,λi b hi hm=>(hmap i b (at2 hi hm).2 hm).mono hle,λi j bi bj q y z hi hmi hj Uz hr hr'=>?_⟩
 .intro i y hy;rw[q1];by_cases hi:i=H.size
  .omega
  rw[Ren.nL ρ _ hi]at hy;have:=h.dom i y hy;omega
 .intro i b hi hl;rcases Uy hi with⟨hlt,hi'⟩|⟨rfl,rfl⟩
  .obtain ⟨r',y,D,gr,s',h1,h2,h3,h4,h5,h6,h7⟩:=hold i b hi' hl;exact⟨r',y,D,gr,s',hle _ _ h1,h2,h3,h4,h5,h6,h7.1.mono λ_ _=>bG.mono hle,h7.2⟩
  exact⟨r,x,C,fr,s,Ren.mg _ _ _,.inr hB,hnew,.inr hf,⟨.inr hs,Qn⟩,hsz,hb.mono λ_ _=>bG.mono hle,.inr hsp⟩
 .intro i j bi bj q y z hi Bc hj uo hr hr';rcases Uy hi with⟨hlt,hi'⟩|⟨rfl,rfl⟩
  .rw[Ren.nL ρ _ (by omega)]at hr;rcases Uy hj with⟨hlt',hj'⟩|⟨rfl,rfl⟩
   .rw[Ren.nL ρ _ (by omega)]at hr';exact h.inj i j bi bj q y z hi' Bc hj' uo hr hr'
   rw[Ren.mg]at hr';cases hr';exact absurd rfl (hfresh i bi _ _ hi' Bc hr)
  rcases Uy hj with⟨hlt',hj'⟩|⟨rfl,rfl⟩
  .rw[Ren.nL ρ _ (by omega)]at hr';rw[Ren.mg]at hr;cases hr;exact absurd rfl (hfresh j bj _ _ hj' uo hr')
  rfl
 obtain⟨k1,k2⟩:=at2 hi hmi;obtain⟨k3,k4⟩:=at2 hj Uz;rw[Ren.nL ρ _ (by omega)]at hr hr';exact h.vX i j bi bj q y z k2 hmi k4 Uz hr hr'
theorem ef.new (h:ef c ρ H w){t:TypeId}{cs:List Value}{C:Array Value}{fr:Nat×Nat}{x s:Nat}{H':Mem}{fx:Bool}(hp:H.push ⟨cs,t,true,fx⟩=some H')
 (hs:cR c.P t=some s) (hb:oa (bG ρ) cs C) (hsz:C.size=cs.length+x*s) (hf:qH C fr) (Qn:fx=true->x=0) (hsp:DU c.P t cs.length C) :
 ef c (ρ.put H.size (w.heap.size,x)) H' (w.alloc (.cells C t fr)):=by
 refine h.add hp (h.stay.alloc h.base _) (br h.base (by simp)) ?_ (λi b hi hm=>(h.maps i b hi hm).heap λr es clock hh=>by rw[Below.heap_alloc _ _ _ (aB.1 hh).1];exact hh) ?_ (by show (w.heap.push _)[w.heap.size]? = _;simp) (h.stay.fresh h.base) hf hs hsz hb Qn hsp
 .intro i b hi hl;obtain⟨r,y,D,gr,s',h1,h2,h3,h4⟩:=h.blk i b hi hl;have hr:r<w.heap.size:=(aB.1 h3).1;exact⟨r,y,D,gr,s',h1,h2,by rw[Below.heap_alloc _ _ _ hr];exact h3,h4⟩
 intro i b r' y hi hl hr;obtain⟨r2,y2,D,gr,s',h1,h2,h3,_⟩:=h.blk i b hi hl;rw[hr]at h1;cases h1;exact l9 (aB.1 h3).1
theorem ef.less {H':Mem}(h:ef c ρ H w)(hl:H.size<=H'.size)(hlk:c.L<=H'.lk)(hh:∀(i:Nat) (b':jJ),H'.get i=some b'->(b'.live=true\/iS b'=true)->H.get i=some b'):ef c ρ H' w:=by
 refine⟨h.stay,h.base,λi x hx=>cw (h.dom i x hx) hl,hlk,br h.zF hl,h.ju,λi b' hi hb'=>h.blk i b' (hh i b' hi (.inl hb')) hb',λi j bi bj r x y hi Bc hj uo hr hr'=>?_,
  λi b' hi hb'=>h.maps i b' (hh i b' hi (.inr hb')) hb',λi j bi bj r x y hi Bc hj uo hr hr'=>h.vX i j bi bj r x y (hh i bi hi (.inr Bc)) Bc (hh j bj hj (.inr uo)) uo hr hr'⟩
 exact h.inj i j bi bj r x y (hh i bi hi (.inl Bc)) Bc (hh j bj hj (.inl uo)) uo hr hr'
theorem nM {H H':Mem}{i:Nat}(h:kill H i=some H'):H'.size=H.size/\H'.lk=H.lk/\(∀(j:Nat) (b:jJ),H'.get j=some b->(b.live=true\/iS b=true)->H.get j=some b/\j≠i)/\(∀j,j≠i->H'.get j=H.get j)/\H.lk<=i:=by
 unfold kill at h;split at h
 .rename_i b hb;obtain⟨h1,h2,h3,h4,h5⟩:=Mem.kY h;refine⟨h3,h4,λj b' hj hl=>?_,λj hj=>by rw[h5,aa hj],h2⟩;rw[h5]at hj;by_cases hij:j=i
  .rw[ag hij]at hj;cases hj;simp[iS]at hl
  rw[aa hij]at hj;exact⟨hj,hij⟩
 cases h
theorem ef.kill {H':Mem}{i:Nat}(h:ef c ρ H w)(hk:kill H i=some H'):ef c ρ H' w:=by
 obtain⟨h1,h2,h3,_⟩:=nM hk;exact h.less (by omega) (by rw[h2];exact h.lk) λj b' hj hl=>(h3 j b' hj hl).1
def gI (w:World)(r:Nat)(o:Obj):World:={ w with heap:=w.heap.setIfInBounds r o }
theorem gq (w:World)(r:Nat)(o:Obj)(k:Nat)(h:k≠r):(gI w r o).heap[k]? = w.heap[k]? := by
 simp[gI,jM h]
theorem rL (w:World)(r:Nat)(o:Obj)(h:r<w.heap.size):(gI w r o).heap[r]? = some o:=by
 simp[gI,h]
theorem F8 (w:World)(r:Nat)(o o':Obj):gI (gI w r o) r o'=gI w r o':=by
 simp[gI]
theorem Iz (w:World)(r:Nat)(o:Obj)(h:w.heap[r]? = some o):gI w r o=w:=by
 have hr:r<w.heap.size:=(aB.1 h).1;have:w.heap.setIfInBounds r o=w.heap:=by
  apply mH;intro k;rw[cy];by_cases hk:r=k
  .subst hk;simp[hr];exact((aB.1 h).2).symm
  simp[hk]
 simp[gI,this]
theorem CV {r j:Nat}{C:Array Value}{t:TypeId}{fr:Nat×Nat}(v:Value)(h:w.heap[r]? = some (.cells C t fr)) :
 w.setCell ⟨r,j,none⟩ v=gI w r (.cells (C.setIfInBounds j v) t fr):=by
 have:w.heap.modify r (fun | .cells c elem frozen=>.cells (if (none:Option Nat).isSome then c else c.setIfInBounds j v) elem frozen|o=>o)=w.heap.setIfInBounds r (.cells (C.setIfInBounds j v) t fr):=by
  apply mH;intro k;rw[kA,cy];by_cases hk:r=k
  .subst hk;have hr:r<w.heap.size:=(aB.1 h).1;have hv:=(aB.1 h).2;simp[hr,hv]
  simp[hk]
 simp only[World.setCell,gI];rw[<-this];rfl
def od (C:Array Value)(k:Nat):List Value->Array Value
 |[]=>C
 |v::vs=>od (C.setIfInBounds k v) (k+1) vs
theorem oX:∀(vs:List Value) (C:Array Value) (k:Nat),(od C k vs).size=C.size
 |[],_,_=>rfl
 |v::vs,C,k=>by simp[od,oX vs]
theorem vQ:∀(vs l:List Value) (k:Nat),(ou l k vs).length=l.length
 |[],_,_=>rfl
 |v::vs,l,k=>by simp[ou,vQ vs]
theorem oa.set {R:Value->Value->Prop}{l:List Value}{C:Array Value}(h:oa R l C)(k:Nat){v v':Value}(hv:R v v'):oa R (l.set k v) (C.setIfInBounds k v'):=by
 refine⟨by simpa using h.1,λj u hu hju=>?_⟩;rw[mZ]at hu;by_cases hkj:k=j
 .subst hkj;rw[ag rfl]at hu;split at hu
  .rename_i hlt;cases hu;have hC:k<C.size:=cw hlt h.1;exact⟨v',by simp[hC],hv⟩
  cases hu
 rw[aa hkj]at hu;obtain⟨u',h1,h2⟩:=h.2 j u hu hju;exact⟨u',by rw[cy,aa hkj];exact h1,h2⟩
theorem oa.put {R:Value->Value->Prop}:∀{vs vs' l:List Value} {C:Array Value} {k:Nat},LR R vs vs'->oa R l C->oa R (ou l k vs) (od C k vs')
 |[],vs',l,C,k,hv,h=>by rw[hv.Gr];exact h
 |v::vs,vs',l,C,k,hv,h=>by
  obtain⟨v',t',rfl,h1,h2⟩:=hv.wB;simp only[ou,od];exact oa.put h2 (h.set k h1)
theorem yS {r off:Nat}{t:TypeId}{fr:Nat×Nat}:∀(vs:List Value) (i:Nat) (C:Array Value) (w:World),w.heap[r]? = some (.cells C t fr)->qH C fr->off+i+vs.length<=C.size ->
 (∀v∈vs,v.oneCell'=true)->(storeCells ⟨r,off,none⟩ vs i).run c.P w = .ok () (gI w r (.cells (od C (off+i) vs) t fr))
 |[],i,C,w,hw,_,_,_=>by
  simp only[storeCells,od];rw[Iz w r _ hw];rfl
 |v::vs,i,C,w,hw,hf,hl,hv=>by
  simp only[aJ]at hl;have an3:(⟨r,off,none⟩:Addr).add i=⟨r,off+i,none⟩:=by
   unfold Addr.add;split
   .rename_i h;subst h;rfl
   rfl
  have hlt:off+i<C.size:=by omega
  have hcell:w.cell? ⟨r,off+i,none⟩=some C[off+i]:=by simp[World.cell?,hw,hlt]
  have hfz:w.frozen? ⟨r,off+i,none⟩=false:=by
   have:=hf.2 _ hlt;simp only[World.frozen?,hw];rw[<-eB];intro hh;simp at hh;exact this hh
  have hone:=hv v (by simp);simp only[storeCells,Sem.run_bind,an3];rw[run_store c.P w _ v _ hone,hcell];simp only[hfz,cu,ee,Result.andThen];rw[CV v hw];have hr:r<w.heap.size:=(aB.1 hw).1;rw[yS vs (i+1) (C.setIfInBounds (off+i) v) _ (rL w r _ hr) ⟨hf.1,λj hj=>hf.2 j (by simpa using hj)⟩ (by simp;omega) (λu hu=>hv u (by simp[hu]))];rw[F8];simp[od,Nat.add_assoc]
theorem ef.write (h:ef c ρ H w){i:Nat}{b:jJ}{H':Mem}(hi:alive H i=some b){cs:List Value}{r x:Nat}{C C':Array Value}{fr:Nat×Nat} (DV:H.set i { b with cells:=cs }=some H')
 (hr:ρ i=some (r,x)) (hw:w.heap[r]? = some (.cells C b.elem fr)) (hl:cs.length=b.cells.length) (hC:C'.size=C.size) (hb:oa (bG ρ) cs C') (hkeep:∀j,b.cells.length<=j->C'[j]? = C[j]?) :
 ef c ρ H' (gI w r (.cells C' b.elem fr)):=by
 obtain⟨hi1,hi2⟩:=dF hi;obtain⟨e1,e2,e3,e4,e5⟩:=Mem.kY DV;obtain⟨r',x',D,gr,s,k1,k2,k3,k4,k5,k6,k7⟩:=h.blk i b hi1 hi2;rw[hr]at k1;cases k1;rw[hw]at k3;cases k3;have Ky:r<w.heap.size:=(aB.1 hw).1;have hB:c.own r:=by
  rcases k2 with k2|k2;· have:=h.lk;omega
  exact k2
 have UA:∀{j:Nat} {bj:jJ},H'.get j=some bj->iS bj=true->H.get j=some bj:=by
  intro j bj hj hm;rw[e5]at hj;by_cases hij:j=i
  .rw[ag hij]at hj;cases hj;rw[Qm (by exact hi2)]at hm;cases hm
  rw[aa hij]at hj;exact hj
 refine⟨h.stay.Kx hB ⟨rfl,rfl,rfl,by simp[gI],λk hk=>gq _ _ _ _ (by have:=hB.1;omega)⟩ (λk hk=>gq _ _ _ _ hk),by simpa[gI] using h.base,λj y hy=>by rw[e3];exact h.dom j y hy,by rw[e4];exact h.lk,by rw[e3];exact h.zF,h.ju,?_,?_,λj bj hj hm=>(h.maps j bj (UA hj hm) hm).heap λq es clock hh=>?_,λj k bj bk q y z hj Uz hk hmk hq hq'=>h.vX j k bj bk q y z (UA hj Uz) Uz (UA hk hmk) hmk hq hq'⟩
 .intro j bj hj uo;rw[e5]at hj;by_cases hij:j=i
  .subst hij;rw[ag rfl]at hj;cases hj;exact⟨r,x,C',fr,s,hr,k2,rL _ _ _ Ky,by
    rcases k4 with k4|k4
    .exact .inl k4
    exact .inr ⟨k4.1,λq hq=>k4.2 q (by rw[<-hC];exact hq)⟩,k5,by simp only[hl,hC];exact k6,hb,k7.2.imp id λh=>⟨λj v hj hv=>by
    simp only[hl]at hj;exact h.zero j v hj (by rw[<-hkeep j hj];exact hv),by simp only[hl,hC];exact h.room⟩⟩
  rw[aa hij]at hj;obtain⟨q,y,E,er,s',m1,m2,m3,m4⟩:=h.blk j bj hj uo;have hne:q≠r:=by
   intro e;subst e;exact hij (h.inj j i bj b q y x hj uo hi1 hi2 m1 hr)
  exact⟨q,y,E,er,s',m1,m2,by rw[gq _ _ _ _ hne];exact m3,m4⟩
 .intro j k bj bk q y z hj uo hk hlk hq hq';have back:∀{j:Nat} {bj:jJ},H'.get j=some bj->bj.live=true->∃b',H.get j=some b'/\b'.live=true:=by
   intro j bj hj uo;rw[e5]at hj;by_cases hij:j=i
   .subst hij;exact⟨b,hi1,hi2⟩
   rw[aa hij]at hj;exact⟨bj,hj,uo⟩
  obtain⟨b1,e1,e2⟩:=back hj uo;obtain⟨b2,e3,e4⟩:=back hk hlk;exact h.inj j k b1 b2 q y z e1 e2 e3 e4 hq hq'
 rw[gq _ _ _ _ (λe=>by subst e;rw[hw]at hh;cases hh)];exact hh
end
structure A5 (ρ:Ren)(a ar:Act):Prop where
 tmps:AR (bG ρ) a.tmps ar.tmps
 dr:ar.defers=a.defers
theorem A5.mono {ρ ρ':Ren}{a ar:Act}(hle:ρ.le ρ')(h:A5 ρ a ar):A5 ρ' a ar:=⟨h.tmps.mono λ_ _=>bG.mono hle,h.dr⟩
theorem AR.getD {R:Value->Value->Prop}{a a':Array Value}(h:AR R a a')(i:Nat){d:Value}(hd:R d d):R (a.getD i d) (a'.getD i d):=by
 by_cases hi:i<a.size
 .have hi':i<a'.size:=h.1 ▸ hi;have:=h.2 i a[i] a'[i] (by simp[hi]) (by simp[hi']);simpa[Array.getD,hi,hi'] using this
 have hi':¬i<a'.size:=h.1 ▸ hi;simpa[Array.getD,hi,hi'] using hd
theorem A5.eval {ρ:Ren}{a ar:Act}(h:A5 ρ a ar){G:Nat}(hg:∀g,g<G->ρ g=some (g,0)){x:Operand}(hx:dW G x=true):bG ρ (a.eval x) (ar.eval x):=by
 cases x with
 |tmp t=>exact h.tmps.getD t .undef
 |const v=>exact dB v hx
 |global g=>exact .ptr _ _ _ _ (hg g (by simpa[dW,Nat.blt_eq] using hx))
 |func f=>exact .func _ _ _ _ _ rfl (λi x y hx=>by simp at hx) rfl (λi x y hx=>by simp at hx)
theorem A5.put {ρ:Ren}{a ar:Act}(h:A5 ρ a ar)(dst:Option Tmp){v v':Value}(hv:bG ρ v v'):A5 ρ (a.put dst v) (ar.put dst v'):=by
 cases dst with
 |none=>exact h
 |some d =>
  refine⟨⟨by simpa[Act.put] using h.tmps.1,λi x y hx hy=>?_⟩,h.dr⟩;simp only[Act.put,cy]at hx hy;by_cases hd:d=i
  .rw[ag hd]at hx hy;split at hx
   .split at hy
    .cases hx;cases hy;exact hv
    cases hy
   cases hx
  rw[aa hd]at hx hy;exact h.tmps.2 i x y hx hy
section
variable {c:Cx} {P:Program} {w:World} {ρ:Ren} {H:Mem}
theorem gS {t:TypeId}{n:Nat}(h:cR P t=some n)(w:World):(sizeOf t).run P w = .ok n w:=by
 unfold cR at h;cases hi:P.info? t with
 |none=>simp[hi]at h
 |some i=>simp[hi]at h;simp[sizeOf,typeInfo,hi,h]
theorem xU {t:TypeId}{b:Bool}(h:yP P t=some b)(w:World):(isAgg t).run P w = .ok b w:=by
 unfold yP at h;cases hu:P.underlying t with
 |none=>simp[hu]at h
 |some d=>cases d<;>simp[hu]at h<;>subst h<;>simp[isAgg,run_underlying hu]
theorem nr {t:TypeId}{z:Value}(h:mc P t=some z)(w:World):(zeroValue t).run P w = .ok z w/\aZ z=true/\∃i,P.info? t=some i/\i.zero=some z:=by
 unfold mc at h;cases hi:P.info? t with
 |none=>simp[hi]at h
 |some i =>
  cases hz:i.zero with
  |none=>simp[hi,hz]at h
  |some z' =>
   simp only[hi,hz]at h;split at h
   .rename_i hf;cases h;exact⟨by simp[zeroValue,typeInfo,hi,hz],hf,i,rfl,hz⟩
   cases h
theorem qI (r off n:Nat):(⟨r,off,none⟩:Addr).add n=⟨r,off+n,none⟩:=by
 unfold Addr.add;split
 .rename_i h;subst h;rfl
 rfl
theorem Kz {x:Option Value}{v:Value}(h:DI x=some v):x=some v/\pI v=false:=by
 unfold DI at h;split at h
 .rw[ax]at h;split at h
  .cases h
  rename_i hj;cases h;exact⟨rfl,by simpa using hj⟩
 cases h
theorem Bd:∀(vs:List Value) (C:Array Value) (k j:Nat),k+vs.length<=j->(od C k vs)[j]? = C[j]?
 |[],_,_,_,_=>rfl
 |v::vs,C,k,j,h=>by
  simp only[aJ]at h;simp only[od];rw[Bd vs _ (k+1) j (by omega),cy,aa (by omega)]
theorem ef.cell (he:ef c ρ H w){i off r x:Nat}{b:jJ}{v:Value}(hi:alive H i=some b)(hr:ρ i=some (r,x))(hv:b.cells[off]? = some v)(hj:pI v=false) :
 ∃v',w.cell? ⟨r,off,none⟩=some v'/\bG ρ v v':=by
 obtain⟨h1,h2⟩:=dF hi;obtain⟨r',x',C,fr,s,k1,k2,k3,k4,k5,k6,k7⟩:=he.blk i b h1 h2;rw[hr]at k1;cases k1;obtain⟨v',m1,m2⟩:=k7.1.2 off v hv hj;exact⟨v',by simp[World.cell?,k3,m1],m2⟩
theorem ef.read (he:ef c ρ H w){i off n r x:Nat}{l:List Value}(hr:ρ i=some (r,x))(h:fW H i off n=some l) :
 ∃l',LR (bG ρ) l l'/\l.length=n/\∀(j:Nat) v,l'[j]? = some v->w.cell? ((⟨r,off,none⟩:Addr).add j)=some v:=by
 unfold fW at h;split at h
 .rename_i b hb;split at h
  .rename_i hle;rw[ax]at h;split at h
   .cases h
   rename_i Iy;cases h;have get:∀(j:Nat) v,((b.cells.drop off).take n)[j]? = some v->∃v',w.cell? ((⟨r,off,none⟩:Addr).add j)=some v'/\bG ρ v v':=by
    intro j v hv;have hjv:pI v=false:=by
     cases hq:pI v with
     |false=>rfl
     |true=>exact absurd (ji.2 ⟨v,bh hv,hq⟩) Iy
    rw[dD]at hv;split at hv
    .rw[fV]at hv;rw[qI];exact he.cell hb hr hv hjv
    cases hv
   have hlen:((b.cells.drop off).take n).length=n:=by simp;omega
   generalize (b.cells.drop off).take n=l at get hlen;refine⟨(List.range l.length).map λj=>(w.cell? ((⟨r,off,none⟩:Addr).add j)).getD undef,⟨by simp,λj x y hx hy=>?_⟩,hlen,λj v hv=>?_⟩
   .obtain ⟨v',h1,h2⟩:=get j x hx;have hj:j<l.length:=(bx.1 hx).1;simp[hj,h1]at hy;subst hy;exact h2
   have hj:j<l.length:=by
    have:=(bx.1 hv).1;simpa using this
   obtain⟨v',h1,h2⟩:=get j l[j] (by simp[hj]);simp[hj,h1]at hv;subst hv;exact h1
  cases h
 cases h
theorem LR.kZ {R:Value->Value->Prop}{l l':List Value}(h:LR R l l'):l'.length=l.length:=h.1.symm
theorem Qo (he:ef c ρ H w){t:TypeId}{x x' v:Value}(hx:bG ρ x x')(h:rB c.P H t x=some v) :
 ∃v',(Instr.loadAt t x').run c.P w = .ok v' w/\bG ρ v v':=by
 unfold rB at h;split at h
 .rename_i i off;cases hx with
  |ptr _ _ r y hr =>
   split at h
   .rename_i n ha hs;simp only[aL]at h;obtain⟨l,hl,rfl⟩:=h;obtain⟨l',h1,h2,h3⟩:=he.read hr hl;refine⟨.agg l'.toArray,?_,?_⟩
    .have:=run_loadCells_list (P:=c.P) w ⟨r,off,none⟩ l' h3;rw[h1.kZ,h2]at this;simp[Instr.loadAt,Instr.sureAddr,loadVar,xU ha,gS hs,this]
    exact .agg _ _ h1.array.1 h1.array.2
   .rename_i ha;split at h
    .rename_i b hb;obtain⟨hv,hj⟩:=Kz h;obtain⟨v',h1,h2⟩:=he.cell hb hr hv hj;exact⟨v',by simp[Instr.loadAt,Instr.sureAddr,loadVar,xU ha,h1],h2⟩
    cases h
   cases h
 cases h
theorem DW (he:ef c ρ H w){i off r x:Nat}{vs vs':List Value}{H':Mem}(hr:ρ i=some (r,x))(hv:LR (bG ρ) vs vs')(h:iH H i off vs=some H') :
 ∃w',(storeCells ⟨r,off,none⟩ vs').run c.P w = .ok () w'/\ef c ρ H' w'/\w'.heap.size=w.heap.size:=by
 unfold iH at h;split at h
 .rename_i an4;cases h;have:vs=[]:=by simpa using an4
  subst this;rw[hv.Gr];exact⟨w,rfl,he,rfl⟩
 split at h
 .rename_i b hb;split at h
  .rename_i hc;simp only[ak,aV,aK]at hc;obtain⟨hle,hpl⟩:=hc;obtain⟨h1,h2⟩:=dF hb;obtain⟨r',x',C,fr,s,k1,k2,k3,k4,k5,k6,k7⟩:=he.blk i b h1 h2;rw[hr]at k1;cases k1;have hone:∀v∈vs',v.oneCell'=true:=by
    intro v hm;obtain⟨j,hj⟩:=eD hm;have hlt:j<vs'.length:=(bx.1 hj).1;have hlt':j<vs.length:=hv.1 ▸ hlt;exact(hv.2 j vs[j] v (by simp[hlt']) hj).plain (hpl _ (jj hlt'))
   have hL:¬i<c.L:=by
    have:=he.lk;have:=(Mem.kY h).2.1;omega
   have k4:=k4.resolve_left hL;have hrun:=yS (c:=c) (off:=off) vs' 0 C w k3 k4 (by rw[hv.kZ];omega) hone;exact⟨_,hrun,he.write hb h hr k3 (vQ _ _ _) (oX _ _ _) (by simpa using k7.1.put hv) (λj hj=>Bd _ _ _ _ (by have:=hv.kZ;omega)),by simp[gI]⟩
  cases h
 cases h
theorem UB (he:ef c ρ H w){t:TypeId}{x x' y y':Value}{H':Mem}(hx:bG ρ x x')(hy:bG ρ y y')(h:su c.P H t x y=some H') :
 ∃w',(Instr.storeAt t x' y').run c.P w = .ok () w'/\ef c ρ H' w':=by
 unfold su at h;split at h
 .rename_i i off n hs;cases hx with
  |ptr _ _ r z hr =>
   split at h
   .rename_i hn;obtain⟨w',h1,h2,_⟩:=DW he hr hy.cells.list h;refine⟨w',?_,h2⟩;have hsz:y'.cells.size=n:=by rw[<-hy.cells.1];exact hn
    simp[Instr.storeAt,Instr.sureAddr,storeVar,gS hs,hsz,h1]
   cases h
 cases h
theorem LR.begins {R:Value->Value->Prop}{l l':List Value}(h:LR R l l'):oa R l l'.toArray:=⟨by simp[h.1],λj v hv _=>by
 obtain⟨v',h1,h2⟩:=h.get hv;exact⟨v',by simpa using h1,h2⟩⟩
theorem LR.yB {R:Value->Value->Prop}{l l':List Value}(h:LR R l l')(pad:Array Value):oa R l (l'.toArray++pad):=⟨by simp[h.1],λj v hv _=>by
 obtain⟨v',h1,h2⟩:=h.get hv;have hj:j<l'.length:=(bx.1 h1).1;exact⟨v',by rw[fY,ag (by simpa using hj)];simpa using h1,h2⟩⟩
theorem qx (C:Array Value):qH C (0,0):=⟨aC _,λj _=>by simp⟩
theorem IA (he:ef c ρ H w){t:TypeId}{s:Nat}{cs:List Value}{C:Array Value}{H':Mem}{fx:Bool}(hp:H.push ⟨cs,t,true,fx⟩=some H')(hs:cR c.P t=some s)(hc:LR (bG ρ) cs C.toList) :
 ∃ ρ',ρ.le ρ'/\ρ' H.size=some (w.heap.size,0)/\ef c ρ' H' (w.alloc (.cells C t)):=by
 refine⟨_,he.wD (aC _) _,Ren.mg _ _ _,he.new (x:=0) hp hs ?_ ?_ (qx _) (λ_=>rfl) (DU.full (by have:=hc.1;simp at this;omega))⟩
 .have:=hc.begins;simpa using this
 have:=hc.1;simp at this;omega
theorem tu {H H':Mem}{t:TypeId}{cs:List Value}{v:Value}(h:uU H t cs=some (v,H')):H.push ⟨cs,t,true,true⟩=some H'/\v = .pointer (some ⟨H.size,0,none⟩):=by
 unfold uU at h;split at h
 .rename_i H1 h1;cases h;exact⟨h1,rfl⟩
 cases h
theorem ov {H H':Mem}{t:TypeId}{cs:List Value}{len cap:Nat}{v:Value}(h:kU H t cs len cap=some (v,H')):H.push ⟨cs,t,true,false⟩=some H'/\v = .slice (some ⟨H.size,0,none⟩) len cap:=by
 unfold kU at h;split at h
 .rename_i H1 h1;cases h;exact⟨h1,rfl⟩
 cases h
theorem rM {H H':Mem}{t:TypeId}{cs:List Value}{len cap:Nat}{v:Value}(h:uV H t cs len cap=some (v,H')):H.push ⟨cs,t,true,true⟩=some H'/\v = .slice (some ⟨H.size,0,none⟩) len cap:=by
 unfold uV at h;split at h
 .rename_i H1 h1;cases h;exact⟨h1,rfl⟩
 cases h
theorem zM {t:TypeId}{z:Value}(h:mc P t=some z):∃s,cR P t=some s:=by
 obtain⟨_,_,i,hi,_⟩:=nr h (default:World);exact⟨i.size,by simp[cR,hi]⟩
theorem UC (he:ef c ρ H w){t:TypeId}{v:Value}{H':Mem}(h:rI c.P t H=some (v,H')) :
 ∃ ρ' w' v',ρ.le ρ'/\ef c ρ' H' w'/\bG ρ' v v'/\(Instr.alloc t true (.tuple #[])).run c.P w = .ok v' w':=by
 unfold rI at h;split at h
 .rename_i z hz;obtain⟨hp,rfl⟩:=tu h;obtain⟨h1,h2,i,hi,hiz⟩:=nr hz w;obtain⟨s,hs⟩:=zM hz;obtain⟨ρ',k1,k2,k3⟩:=IA he hp hs (dB (ρ:=ρ) z h2).cells.list;exact⟨ρ',_,_,k1,k3,.ptr _ _ _ _ k2,by simp[Instr.alloc,h1,newVar,newRow]⟩
 cases h
theorem aey (he:ef c ρ H w){t:TypeId}{x x' v:Value}{H':Mem}(hx:bG ρ x x')(h:Gp c.P t x H=some (v,H')) :
 ∃ ρ' w' v',ρ.le ρ'/\ef c ρ' H' w'/\bG ρ' v v'/\(Instr.box t x').run c.P w = .ok v' w':=by
 unfold Gp at h;split at h
 .rename_i s hs;obtain⟨hp,rfl⟩:=tu h;obtain⟨ρ',k1,k2,k3⟩:=IA he hp hs hx.cells.list;exact⟨ρ',_,_,k1,k3,.ptr _ _ _ _ k2,by simp[Instr.box,newVar,newRow]⟩
 cases h
def PR (R:Value->Value->Prop):List (Nat×Value)->List (Nat×Value)->Prop
 |[],[]=>True
 |(i,v)::l,(j,u)::m=>i=j/\R v u/\PR R l m
 |_,_=>False
theorem AR.ajF {R:Value->Value->Prop}{a a':Array Value}(h:AR R a a')(i:Nat){v v':Value}(hv:R v v'):AR R (a.setIfInBounds i v) (a'.setIfInBounds i v') :=
 ⟨by simpa using h.1,λj x y hx hy=>by
  rw[cy]at hx hy;by_cases hij:i=j
  .rw[ag hij]at hx hy;split at hx
   .split at hy
    .cases hx;cases hy;exact hv
    cases hy
   cases hx
  rw[aa hij]at hx hy;exact h.2 j x y hx hy⟩
theorem KA {R:Value->Value->Prop}(off:Nat):∀(l l':List Value) (k:Nat) (a a':Array Value),LR R l l'->AR R a a' ->
 AR R ((l.zipIdx k).foldl (λcs (c:Value×Nat)=>cs.setIfInBounds (off+c.2) c.1) a) ((l'.zipIdx k).foldl (λcs (c:Value×Nat)=>cs.setIfInBounds (off+c.2) c.1) a')
 |[],l',k,a,a',hl,ha=>by rw[hl.Gr];exact ha
 |v::l,l',k,a,a',hl,ha=>by
  obtain⟨v',t',rfl,h1,h2⟩:=hl.wB;simp only[List.zipIdx_cons,gw];exact KA off l t' (k+1) _ _ h2 (ha.ajF _ h1)
theorem wE {place:Nat->Option (Nat×Nat)}:∀(parts parts':List (Nat×Value)) (a a' r:Array Value),PR (bG ρ) parts parts'->AR (bG ρ) a a' ->
 Instr.fill place a parts=some r->∃r',Instr.fill place a' parts'=some r'/\AR (bG ρ) r r'
 |[],[],a,a',r,_,ha,h=>by simp only[Instr.fill,aq]at h;subst h;exact⟨a',rfl,ha⟩
 |[],_::_,_,_,_,hp,_,_=>hp.elim
 |_::_,[],_,_,_,hp,_,_=>hp.elim
 |(i,v)::l,(j,u)::m,a,a',r,hp,ha,h=>by
  obtain⟨rfl,hv,hp'⟩:=hp;simp only[Instr.fill]at h ⊢;cases hpl:place i with
  |none=>simp[hpl]at h
  |some q =>
   obtain⟨off,size⟩:=q;simp only[hpl]at h ⊢;rw[<-hv.cells.1,<-ha.1];split at h
   .cases h
   rename_i hcond;rw[aa hcond];refine wE l m _ _ r hp' ?_ h;have e:∀(c z:Array Value),(c.zipIdx.foldl (λcs (x:Value×Nat)=>cs.setIfInBounds (off+x.2) x.1) z)=((c.toList.zipIdx 0).foldl (λcs (x:Value×Nat)=>cs.setIfInBounds (off+x.2) x.1) z):=by
    intro c z;rw[<-Array.foldl_toList,Array.toList_zipIdx]
   have:=KA (R:=bG ρ) off v.cells.toList u.cells.toList 0 a a' hv.cells.list ha;rw[<-e,<-e]at this;exact this
theorem UD {t:TypeId}{parts parts':List (Nat×Value)}{v:Value}(hp:PR (bG ρ) parts parts')(h:DK P t parts=some v)(w:World) :
 ∃v',(Instr.build t parts'.toArray).run P w = .ok v' w/\bG ρ v v':=by
 unfold DK at h;split at h
 .rename_i hbf;simp only[aL]at h;obtain⟨cells,hc,rfl⟩:=h;obtain⟨z,hz⟩:=bV.1 hbf;obtain⟨_,hfree,i,hi,hiz⟩:=nr hz w;have key:∃cells',P.built t parts'=some cells'/\AR (bG ρ) cells cells':=by
   unfold Program.built at hc ⊢;simp only[hi]at hc ⊢;cases hu:P.underlying t with
   |none=>simp[hu]at hc
   |some d =>
    cases d<;>simp only[hu]at hc ⊢ <;> try (cases hc;done)
    .rename_i n e;cases he:P.info? e with
     |none=>simp[he]at hc
     |some ie =>
      simp only[he,hiz]at hc ⊢;exact wE _ _ _ _ _ hp ((dB (ρ:=ρ) z hfree).cells) hc
    rename_i fs;cases hm:fs.toList.mapM (λf=>(P.info? f.type).map λi=>(f.offset,i.size)) with
    |none=>simp[hm]at hc
    |some places =>
     simp only[hm,hiz]at hc ⊢;exact wE _ _ _ _ _ hp ((dB (ρ:=ρ) z hfree).cells) hc
  obtain⟨cells',h1,h2⟩:=key;exact⟨.agg cells',run_build w t _ cells' (by simpa using h1),.agg _ _ h2.1 h2.2⟩
 cases h
theorem DX {e:TypeId}{n:Nat}{zs:Array Value}(h:uW P e n=some zs)(w:World) :
 ∃s,cR P e=some s/\AR (bG ρ) zs zs/\zs.size=n*s /\
  (do let zero <- (if n*s=0 then pure #[] else do pure (<- zeroValue e).cells:Sem (Array Value));pure ((Array.range (n*s)).map (zero[· % zero.size]!)):Sem (Array Value)).run P w = .ok zs w:=by
 unfold uW at h;split at h
 .rename_i s z hs hz;obtain⟨h1,h2,i,hi,hiz⟩:=nr hz w;refine⟨s,hs,?_⟩;split at h
  .rename_i h0;cases h;exact⟨⟨rfl,λi x y hx=>by simp at hx⟩,by simp[h0],by simp[h0]⟩
  rename_i h0;cases h;refine⟨⟨rfl,λi x y hx hy=>?_⟩,by simp,by simp[h0,h1]⟩;rw[hx]at hy;cases hy;have hlt:i<n*s:=by
   have:=(aB.1 hx).1;simpa using this
  simp[hlt]at hx;subst hx;have hz:=(dB (ρ:=ρ) z h2).cells;by_cases hsz:i%z.cells.size<z.cells.size
  .have:=hz.2 (i%z.cells.size) z.cells[i%z.cells.size] z.cells[i%z.cells.size] (by simp[hsz]) (by simp[hsz]);simpa[hsz] using this
  have:z.cells[i%z.cells.size]! = default:=by simp[hsz]
  rw[this];exact dB _ (by rfl)
 cases h
end
end Go.Ev
namespace Go.Ev
open Go.RowKit
section
variable {c:Cx} {P:Program} {w:World} {ρ:Ren} {H:Mem}
theorem wF {e:TypeId}{n s:Nat}{zs:Array Value}(hs:cR P e=some s)(h:uW P e n=some zs) :
 (n*s=0/\zs = #[])\/(n*s≠0/\∃z,mc P e=some z/\zs=(Array.range (n*s)).map (z.cells[· % z.cells.size]!)):=by
 unfold uW at h;split at h
 .rename_i s' z hs' hz;rw[hs]at hs';cases hs';split at h
  .rename_i h0;cases h;exact .inl ⟨h0,rfl⟩
  rename_i h0;cases h;exact .inr ⟨h0,z,hz,rfl⟩
 cases h
theorem F9 (he:ef c ρ H w){t:TypeId}{len:Nat}{parts parts':List (Nat×Value)}{v:Value}{H':Mem}(hp:PR (bG ρ) parts parts')(h:ng c.P H t len parts=some (v,H')) :
 ∃ ρ' w' v',ρ.le ρ'/\ef c ρ' H' w'/\bG ρ' v v'/\(Instr.buildSlice t len parts'.toArray).run c.P w = .ok v' w':=by
 unfold ng at h;split at h
 .rename_i e hu;split at h
  .rename_i s z hs hz;split at h
   .cases h
   rename_i hsz;split at h
   .rename_i cs hf;obtain⟨hp',rfl⟩:=rM h;obtain⟨s',hs',hzz,hzn,hrun⟩:=DX (ρ:=ρ) hz w;rw[hs]at hs';cases hs';obtain⟨cs',hf',hcs⟩:=wE _ _ _ _ _ hp hzz hf;obtain⟨ρ',k1,k2,k3⟩:=IA he hp' hs hcs.list;refine⟨ρ',_,_,k1,k3,.slice _ _ _ _ _ _ k2,?_⟩;have Ga:Instr.fill (λi=>some (i*s,s)) z parts'=some cs':=hf';rcases wF hs hz with⟨h0,rfl⟩|⟨h0,y,hy,rfl⟩
    .have UE:Array.range 0 = #[]:=rfl;simp[Instr.buildSlice,run_underlying hu,gS hs,h0,UE,Ga,newRow]
    obtain⟨hy1,_⟩:=nr hy w;have hsz':¬(16777216<len*s):=by simpa using hsz
    simp[Instr.buildSlice,run_underlying hu,gS hs,h0,hsz',hy1,Ga,newRow]
   cases h
  cases h
 cases h
theorem IB (he:ef c ρ H w){t:TypeId}{l l' cp cp' v:Value}{H':Mem}(hl:bG ρ l l')(hc:bG ρ cp cp')(h:qb c.P H t l cp=some (v,H')) :
 ∃ ρ' w' v',ρ.le ρ'/\ef c ρ' H' w'/\bG ρ' v v'/\(Instr.makeSlice t l' cp').run c.P w = .ok v' w':=by
 unfold qb at h;split at h
 .rename_i e k n k' m hu;cases hl;cases hc;split at h
  .rename_i inf z hi hz;split at h
   .rename_i hb;obtain⟨hp',rfl⟩:=rM h;obtain⟨h0,h1,h2,h3⟩:=hb;obtain⟨s',hs',hzz,hzn,hrun⟩:=DX (ρ:=ρ) hz w;obtain⟨ρ',k1,k2,k3⟩:=IA he hp' hs' hzz.list;refine⟨ρ',_,_,k1,k3,.slice _ _ _ _ _ _ k2,?_⟩;have w1:IntKind.i64.wrap n=n:=IntWalk.i64_in _ (by omega);have w2:IntKind.i64.wrap m=m:=IntWalk.i64_in _ (by omega);have hm:(inf.bytes:Int)*m<=2000000*2000000:=Int.mul_le_mul (by omega) h2 (by omega) (by omega);have NY:¬((inf.bytes:Int)*m>2 ^ 48):=by omega
    have hsz:inf.size=s':=by simpa[cR,hi] using hs'
    subst hsz;have hc1:(decide (m<0)||decide ((inf.bytes:Int)*m>2 ^ 48)||decide (n<0)||decide (n>m))=false:=by
     simp;omega
    simp only[Bool.or_eq_false_iff,bH]at hc1;obtain⟨⟨⟨c1,c2⟩,c3⟩,c4⟩:=hc1;have c2':¬(281474976710656<(inf.bytes:Int)*m):=by simpa using c2
    rcases wF hs' hz with⟨h0,rfl⟩|⟨h0,y,hy,rfl⟩
    .have UE:Array.range 0 = #[]:=rfl;simp[Instr.makeSlice,run_underlying hu,asInt,asIntOf,typeInfo,sizeOf,hi,w1,w2,c1,c2',c3,c4,h0,UE,newRow]
    obtain⟨hy1,_⟩:=nr hy w;simp[Instr.makeSlice,run_underlying hu,asInt,asIntOf,typeInfo,sizeOf,hi,w1,w2,c1,c2',c3,c4,h0,hy1,newRow]
   cases h
  cases h
 cases h
theorem zN (he:ef c ρ H w){s n:Nat}{x x':Value}{l:List Value}(hx:bG ρ x x')(h:iR H s n x=some l) :
 ∃l',(Builtin.firstCells s n x').run c.P w = .ok l'.toArray w/\LR (bG ρ) l l':=by
 unfold iR at h;split at h
 .cases hx with
  |slice i off len cap r y hr =>
   obtain⟨l',h1,h2,h3⟩:=he.read hr h;refine⟨l',?_,h1⟩;have:=run_loadCells_list (P:=c.P) w _ l' h3;rw[h1.kZ,h2]at this;simpa[Builtin.firstCells] using this
 .cases hx;split at h
  .cases h;exact⟨[],by simp[Builtin.firstCells],.nil⟩
  cases h
 .split at h
  .rename_i h0;cases h;subst h0;cases hx with
   |void a'=>exact⟨[],by simpa[Builtin.firstCells] using run_loadCells_list (P:=c.P) w a' [] (λj v hj=>by cases hj),.nil⟩
  cases h
 .cases hx;rename_i q;split at h;case isFalse=>cases h
  cases h;refine⟨(q.extract 0 n).data.toList.map λb=>.int .u8 b.toNat,by simp[Builtin.firstCells];apply jC;simp,?_⟩;exact⟨rfl,λi x y hx hy=>by
   rw[hx]at hy;cases hy;obtain⟨b,_,rfl⟩:=bW.1 (bh hx);exact .int _ _⟩
 cases h
theorem Be {s n:Nat}{x:Value}{l:List Value}(h:iR H s n x=some l):l.length=n*s:=by
 unfold iR at h;split at h
 .rename_i b off _ _;unfold fW at h;split at h
  .split at h
   .rw[ax]at h;split at h
    .cases h
    cases h;simp;omega
   cases h
  cases h
 .split at h
  .rename_i h0;cases h;simp[h0]
  cases h
 .split at h
  .rename_i h0;cases h;simp[h0]
  cases h
 .split at h
  .rename_i h0;cases h;obtain⟨rfl,h1⟩:=h0;simp;omega
  cases h
 cases h
theorem UF {x x':Value}{n:Nat}(hx:bG ρ x x')(h:vW x=some n)(w:World):(Builtin.lenOf x').run P w = .ok n w:=by
 unfold vW at h;split at h
 .cases h;cases hx<;>simp[Builtin.lenOf]
 .cases h;cases hx;simp[Builtin.lenOf]
 cases h
theorem IC {xt:TypeId}(h:lG P xt=true):(∃e,P.underlying xt=some (.slice e))\/P.underlying xt=some .string:=by
 unfold lG at h;cases hu:P.underlying xt with
 |none=>simp[hu]at h
 |some d =>
  cases d<;>simp[hu]at h
  .exact .inr rfl
  exact .inl ⟨_,rfl⟩
theorem KB (w:World)(need old:Nat)(e:TypeId)(h:need<9223372036854775808):grownCap w need old e<9223372036854775808:=by
 simp only[grownCap,Question.cut];have:=Nat.mod_lt (w.tape w.drawn (.appendCap need old e)) (show 0<2 ^ 63-need by omega);omega
theorem KC (w:World)(need old:Nat)(e:TypeId):need<=grownCap w need old e:=by
 simp only[grownCap,Question.cut];omega
theorem Gb {z:Array Value}{n j:Nat}{v:Value}(h:(Builtin.zeroCells z n)[j]? = some v):v∈z.toList:=by
 simp only[Builtin.zeroCells,Array.getElem?_map,aL]at h;obtain⟨k,hk,rfl⟩:=h;have hlt:=(aB.1 hk).1;simp at hlt;have hz:0<z.size:=by
  rcases Nat.eq_zero_or_pos z.size with h0|h0
  .rw[h0,Nat.mul_zero]at hlt;omega
  exact h0
 have hm:k%z.size<z.size:=Nat.mod_lt _ hz;rw[getElem!_pos z _ hm];simp
theorem DY (z:Array Value)(n:Nat):(Builtin.zeroCells z n).size=n*z.size:=by simp[Builtin.zeroCells]
theorem KD {st xt ty e:TypeId}{inf:TypeInfo}{at_:Array TypeId}{as:Array Value}{r off sLen cap n:Nat}{x':Value}{new:List Value}{w w':World}
 (yl:at_[0]? = some st) (vY:at_[1]? = some xt) (wG:as[0]? = some (.slice (some ⟨r,off,none⟩) sLen cap)) (ym:as[1]? = some x')
 (hu:P.underlying st=some (.slice e)) (NG:lG P xt=true) (hi:P.info? e=some inf) (hn:(Builtin.lenOf x').run P w = .ok n w)
 (hroom:sLen+n<=cap) (Um:(Builtin.firstCells inf.size n x').run P w = .ok new.toArray w) (hst:(storeCells ⟨r,off+sLen*inf.size,none⟩ new).run P w = .ok () w') :
 (Builtin.append_ at_ ty as).run P w = .ok (.slice (some ⟨r,off,none⟩) (sLen+n) cap) w':=by
 rcases IC NG with⟨e',hd⟩|hd
 .simp[Builtin.append_,yl,vY,wG,ym,run_underlying hu,run_underlying hd,sizeOf,typeInfo,hi,hn,hroom,Um,qI,hst]
 simp[Builtin.append_,yl,vY,wG,ym,run_underlying hu,run_underlying hd,sizeOf,typeInfo,hi,hn,hroom,Um,qI,hst]
theorem ZI {st xt ty e:TypeId}{inf:TypeInfo}{at_:Array TypeId}{as:Array Value}{sLen cap n:Nat}{x':Value}{new:List Value}{w:World}
 (yl:at_[0]? = some st) (vY:at_[1]? = some xt) (wG:as[0]? = some (.slice none sLen cap)) (ym:as[1]? = some x')
 (hu:P.underlying st=some (.slice e)) (NG:lG P xt=true) (hi:P.info? e=some inf) (hn:(Builtin.lenOf x').run P w = .ok n w)
 (hroom:sLen+n<=cap) (Um:(Builtin.firstCells inf.size n x').run P w = .ok new.toArray w) :
 (Builtin.append_ at_ ty as).run P w = .ok (.slice none (sLen+n) cap) w:=by
 rcases IC NG with⟨e',hd⟩|hd
 .simp[Builtin.append_,yl,vY,wG,ym,run_underlying hu,run_underlying hd,sizeOf,typeInfo,hi,hn,hroom,Um]
 simp[Builtin.append_,yl,vY,wG,ym,run_underlying hu,run_underlying hd,sizeOf,typeInfo,hi,hn,hroom,Um]
theorem UG {st xt ty e:TypeId}{inf:TypeInfo}{z:Value}{at_:Array TypeId}{as:Array Value}{base:Option Addr}{sLen cap n:Nat}{x':Value}{old new:List Value}{w:World}
 (yl:at_[0]? = some st) (vY:at_[1]? = some xt) (wG:as[0]? = some (.slice base sLen cap)) (ym:as[1]? = some x')
 (hu:P.underlying st=some (.slice e)) (NG:lG P xt=true) (hi:P.info? e=some inf) (hz:inf.zero=some z) (hn:(Builtin.lenOf x').run P w = .ok n w)
 (hroom:¬sLen+n<=cap) (hb0:inf.bytes≠0) (hfit:Builtin.nextslicecap (sLen+n) cap*inf.bytes<=281474976710656) (h63:((sLen+n:Nat):Int)<=9223372036854775807)
 (hro:(Builtin.firstCells inf.size sLen (.slice base sLen cap)).run P w.drew = .ok old.toArray w.drew) (Um:(Builtin.firstCells inf.size n x').run P w.drew = .ok new.toArray w.drew) :
 (Builtin.append_ at_ ty as).run P w = .ok (.slice (some ⟨w.heap.size,0,none⟩) (sLen+n) (grownCap w (sLen+n) cap e))
  (w.drew.alloc (.cells (old.toArray++(new.toArray++Builtin.zeroCells z.cells (grownCap w (sLen+n) cap e-(sLen+n)))) e)):=by
 have hfit':¬(281474976710656<Builtin.nextslicecap (sLen+n) cap*inf.bytes):=by omega
 have h63':¬(9223372036854775807<((sLen:Int)+(n:Int))):=by omega
 rcases IC NG with⟨e',hd⟩|hd
 .simp[Builtin.append_,yl,vY,wG,ym,run_underlying hu,run_underlying hd,sizeOf,typeInfo,zeroValue,hi,hz,hn,hroom,hb0,hfit',hro,Um,Question.forced,newRow,grownCap]
 simp[Builtin.append_,yl,vY,wG,ym,run_underlying hu,run_underlying hd,sizeOf,typeInfo,zeroValue,hi,hz,hn,hroom,hb0,hfit',hro,Um,Question.forced,newRow,grownCap]
end
end Go.Ev
namespace Go.Ev
open Go.RowKit
theorem Bf:∀(vs:List Value) (C:Array Value) (k j:Nat),j<k->(od C k vs)[j]? = C[j]?
 |[],_,_,_,_=>rfl
 |v::vs,C,k,j,h=>by
  simp only[od];rw[Bf vs _ (k+1) j (by omega),cy,aa (by omega)]
theorem Gs:∀(vs:List Value) (C:Array Value) (k i:Nat) (v:Value),vs[i]? = some v->k+vs.length<=C.size->(od C k vs)[k+i]? = some v
 |[],_,_,_,_,h,_=>by simp at h
 |u::vs,C,k,0,v,h,hl=>by
  simp at h;subst h;simp only[aJ]at hl;simp only[od,oE];rw[Bf _ _ _ _ (by omega),cy];simp;omega
 |u::vs,C,k,i+1,v,h,hl=>by
  simp only[aJ]at hl;simp only[od];have:=Gs vs (C.setIfInBounds k u) (k+1) i v (by simpa using h) (by simp;omega);rw[show k+(i+1)=k+1+i by omega];exact this
section
variable {c:Cx} {P:Program} {w:World} {ρ:Ren} {H:Mem}
set_option maxHeartbeats 1000000 in
theorem R8 (he:ef c ρ H w){st xt ty:TypeId}{s s' x x' v:Value}{H':Mem}{at_:Array TypeId}{as:Array Value}
 (yl:at_[0]? = some st) (vY:at_[1]? = some xt) (wG:as[0]? = some s') (ym:as[1]? = some x')
 (hs:bG ρ s s') (hx:bG ρ x x') (h:rH c.P H st xt s x=some (v,H')) :
 ∃ ρ' w' v',ρ.le ρ'/\ef c ρ' H' w'/\bG ρ' v v'/\(Builtin.append_ at_ ty as).run c.P w = .ok v' w':=by
 unfold rH at h;split at h
 .rename_i e base sLen sCap hu NG;split at h
  .rename_i inf z n hi hz hn;obtain⟨hzr,an5,i',hi',hiz⟩:=nr hz w;rw[hi]at hi';cases hi';split at h
   .rename_i new old hnew hold;split at h
    .cases h
    rename_i NY;simp only[kQ]at NY;obtain⟨yo,Kk,hb3,hb4,hb5,hzs,hpl⟩:=NY;have hzs:z.cells.size=inf.size:=by omega
    have hsz:cR c.P e=some inf.size:=by simp[cR,hi]
    obtain⟨new',Um,NZ⟩:=zN he hx hnew;have hlen:=UF (P:=c.P) hx hn w;have grow:∀(cap:Nat),s' = .slice (match s' with | .slice q _ _=>q|_=>none) sLen cap->¬sLen+n<=cap->cap<=2000000+sCap ->
     ∀{H0 H2:Mem} {v:Value},ef c ρ H0 w->kU H0 e (old++new) (sLen+n) (sLen+n)=some (v,H2)->∃ ρ' w' v',ρ.le ρ'/\ef c ρ' H2 w'/\bG ρ' v v'/\(Builtin.append_ at_ ty as).run c.P w = .ok v' w':=by
     intro cap hs' hroom hcap H0 H2 v he0 hns;obtain⟨hp',rfl⟩:=ov hns;obtain⟨new1,an7,aez⟩:=zN he.drew hx hnew;obtain⟨an8,ajG,aeA⟩:=zN he.drew hs hold;rw[hs']at wG ajG;have hfit:Builtin.nextslicecap (sLen+n) cap*inf.bytes<=281474976710656:=by
      have h1:=nextslicecap_le (need:=sLen+n) (old:=cap) (by omega);have h2:Builtin.nextslicecap (sLen+n) cap*inf.bytes<=(2*2000000)*100000:=pH (by omega) (by omega);omega
     have hrun:=UG (ty:=ty) yl vY wG ym hu NG hi hiz hlen hroom Kk hfit (by omega) ajG an7;have hg:=KC w (sLen+n) cap e;have hl1:(old++new).length=(sLen+n)*inf.size:=by
      have e1:old.length=sLen*inf.size:=Be hold;have e2:new.length=n*inf.size:=Be hnew;rw[aA,e1,e2,dm]
     have hC:(an8.toArray++(new1.toArray++Builtin.zeroCells z.cells (grownCap w (sLen+n) cap e-(sLen+n)))).size=(old++new).length+(grownCap w (sLen+n) cap e-(sLen+n))*inf.size:=by
      simp only[Array.size_append,iQ,DY,hzs,aA,aeA.kZ,aez.kZ];omega
     refine⟨_,_,_,he0.wD (aC _) (w.heap.size,grownCap w (sLen+n) cap e-(sLen+n)),?_,?_,hrun⟩
     .refine he0.drew.new hp' hsz ?_ hC (qx _) (λh=>by cases h) ⟨λj v hj hv=>.inl ⟨z,hz,by
       rw[<-Array.append_assoc,fY]at hv;split at hv
       .rename_i hlt;simp only[Array.size_append,iQ,aA,aeA.kZ,aez.kZ]at hlt hj;omega
       .exact Gb hv⟩,.inr (.inl λs' hs'=>by
       rw[hsz]at hs';cases hs';rw[hC,hl1,<-dm,js hg];exact Nat.mul_lt_mul_of_pos_right (KB w (sLen+n) cap e (by omega)) (by omega))⟩
      have:=(aeA.append aez).yB (Builtin.zeroCells z.cells (grownCap w (sLen+n) cap e-(sLen+n)));simpa[<-Array.append_assoc] using this
     have:=bG.slice (ρ:=ρ.put H0.size (w.heap.size,grownCap w (sLen+n) cap e-(sLen+n))) H0.size 0 (sLen+n) (sLen+n) w.heap.size _ (Ren.mg _ _ _);rw[js hg]at this;exact this
    split at h
    .
     -- there is room that is known
     rename_i hroom;split at h
     .rename_i b off;simp only[aL]at h;obtain⟨H1,hw1,heq⟩:=h;cases heq;cases hs with
      |slice _ _ _ _ r y hr =>
       obtain⟨w',hst,aeB,_⟩:=DW he hr NZ hw1;exact⟨ρ,w',_,Ren.le_refl _,aeB,.slice _ _ _ _ _ _ hr,KD yl vY wG ym hu NG hi hlen (by omega) Um hst⟩
     .split at h
      .rename_i hn0;cases h;subst hn0;cases hs with
       |me=>exact⟨ρ,w,_,Ren.le_refl _,he,.me _ _,ZI yl vY wG ym hu NG hi hlen hroom Um⟩
      cases h
     cases h
    rename_i hroom;split at h
    .rename_i b off;split at h
     .rename_i hcond;obtain⟨hoff,ajI,aeC⟩:=hcond;split at h;case h_2=>cases h
      rename_i H1 fh;obtain⟨kl1,kl2,kl3,kl4,kl5⟩:=nM fh;obtain⟨hp',rfl⟩:=ov h;subst hoff;obtain⟨bk,hbk,zO⟩:=(Option.any_eq_true _ _).1 aeC;simp only[ak,aV,eK]at zO;obtain⟨zO,hel⟩:=zO;cases hs with
      |slice _ _ _ _ r y hr =>
       by_cases hfit:sLen+n<=sCap+y
       .
        -- the machine finds room
        obtain⟨hb1',hb2'⟩:=dF hbk;obtain⟨r',y',C,fr,s',k1,k2,k3,k4,k5,k6,k7⟩:=he.blk b bk hb1' hb2';rw[hr]at k1;cases k1;rw[hel]at k5 k3;have k4:=k4.resolve_left (by have:=he.lk;omega);have k5:cR c.P e=some s':=by
         rcases k5.1 with k5|k5
         .have:=he.lk;omega
         exact k5
        rw[hsz]at k5;cases k5;have e1:old.length=sLen*inf.size:=ajI;have e2:new.length=n*inf.size:=Be hnew;have an9:sLen*inf.size+new'.length<=C.size:=by
         rw[NZ.kZ,e2,k6,zO,<-dm,<-dm];exact dV _ hfit
        have hone:∀v∈new',v.oneCell'=true:=by
         intro v hm;obtain⟨j,hj⟩:=eD hm;have hlt':j<new.length:=by rw[<-NZ.kZ];exact(bx.1 hj).1
         have hall:new.all plainCell=true:=by simpa using hpl
         exact(NZ.2 j new[j] v (by simp[hlt']) hj).plain (aK.1 hall _ (jj hlt'))
        have hst:=yS (c:=c) (off:=0+sLen*inf.size) new' 0 C w k3 k4 (by omega) hone;have hrun:=KD (ty:=ty) yl vY wG ym hu NG hi hlen hfit Um hst;refine⟨ρ.put H1.size (r,sCap+y-(sLen+n)),_,_,(he.kill fh).wD (aC _) _,?_,?_,hrun⟩
        .have Ky:r<w.heap.size:=(aB.1 k3).1;have hBr:c.own r:=by
          rcases k2 with k2|k2
          .have:=he.lk;omega
          exact k2
         refine(he.kill fh).add hp' (s:=inf.size) (C:=od C (0+sLen*inf.size+0) new') (fr:=fr) ?_ ?_ ?_ (λi bi hi' hm=>((he.kill fh).maps i bi hi' hm).heap λq es clock hh=>by rw[gq _ _ _ _ (λe0=>by subst e0;rw[k3]at hh;cases hh)];exact hh) ?_ (rL _ _ _ Ky) hBr ?_ hsz ?_ ?_ (λh=>by cases h) ⟨λj v hj hv=>by
          have hlo:bk.cells.length<=j:=by
           rw[zO];rw[aA,e1,e2,<-dm]at hj;exact br (dV _ (by omega)) hj
          rw[Bd _ _ _ _ (by rw[NZ.kZ,e2];rw[aA,e1,e2]at hj;omega)]at hv;rcases k7.2 with k8|k8
          .have:=he.lk;omega
          .rw[hel]at k8;exact k8.zero j v hlo hv,by
          rw[oX];rcases k7.2 with k8|k8
          .have:=he.lk;omega
          rw[hel]at k8;rcases k8.room with k9|k9|k9
          .left
           rw[aA,e1,e2,<-dm];rw[zO]at k9;exact br k9 (dV _ (by omega))
          .exact .inr (.inl k9)
          refine .inr (.inr ?_);rw[aA,e1,e2,<-dm];rw[zO]at k9;exact br k9 (dV _ (by omega))⟩
         .exact he.stay.Kx hBr ⟨rfl,rfl,rfl,by simp[gI],λk hk=>gq _ _ _ _ (by have:=hBr.1;omega)⟩ (λk hk=>gq _ _ _ _ hk)
         .simpa[gI] using he.base
         .intro i bi hi' Bc;obtain⟨g1,g2⟩:=kl3 i bi hi' (.inl Bc);obtain⟨q,y2,E,er,s2,m1,m2,m3,m4⟩:=he.blk i bi g1 Bc;have hne:q≠r:=by
           intro e0;subst e0;exact g2 (he.inj i b bi bk q y2 y g1 Bc hb1' hb2' m1 hr)
          exact⟨q,y2,E,er,s2,m1,m2,by rw[gq _ _ _ _ hne];exact m3,m4⟩
         .intro i bi q y2 hi' Bc hq e0;subst e0;obtain⟨g1,g2⟩:=kl3 i bi hi' (.inl Bc);exact g2 (he.inj i b bi bk q y2 y g1 Bc hb1' hb2' hq hr)
         .exact ⟨k4.1,λj hj=>k4.2 j (by rw[oX]at hj;exact hj)⟩
         .rw[oX,k6,zO,aA,e1,e2,<-dm,<-dm,<-dm];congr 1;omega
         refine⟨by rw[oX,k6,zO,aA,e1,e2,<-dm,<-dm];exact dV _ (by omega),λj u hu hju=>?_⟩;rw[List.getElem?_append]at hu;split at hu
         .rename_i hj;have hold':bk.cells[j]? = some u:=by
           simp only[iR,fW,hbk]at hold;split at hold
           .rw[ax]at hold;split at hold
            .cases hold
            cases hold;rw[dD]at hu;split at hu
            .simpa using hu
            cases hu
           cases hold
          obtain⟨u',p1,p2⟩:=k7.1.2 j u hold' hju;exact⟨u',by rw[Bf _ _ _ _ (by omega)];exact p1,p2⟩
         rename_i hj;obtain⟨u',p1,p2⟩:=NZ.get hu;refine⟨u',?_,p2⟩;have:=Gs new' C (0+sLen*inf.size+0) (j-old.length) u' p1 (by omega);rw[show 0+sLen*inf.size+0+(j-old.length)=j by omega]at this;exact this
        have:=bG.slice (ρ:=ρ.put H1.size (r,sCap+y-(sLen+n))) H1.size 0 (sLen+n) (sLen+n) r _ (Ren.mg _ _ _);rw[js hfit]at this;exact this
       exact grow (sCap+y) rfl hfit (by omega) (he.kill fh) h
     cases h
    .cases hs;exact grow sCap rfl hroom (by omega) he h
    cases h
   cases h
  cases h
 cases h
end
end Go.Ev

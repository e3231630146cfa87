/- A closed run of a function, by an evaluator with memory of its own: its definitions. -/
import Derived.Calls
import Derived.Orders
import Derived.LoopN
import Derived.KernelRfl
import Derived.Laws.Tables
import Derived.Below
import Derived.Laws.Cells
import Derived.Laws.Append
import Derived.Laws.IdiomStrings
import Derived.Laws.BytesString
import Derived.Still
import Derived.Lib.Builder
import Derived.Lib.UnsafeStr
import Derived.IntWalk
set_option linter.unusedVariables false
set_option linter.unusedSimpArgs false

namespace Go
abbrev au:=List UInt8
abbrev cA:=List au
abbrev aW:=List Value
abbrev dW:=Array Value
abbrev cY:=List Nat
abbrev gS:=Option cY
abbrev cZ:=List Int
abbrev cu:=Option Nat
abbrev eJ:=List Bool
abbrev fS:=Option Value
abbrev iS:=Array Bool
end Go
namespace Go
abbrev fW:=@Array.eq_empty_of_size_eq_zero
abbrev kN:=@Array.ext'
abbrev nX:=@Array.ext_getElem?
abbrev mg:=@Array.getD_eq_getD_getElem?
abbrev ij:=@Array.getElem?_append
abbrev bW:=@Array.getElem?_eq_getElem
abbrev fP:=@Array.getElem?_eq_none
abbrev aF:=@Array.getElem?_eq_some_iff
abbrev lU:=@Array.getElem?_modify
abbrev cX:=@Array.getElem?_setIfInBounds
abbrev mU:=@Array.length_toList
abbrev bq:=@Array.mem_of_getElem?
abbrev gk:=@Array.mem_toList_iff
abbrev mh:=@Array.replicate_succ
abbrev mj:=@Array.replicate_zero
abbrev gm:=@Array.toArray_toList
abbrev l8:=@Array.toList_inj
abbrev jX:=@BitVec.ofInt_natCast
abbrev lu:=@BitVec.toNat_ofNat
abbrev ak:=@Bool.and_eq_true
abbrev oV:=@Bool.and_self
abbrev mo:=@Bool.and_true
abbrev bX:=@Bool.eq_iff_iff
abbrev jY:=@Bool.false_and
abbrev cT:=@Bool.false_eq_true
abbrev lz:=@Bool.false_ne_true
abbrev fy:=@Bool.not_eq_true
abbrev aU:=@Bool.not_eq_true'
abbrev dA:=@Bool.or_eq_true
abbrev eF:=@Bool.true_and
abbrev lF:=@ByteArray.size_extract
abbrev cD:=@Classical.not_not
abbrev iA:=@Go.MapKept.run_getObj_map
abbrev jG:=@Int.fdiv_eq_ediv_of_nonneg
abbrev bL:=@Int.le_refl
abbrev kQ:=@Int.mul_assoc
abbrev qe:=@Int.mul_comm
abbrev jZ:=@Int.mul_ediv_self_le
abbrev ei:=@Int.mul_le_mul_of_nonneg_left
abbrev iQ:=@Int.mul_le_mul_of_nonneg_right
abbrev iU:=@Int.mul_nonneg
abbrev kW:=@Int.natCast_mul
abbrev pF:=@Int.natCast_succ
abbrev oh:=@Int.negSucc_eq
abbrev eR:=@Int.ofNat_eq_natCast
abbrev cP:=@Int.tdiv_eq_ediv_of_nonneg
abbrev bf:=@Int.toNat_natCast
abbrev oo:=@Int.toNat_zero
abbrev kX:=@List.all_append
abbrev ck:=@List.all_cons
abbrev aN:=@List.all_eq_true
abbrev kj:=@List.any_eq_true
abbrev bC:=@List.append_assoc
abbrev pG:=@List.append_inj'
abbrev dS:=@List.append_nil
abbrev mV:=@List.append_toArray
abbrev cB:=@List.cons_append
abbrev ek:=@List.drop_append_of_le_length
abbrev dB:=@List.drop_drop
abbrev nB:=@List.drop_eq_getElem_cons
abbrev gO:=@List.drop_eq_nil_of_le
abbrev eI:=@List.drop_left
abbrev lM:=@List.drop_take
abbrev j3:=@List.drop_zero
abbrev iR:=@List.eq_nil_iff_forall_not_mem
abbrev lO:=@List.ext_getElem?
abbrev iB:=@List.extract_eq_take_drop
abbrev j4:=@List.extract_toArray
abbrev jH:=@List.flatten_cons
abbrev iF:=@List.foldl_cons
abbrev gw:=@List.foldr_cons
abbrev lP:=@List.foldr_nil
abbrev gU:=@List.getD_eq_getElem?_getD
abbrev mO:=@List.getElem?_append_right
abbrev hU:=@List.getElem?_drop
abbrev aR:=@List.getElem?_eq_getElem
abbrev eD:=@List.getElem?_eq_none
abbrev iC:=@List.getElem?_eq_none_iff
abbrev bH:=@List.getElem?_eq_some_iff
abbrev dg:=@List.getElem?_map
abbrev fB:=@List.getElem?_of_mem
abbrev oC:=@List.getElem?_set
abbrev ez:=@List.getElem?_take
abbrev ko:=@List.getElem_mem
abbrev jg:=@List.isEmpty_iff
abbrev aA:=@List.length_append
abbrev aJ:=@List.length_cons
abbrev bB:=@List.length_drop
abbrev aS:=@List.length_eq_zero_iff
abbrev cO:=@List.length_map
abbrev bK:=@List.length_nil
abbrev dD:=@List.length_pos_iff
abbrev jz:=@List.length_replicate
abbrev fh:=@List.length_singleton
abbrev bV:=@List.length_take
abbrev fj:=@List.map_append
abbrev iW:=@List.map_congr_left
abbrev dH:=@List.map_cons
abbrev nC:=@List.map_map
abbrev qf:=@List.map_nil
abbrev cg:=@List.mem_append
abbrev fC:=@List.mem_append_left
abbrev jC:=@List.mem_append_right
abbrev bD:=@List.mem_cons
abbrev bI:=@List.mem_cons_of_mem
abbrev cq:=@List.mem_cons_self
abbrev dF:=@List.mem_filter
abbrev nY:=@List.mem_filterMap
abbrev cG:=@List.mem_map
abbrev j8:=@List.mem_of_find?_eq_some
abbrev bu:=@List.mem_of_getElem?
abbrev dP:=@List.mem_singleton
abbrev cE:=@List.nil_append
abbrev mW:=@List.nodup_cons
abbrev kq:=@List.not_mem_nil
abbrev oD:=@List.push_toArray
abbrev eX:=@List.replicate_succ
abbrev jF:=@List.set_append_right
abbrev lA:=@List.set_cons_succ
abbrev jI:=@List.size_toArray
abbrev fQ:=@List.takeWhile_cons
abbrev pH:=@List.take_append
abbrev fk:=@List.take_append_drop
abbrev eo:=@List.take_append_of_le_length
abbrev qQ:=@List.take_left
abbrev l9:=@List.take_length
abbrev cz:=@List.take_of_length_le
abbrev oq:=@List.take_take
abbrev kU:=@Nat.add_assoc
abbrev nD:=@Nat.add_comm
abbrev dX:=@Nat.add_mul
abbrev kC:=@Nat.add_sub_cancel'
abbrev kY:=@Nat.add_sub_cancel_left
abbrev nE:=@Nat.add_zero
abbrev aQ:=@Nat.beq_eq
abbrev qg:=@Nat.beq_refl
abbrev bF:=@Nat.ble_eq
abbrev fm:=@Nat.ble_eq_true_of_le
abbrev bt:=@Nat.eq_of_beq_eq_true
abbrev nZ:=@Nat.eq_zero_or_pos
abbrev aB:=@Nat.le_of_ble_eq_true
abbrev fX:=@Nat.le_of_not_lt
abbrev aG:=@Nat.le_refl
abbrev gx:=@Nat.le_succ
abbrev bA:=@Nat.le_trans
abbrev cU:=@Nat.lt_of_lt_of_le
abbrev iG:=@Nat.min_eq_left
abbrev jh:=@Nat.mod_eq_of_lt
abbrev iq:=@Nat.mod_one
abbrev qR:=@Nat.mul_le_mul
abbrev eS:=@Nat.mul_le_mul_right
abbrev nF:=@Nat.ne_of_lt
abbrev ql:=@Nat.not_lt_zero
abbrev nG:=@Nat.sub_self
abbrev nH:=@Nat.sub_zero
abbrev qh:=@Nat.succ_mul
abbrev cj:=@Nat.zero_add
abbrev cJ:=@Nat.zero_le
abbrev mX:=@Nat.zero_lt_one
abbrev qi:=@Nat.zero_mul
abbrev kZ:=@Ne.symm
abbrev eK:=@Option.bind_eq_some_iff
abbrev bh:=@Option.bind_some
abbrev cw:=@Option.isSome_iff_exists
abbrev aO:=@Option.map_eq_some_iff
abbrev fR:=@Option.map_none
abbrev bP:=@Option.map_some
abbrev bT:=@Option.some.inj
abbrev aq:=@Option.some.injEq
abbrev lg:=@Prod.mk.inj
abbrev az:=@Prod.mk.injEq
abbrev lp:=@UInt8.toNat_inj
abbrev fL:=@beq_iff_eq
abbrev pI:=@beq_self_eq_true
abbrev bO:=@congrArg
abbrev fY:=@decide_eq_decide
abbrev aY:=@decide_eq_false
abbrev bJ:=@decide_eq_false_iff_not
abbrev bg:=@decide_eq_true
abbrev aZ:=@decide_eq_true_eq
abbrev eY:=@if_false
abbrev aa:=@if_neg
abbrev ag:=@if_pos
abbrev gy:=@if_true
abbrev mq:=@not_or
abbrev gz:=@of_decide_eq_true
abbrev qw:=@or_false
abbrev kO:=@true_and
end Go
namespace Go.Ev
noncomputable section
inductive Tr (α:Type) where
 |e
 |n (l:Tr α) (v:Option α) (r:Tr α)
abbrev ah {α:Type}(b:Bool)(x y:α):α:=Bool.rec (motive:=λ_=>α) y x b
def Tr.get {α:Type}(t:Tr α):Nat->Option α :=
 Tr.rec (motive:=λ_=>Nat->Option α) (λ_=>none)
  (λ_ v _ a b k=>ah (Nat.beq k 0) v (ah (Nat.beq (Nat.mod k 2) 1) (a (Nat.div k 2)) (b (Nat.sub (Nat.div k 2) 1)))) t
def Tr.mk1 {α:Type}(x:α)(d:Nat):Nat->Tr α :=
 Nat.rec (motive:=λ_=>Nat->Tr α) (λ_=>.n .e (some x) .e)
  (λ_ go k=>ah (Nat.beq k 0) (.n .e (some x) .e) (ah (Nat.beq (Nat.mod k 2) 1) (.n (go (Nat.div k 2)) none .e) (.n .e none (go (Nat.sub (Nat.div k 2) 1))))) d
def Tr.set {α:Type}(t:Tr α):Nat->α->Option (Tr α) :=
 Tr.rec (motive:=λ_=>Nat->α->Option (Tr α)) (λk x=>some (Tr.mk1 x k k))
  (λl v r a b k x=>ah (Nat.beq k 0) (some (.n l (some x) r))
   (ah (Nat.beq (Nat.mod k 2) 1)
    (Option.rec (motive:=λ_=>Option (Tr α)) none (λc=>some (.n c v r)) (a (Nat.div k 2) x))
    (Option.rec (motive:=λ_=>Option (Tr α)) none (λr'=>some (.n l v r')) (b (Nat.sub (Nat.div k 2) 1) x)))) t
def Tr.full {α:Type}:Nat->Tr α
 |0=>.e
 |d+1=>.n (Tr.full d) none (Tr.full d)
structure kV where
 cells:aW
 elem:TypeId
 live:Bool
 fix:Bool
structure Mem where
 size:Nat
 lk:Nat
 t:Tr kV
abbrev gQ:=Option (Value×Mem)
def Mem.get (H:Mem)(i:Nat):Option kV:=ah (Nat.ble (Nat.succ i) H.size) (H.t.get i) none
def Mem.push (H:Mem)(b:kV):Option Mem :=
 Option.rec (motive:=λ_=>Option Mem) none (λt=>some ⟨Nat.add H.size 1,H.lk,t⟩) (H.t.set H.size b)
def Mem.set (H:Mem)(i:Nat)(b:kV):Option Mem :=
 ah (Nat.ble (Nat.succ i) H.size) (ah (Nat.ble H.lk i) (Option.rec (motive:=λ_=>Option Mem) none (λt=>some ⟨H.size,H.lk,t⟩) (H.t.set i b)) none) none
def Mem.empty:Mem:=⟨0,0,.e⟩
structure Fr where
 n:Nat
 t:Tr Value
def Fr.get (f:Fr)(i:Nat):Value:=ah (Nat.ble (Nat.succ i) f.n) (Option.rec (motive:=λ_=>Value) undef (λv=>v) (f.t.get i)) undef
def Fr.put (f:Fr)(dst:Option Tmp)(v:Value):Option Fr :=
 Option.rec (motive:=λ_=>Option Fr) (some f)
  (λd=>ah (Nat.ble (Nat.succ d) f.n) (Option.rec (motive:=λ_=>Option Fr) none (λt=>some ⟨f.n,t⟩) (f.t.set d v)) (some f)) dst
def Fr.eval (f:Fr):Operand->Value
 |.tmp t=>f.get t
 |.const v=>v
 |.global g=>.pointer (some ⟨g,0,none⟩)
 |.func f=>.func (.func f) #[] #[]
def yQ (n:Nat):Nat:=cond (Nat.blt n 31) 5 (cond (Nat.blt n 127) 7 (cond (Nat.blt n 511) 9 12))
def Fr.fill (f:Fr):Nat->aW->Option Fr
 |_,[]=>some f
 |i,v::l=>match f.put (some i) v with
  |some a=>a.fill (i+1) l
  |none=>none
mutual
def br:Value->Bool
 |.bool _=>true
 |.int _ _=>true
 |.float _ _=>true
 |.complex _ _ _=>true
 |.string _=>true
 |.pointer none=>true
 |.pointer (some _)=>false
 |.slice none _ _=>true
 |.slice (some _) _ _=>false
 |.map none=>true
 |.map (some _)=>false
 |.chan _=>false
 |.func _ a b=>nU a&&nU b
 |.nilFunc=>true
 |.iface _ v=>br v
 |.nilIface=>true
 |.agg cs=>nU cs
 |.tuple cs=>nU cs
def nU:dW->Bool
 |⟨l⟩=>dm l
def dm:aW->Bool
 |[]=>true
 |v::l=>br v&&dm l
end
def bQ (P:Program){α:Type}:Sem α->Option α
 |.pure a=>some a
 |.program k=>bQ P (k P)
 |.mark _ k=>bQ P k
 |_=>none
def dJ (P:Program)(t:TypeId):cu:=(P.info? t).map (·.size)
def zY (P:Program)(t:TypeId):Option Bool :=
 match P.underlying t with
 |some (.struct _)=>some true
 |some (.array _ _)=>some true
 |some _=>some false
 |none=>none
def alive (H:Mem)(i:Nat):Option kV :=
 match H.get i with
 |some b=>cond b.live (some b) none
 |none=>none
def qT:Value->Bool
 |.chan _=>true
 |_=>false
def ia (H:Mem)(i off n:Nat):Option aW :=
 match alive H i with
 |some b=>if off+n<=b.cells.length then ah (((b.cells.drop off).take n).any qT) none (some ((b.cells.drop off).take n)) else none
 |none=>none
def EP:fS->fS
 |some v=>ah (qT v) none (some v)
 |none=>none
def sS (P:Program)(H:Mem)(t:TypeId)(v:Value):fS :=
 match v with
 |.pointer (some ⟨i,off,none⟩) =>
  match zY P t,dJ P t with
  |some true,some n=>(ia H i off n).map λl=>.agg l.toArray
  |some false,_=>match alive H i with
   |some b=>EP b.cells[off]?
   |none=>none
  |_,_=>none
 |_=>none
def plainCell:Value->Bool
 |.agg _=>false
 |.tuple _=>false
 |_=>true
def pY (l:aW)(off:Nat):aW->aW
 |[]=>l
 |v::vs=>pY (l.set off v) (off+1) vs
def js (H:Mem)(i off:Nat)(vs:aW):Option Mem :=
 if vs.isEmpty then some H else
 match alive H i with
 |some b=>if off+vs.length<=b.cells.length&&vs.all plainCell then H.set i { b with cells:=pY b.cells off vs } else none
 |none=>none
def tN (P:Program)(H:Mem)(t:TypeId)(v x:Value):Option Mem :=
 match v,dJ P t with
 |.pointer (some ⟨i,off,none⟩),some n=>if x.cells.size=n then js H i off x.cells.toList else none
 |_,_=>none
def wh (H:Mem)(t:TypeId)(cs:aW):gQ :=
 match H.push ⟨cs,t,true,true⟩ with
 |some a=>some (.pointer (some ⟨H.size,0,none⟩),a)
 |none=>none
def mw (H:Mem)(t:TypeId)(cs:aW)(len cap:Nat):gQ :=
 match H.push ⟨cs,t,true,false⟩ with
 |some a=>some (.slice (some ⟨H.size,0,none⟩) len cap,a)
 |none=>none
def wj (H:Mem)(t:TypeId)(cs:aW)(len cap:Nat):gQ :=
 match H.push ⟨cs,t,true,true⟩ with
 |some a=>some (.slice (some ⟨H.size,0,none⟩) len cap,a)
 |none=>none
def nI (P:Program)(t:TypeId):fS :=
 match P.info? t with
 |some i=>match i.zero with
  |some z=>if br z then some z else none
  |none=>none
 |none=>none
def Ur (i:Int)(len:Nat):cu :=
 match i with
 |.ofNat m=>ah (Nat.ble (Nat.succ m) len) (some m) none
 |.negSucc _=>none
def JV (P:Program)(t:TypeId)(x ix:Value):fS :=
 match P.underlying t,x,ix with
 |some (.slice e),.slice (some ⟨b,off,none⟩) len _,.int _ i =>
  match dJ P e,Ur i len with
  |some s,some m=>some (.pointer (some ⟨b,Nat.add off (Nat.mul m s),none⟩))
  |_,_=>none
 |some (.array len e),.pointer (some ⟨b,off,none⟩),.int _ i =>
  match dJ P e,Ur i len with
  |some s,some m=>some (.pointer (some ⟨b,Nat.add off (Nat.mul m s),none⟩))
  |_,_=>none
 |_,_,_=>none
def zZ (P:Program)(s:TypeId)(x:Value)(f:Nat):fS :=
 match P.underlying s,x with
 |some (.struct c),.pointer (some ⟨b,off,none⟩) =>
  match c[f]? with
  |some a=>match dJ P a.type with
   |some n=>if n=0 then none else some (.pointer (some ⟨b,off+a.offset,none⟩))
   |none=>none
  |none=>none
 |_,_=>none
def pJ:Value->Nat->cu
 |.int _ i,y=>if 0<=i/\i<=y then some i.toNat else none
 |_,_=>none
def mz (P:Program)(t:TypeId)(x:Value)(lo hi:fS):fS :=
 match P.underlying t,x with
 |some (.slice e),.slice a len cap =>
  match (match hi with|some v=>pJ v cap|none=>some len) with
  |some h=>match (match lo with|some v=>pJ v h|none=>some 0) with
   |some l=>match a,dJ P e with
    |some ⟨b,off,none⟩,some s=>if (l=cap/\l≠0)\/cap<l then none else some (.slice (some ⟨b,off+l*s,none⟩) (h-l) (cap-l))
    |none,some _=>some (.slice none (h-l) (cap-l))
    |some ⟨b,off,some q⟩,some _=>if h=0 then some (.slice (some ⟨b,off,some q⟩) 0 0) else none
    |_,_=>none
   |none=>none
  |none=>none
 |_,_=>none
def ER (P:Program)(t:TypeId)(cs:dW)(off:Nat):fS :=
 match zY P t,dJ P t with
 |some true,some n=>some (.agg (cs.extract off (off+n)))
 |some false,_=>cs[off]?
 |_,_=>none
def A5 (P:Program)(t:TypeId)(x:Value)(f:Nat):fS :=
 match P.underlying t,x with
 |some (.struct b),.agg cs=>match b[f]? with
  |some a=>ER P a.type cs a.offset
  |none=>none
 |_,_=>none
def yR (P:Program)(t:TypeId)(x ix:Value):fS :=
 match P.underlying t,x,ix with
 |some (.array len e),.agg cs,.int _ i=>match dJ P e,Ur i len with
  |some s,some m=>ER P e cs (Nat.mul m s)
  |_,_=>none
 |_,_,_=>none
def ES (P:Program)(t:TypeId)(parts:List (Nat×Value)):fS :=
 if (nI P t).isSome then (P.built t parts).map .agg else none
def wk (P:Program)(e:TypeId)(n:Nat):Option dW :=
 match dJ P e,nI P e with
 |some s,some z=>if n*s=0 then some #[] else some ((Array.range (n*s)).map (z.cells[· % z.cells.size]!))
 |_,_=>none
def oE (P:Program)(H:Mem)(t:TypeId)(len:Nat)(parts:List (Nat×Value)):gQ :=
 match P.underlying t with
 |some (.slice e)=>match dJ P e,wk P e len with
  |some s,some z=>if len*s>2 ^ 24 then none else
   match Instr.fill (λi=>some (i*s,s)) z parts with
   |some cs=>wj H e cs.toList len len
   |none=>none
  |_,_=>none
 |_=>none
def rG (P:Program)(H:Mem)(t:TypeId)(len cap:Value):gQ :=
 match P.underlying t,len,cap with
 |some (.slice e),.int _ l,.int _ c=>match P.info? e,wk P e c.toNat with
  |some a,some z=>if 0<=l/\l<=c/\c<=2000000/\a.bytes<=2000000 then wj H e z.toList l.toNat c.toNat else none
  |_,_=>none
 |_,_,_=>none
def jJ (H:Mem)(s n:Nat):Value->Option aW
 |.slice (some ⟨b,off,none⟩) _ _=>ia H b off (n*s)
 |.slice none _ _=>if n=0 then some [] else none
 |.slice (some ⟨_,_,some _⟩) _ _=>if n=0 then some [] else none
 |.string x=>if s=1/\n<=x.size then some ((x.extract 0 n).data.toList.map λb=>.int .u8 b.toNat) else none
 |_=>none
def xl:Value->cu
 |.slice _ n _=>some n
 |.string s=>some s.size
 |_=>none
def mP (P:Program)(t:TypeId):Bool :=
 match P.underlying t with
 |some (.slice _)=>true
 |some .string=>true
 |_=>false
def kill (H:Mem)(i:Nat):Option Mem :=
 match H.get i with
 |some b=>H.set i { b with live:=false,fix:=false }
 |none=>none
def sX (P:Program)(H:Mem)(st f:TypeId)(s x:Value):gQ :=
 match P.underlying st,s,mP P f with
 |some (.slice e),.slice base a d,true =>
  match P.info? e,nI P e,xl x with
  |some c,some z,some n =>
   match jJ H c.size n x,jJ H c.size a s with
   |some new,some old =>
    if c.size=0\/c.bytes=0\/c.bytes>100000\/a+n>2000000\/d>2000000\/z.cells.size≠c.size \/ !new.all plainCell then none else
    if a+n<=d then
     match base with
     |some ⟨b,off,none⟩=>(js H b (off+a*c.size) new).map λg=>(.slice base (a+n) d,g)
     |none=>if n=0 then some (s,H) else none
     |_=>none
    else
     match base with
     |some ⟨b,off,none⟩ =>
      if off=0/\old.length=a*c.size/\(alive H b).any (λk=>decide (k.cells.length=d*c.size)&&(k.elem==e)) then
       match kill H b with
       |some h=>mw h e (old++new) (a+n) (a+n)
       |none=>none
      else none
     |none=>mw H e (old++new) (a+n) (a+n)
     |_=>none
   |_,_=>none
  |_,_,_=>none
 |_,_,_=>none
def Ia (P:Program)(H:Mem)(dt:TypeId)(d x:Value):gQ :=
 match P.underlying dt,d,xl x with
 |some (.slice e),.slice base a _,some n =>
  match dJ P e with
  |some s=>match jJ H s (Nat.min n a) x with
   |some cs=>match base with
    |some ⟨b,off,none⟩=>(js H b off cs).map λc=>(goInt (Nat.min n a),c)
    |none=>some (goInt (Nat.min n a),H)
    |_=>none
   |none=>none
  |none=>none
 |_,_,_=>none
def Ej:Value->Option UInt8
 |.int .u8 n=>some (UInt8.ofNat n.toNat)
 |_=>none
def tO:aW->ByteArray->Option ByteArray
 |[],a=>some a
 |v::vs,a=>match Ej v with
  |some b=>tO vs (a.push b)
  |none=>none
def kr (P:Program)(H:Mem)(d dst:TypeId)(x:Value):gQ :=
 match P.underlying d,P.underlying dst,x with
 |some (.slice e),some .string,.slice a len _ =>
  match P.underlying e,a with
  |some (.int .u8),some ⟨b,off,none⟩=>match ia H b off len with
   |some cs=>(tO cs .empty).map λs=>(.string s,H)
   |none=>none
  |some (.int .u8),none=>some (.string .empty,H)
  |some (.int .u8),some ⟨_,_,some _⟩=>some (.string .empty,H)
  |_,_=>none
 |some .string,some (.slice e),.string s =>
  match P.underlying e,dJ P e with
  |some (.int .u8),some 1=>mw H e (s.data.toList.map λb=>.int .u8 b.toNat) s.size s.size
  |_,_=>none
 |some (.slice _),some (.slice e),.slice (some ⟨i,off,none⟩) l c =>
  match alive H i,P.underlying e with
  |some _,some (.int .u8)=>ah (Nat.ble H.lk i&&Nat.beq d dst) (some (.slice (some ⟨i,off,none⟩) l c,H)) none
  |_,_=>none
 |some (.pointer t),some .unsafePointer,.pointer (some ⟨i,0,none⟩) =>
  match alive H i,dJ P t with
  |some b,some n=>ah (Nat.ble 1 n&&Nat.ble 1 b.cells.length) (some (.pointer (some ⟨i,0,none⟩),H)) none
  |_,_=>none
 |some .unsafePointer,some (.pointer u),.pointer (some ⟨i,0,none⟩) =>
  match alive H i,dJ P u with
  |some b,some _=>ah (b.fix&&liesAt P P.depth b.elem (b.cells.length/P.cellsOf b.elem) 0 u 1) (some (.pointer (some ⟨i,0,none⟩),H)) none
  |_,_=>none
 |_,_,_=>none
def dU (ev:Operand->Value)(o:Op):Bool:=o.operands.toList.all λx=>br (ev x)
def iX (P:Program)(ev:Operand->Value)(o:Oper):fS :=
 match o.op with
 |.select _ _=>none
 |_=>if dU ev o.op then
   match bQ P (execOp ev o) with
   |some (.value v)=>if br v then some v else none
   |_=>none
  else none
def forced (n:Int):Int :=
 match n with
 |.ofNat 0=>0
 |.ofNat (m+1)=>.ofNat (m+1)
 |.negSucc 0 => -1
 |.negSucc (m+1)=>.negSucc (m+1)
def Mg (n:Int):Bool :=
 match n with
 |.ofNat m=>Nat.blt m 9223372036854775808
 |.negSucc m=>Nat.blt m 9223372036854775808
def bN (a b:Int):Bool :=
 match a,b with
 |.ofNat m,.ofNat n=>Nat.ble (Nat.succ m) n
 |.ofNat _,.negSucc _=>false
 |.negSucc _,.ofNat _=>true
 |.negSucc m,.negSucc n=>Nat.ble (Nat.succ n) m
def bS (a b:Int):Bool :=
 match a,b with
 |.ofNat m,.ofNat n=>Nat.beq m n
 |.negSucc m,.negSucc n=>Nat.beq m n
 |_,_=>false
def PT:IntKind->IntKind->Bool
 |.i64,.i64=>true
 |.u8,.u8=>true
 |.i32,.i32=>true
 |.u64,.u64=>true
 |_,_=>false
def Sh (op:BinOp)(a b:Int):Option Bool :=
 match op with
 |.eql=>some (bS a b)
 |.neq=>some (!bS a b)
 |.lss=>some (bN a b)
 |.leq=>some (!bN b a)
 |.gtr=>some (bN b a)
 |.geq=>some (!bN a b)
 |_=>none
def Si (op:BinOp)(k:IntKind)(a b:Int):Option Int :=
 match k,op with
 |.i64,.add=>ah (Mg (Int.add a b)) (some (forced (Int.add a b))) none
 |.i64,.sub=>ah (Mg (Int.sub a b)) (some (forced (Int.sub a b))) none
 |_,_=>none
def ET (op:BinOp)(x y:Value):fS :=
 match x,y with
 |.int k a,.int c b=>ah (PT k c)
  (match Sh op a b with
   |some t=>some (.bool t)
   |none=>match Si op k a b with
    |some n=>some (.int k n)
    |none=>none)
  none
 |_,_=>none
def vp (P:Program)(op:BinOp)(t:TypeId)(x y:Value):fS :=
 match P.underlying t,x,y with
 |some .bool,.bool a,.bool b=>match op with
  |.eql=>some (.bool (ah a b (!b)))
  |.neq=>some (.bool (ah a (!b) b))
  |_=>none
 |some (.slice _),.slice (some _) _ _,.slice none _ _=>match op with
  |.eql=>some (.bool false)
  |.neq=>some (.bool true)
  |_=>none
 |some (.pointer _),.pointer (some _),.pointer none=>match op with
  |.eql=>some (.bool false)
  |.neq=>some (.bool true)
  |_=>none
 |some (.pointer e),.pointer (some ⟨i,a,none⟩),.pointer (some ⟨j,b,none⟩)=>ah (Nat.beq i j&&Nat.beq a b&&(dJ P e).isSome) (match op with
  |.eql=>some (.bool true)
  |.neq=>some (.bool false)
  |_=>none) none
 |some (.pointer _),.pointer none,.pointer none=>match op with
  |.eql=>some (.bool true)
  |.neq=>some (.bool false)
  |_=>none
 |_,_,_=>none
def pK (ev:Operand->Value)(ps:Array (Nat×Operand)):List (Nat×Value):=ps.toList.map λq=>(q.1,ev q.2)
def dh (H:Mem)(v:fS):gQ:=Option.rec (motive:=λ_=>gQ) none (λv=>some (v,H)) v
def orElse (x y:fS):fS:=Option.rec (motive:=λ_=>fS) y (λv=>some v) x
def EU (c a b:Value)(H:Mem):gQ :=
 match c with
 |.bool t=>some (ah t a b,H)
 |_=>none
def xB (P:Program)(ev:Operand->Value)(o:Oper)(op:BinOp)(t:TypeId)(x y:Value)(H:Mem):gQ :=
 dh H (orElse (ET op x y) (orElse (vp P op t x y) (iX P ev o)))
def sY (P:Program)(t:TypeId)(H:Mem):gQ :=
 match nI P t with
 |some z=>wh H t z.cells.toList
 |none=>none
def Ib (P:Program)(t:TypeId)(x:Value)(H:Mem):gQ :=
 match dJ P t with
 |some _=>wh H t x.cells.toList
 |none=>none
def rU (P:Program)(t:TypeId)(a x:Value)(H:Mem):gQ :=
 match tN P H t a x with
 |some b=>some (undef,b)
 |none=>none
def tP (x:Value)(H:Mem):gQ :=
 match x with
 |.pointer (some a)=>some (.pointer (some a),H)
 |.func (.func f) a b=>some (.func (.func f) a b,H)
 |_=>none
def tD (x:Value)(k:Nat)(H:Mem):gQ :=
 match x with
 |.tuple vs=>dh H (vs.toList[k]?)
 |_=>none
def sj (P:Program)(t:TypeId)(x ix:Value):fS :=
 match P.underlying t,x,ix with
 |some .string,.string s,.int _ (.ofNat i)=>match s.data.toList[i]? with
  |some b=>some (.int .u8 (.ofNat b.toNat))
  |none=>none
 |_,_,_=>none
def xC (P:Program)(t:TypeId):Bool :=
 match P.underlying t with
 |some (.array _ _)=>true
 |_=>false
def sk (P:Program)(H:Mem)(t:TypeId)(x:Value)(lo hi:fS):fS :=
 match P.underlying t,x with
 |some (.array n e),.pointer (some ⟨b,off,none⟩) =>
  match (match hi with|some v=>pJ v n|none=>some n) with
  |some h=>match (match lo with|some v=>pJ v h|none=>some 0) with
   |some l=>match alive H b,dJ P e with
    |some k,some s=>ah k.fix (some (.slice (some ⟨b,ah (Nat.beq n l) off (Nat.add off (Nat.mul l s)),none⟩) (h-l) (n-l))) none
    |_,_=>none
   |none=>none
  |none=>none
 |_,_=>none
def qU (P:Program)(ev:Operand->Value)(o:Oper)(t:TypeId)(x:Value)(lo hi:fS)(H:Mem):gQ :=
 ah (xC P t) (dh H (sk P H t x lo hi)) (dh H (orElse (mz P t x lo hi) (iX P ev o)))
def JW (P:Program)(ev:Operand->Value)(o:Oper)(t:TypeId)(x ix:Value)(H:Mem):gQ :=
 dh H (orElse (sj P t x ix) (orElse (yR P t x ix) (iX P ev o)))
def pL (P:Program)(d:TypeId)(x:Value):fS :=
 match P.underlying d,x with
 |some (.int .i64),.int .u8 (.ofNat n)=>ah (Nat.ble n 255) (some (.int .i64 (.ofNat n))) none
 |some (.int .i64),.int .i64 n=>ah (Mg n) (some (.int .i64 n)) none
 |_,_=>none
def mC (P:Program)(ev:Operand->Value)(o:Oper)(s d:TypeId)(x:Value)(H:Mem):gQ :=
 match orElse (match P.underlying s with|some _=>pL P d x|none=>none) (iX P ev o) with
 |some v=>some (v,H)
 |none=>kr P H s d x
def uZ (P:Program)(t:TypeId)(x:Value):fS :=
 match P.underlying t,x with
 |some (.slice _),.slice _ n _=>some (goInt n)
 |some .string,.string s=>some (goInt s.size)
 |_,_=>none
def A6 (P:Program)(ev:Operand->Value)(o:Oper)(args:Array Operand)(a:Array TypeId)(H:Mem):gQ :=
 match args[0]?,a[0]? with
 |some x,some t=>dh H (orElse (uZ P t (ev x)) (iX P ev o))
 |_,_=>none
def tQ (P:Program)(ev:Operand->Value)(args:Array Operand)(a:Array TypeId)(H:Mem):gQ :=
 match args[0]?,args[1]?,a[0]?,a[1]? with
 |some s,some x,some st,some b=>sX P H st b (ev s) (ev x)
 |_,_,_,_=>none
def Cn (P:Program)(ev:Operand->Value)(args:Array Operand)(a:Array TypeId)(H:Mem):gQ :=
 match args[0]?,args[1]?,a[0]? with
 |some d,some x,some dt=>Ia P H dt (ev d) (ev x)
 |_,_,_=>none
abbrev dx:=FuncId->aW->Mem->gQ
def rH (P:Program)(call:dx)(a:Value)(args:aW)(H:Mem):gQ :=
 match a with
 |.func (.func id) first captured=>match P.funcs[id]? with
  |some fn=>ah fn.body.isSome (call id (first.toList++(args++captured.toList)) H) none
  |none=>none
 |_=>none
def xD (P:Program)(a:Value):Bool :=
 match a with
 |.func (.func id) ⟨[]⟩ ⟨[]⟩=>match P.funcs[id]? with
  |some fn=>ah fn.body.isSome false (fn.name == "internal/abi.NoEscape" && fn.origin == "")
  |none=>false
 |_=>false
def EV (P:Program)(ev:Operand->Value)(o:Oper)(a:Value)(args:aW)(H:Mem):gQ :=
 match args with
 |[x]=>ah (xD P a) (some (x,H)) (dh H (iX P ev o))
 |_=>dh H (iX P ev o)
def DY (P:Program)(H:Mem)(t:TypeId)(x:Value):fS :=
 match P.underlying t,x with
 |some (.slice _),.slice (some ⟨i,_,none⟩) _ c=>match alive H i with
  |some b=>ah b.fix (some (goInt c)) none
  |none=>none
 |some (.slice _),.slice none _ c=>some (goInt c)
 |_,_=>none
def vq (P:Program)(ev:Operand->Value)(args:Array Operand)(a:Array TypeId)(H:Mem):gQ :=
 match args[0]?,a[0]? with
 |some x,some t=>dh H (DY P H t (ev x))
 |_,_=>none
def wm:Value->fS
 |.slice (some a) _ c=>ah (Nat.beq c 0) none (some (.pointer (some a)))
 |.slice none _ _=>some (.pointer none)
 |_=>none
def qx (ev:Operand->Value)(args:Array Operand)(H:Mem):gQ :=
 match args.toList with
 |[x]=>dh H (wm (ev x))
 |_=>none
def A7:Value->Bool
 |.int .u8 (.ofNat n)=>Nat.ble n 255
 |_=>false
def EW (P:Program)(H:Mem)(a:TypeId)(p n:Value):gQ :=
 match p,n,P.underlying a with
 |.pointer _,.int .i64 (.ofNat 0),_=>some (.string .empty,H)
 |.pointer (some ⟨i,0,none⟩),.int .i64 (.ofNat (m+1)),some (.pointer e) =>
  match alive H i,ia H i 0 (m+1) with
  |some b,some cs=>ah ((b.elem==e)&&Nat.beq (P.cellsOf e) 1&&Nat.ble (m+1) 2000000&&cs.all A7)
   (match tO cs .empty,kill H i with
    |some s,some c=>some (.string s,c)
    |_,_=>none) none
  |_,_=>none
 |_,_,_=>none
def Co (P:Program)(ev:Operand->Value)(args:Array Operand)(a:Array TypeId)(H:Mem):gQ :=
 match args.toList,a.toList with
 |[p,n],[b,_]=>EW P H b (ev p) (ev n)
 |_,_=>none
def tE (P:Program)(ev:Operand->Value)(o:Oper)(b:Builtin)(args:Array Operand)(a:Array TypeId)(H:Mem):gQ :=
 match b with
 |.len=>A6 P ev o args a H
 |.append=>tQ P ev args a H
 |.copy=>Cn P ev args a H
 |.cap=>vq P ev args a H
 |.unsafeSliceData=>qx ev args H
 |.unsafeString=>Co P ev args a H
 |_=>dh H (iX P ev o)
def fu (P:Program)(call:dx)(ev:Operand->Value)(o:Oper)(c:Call)(H:Mem):gQ :=
 match c.callee with
 |.value f=>match rH P call (ev f) (c.args.toList.map ev) H with
  |some r=>some r
  |none=>EV P ev o (ev f) (c.args.toList.map ev) H
 |.builtin b=>tE P ev o b c.args c.argTypes H
 |.invoke _ _=>none
def jK (b:kV):Bool:=ah b.live false b.fix
def mapOf (H:Mem)(i:Nat):Option kV :=
 match H.get i with
 |some b=>ah (jK b) (some b) none
 |none=>none
def qj:au->au->Bool
 |[],[]=>true
 |a::l,b::m=>ah (Nat.beq a.toNat b.toNat) (qj l m) false
 |_,_=>false
def Mh:TypeDesc->Value->Value->Option Bool
 |.int d,.int k a,.int c b=>ah (decide (k=d)&&decide (k=c)) (some (bS a b)) none
 |.string,.string a,.string b=>some (qj a.data.toList b.data.toList)
 |_,_,_=>none
def uH:TypeDesc->Bool
 |.int _=>true
 |.string=>true
 |_=>false
def tR (d:TypeDesc)(k:Value):aW->Nat->Option (Option (Nat×Value))
 |[],_=>some none
 |[_],_=>none
 |q::v::l,i=>match Mh d k q with
  |some true=>some (some (i,v))
  |some false=>tR d k l (i+1)
  |none=>none
def oW (P:Program)(t:TypeId)(r:fS)(H:Mem):gQ :=
 match P.underlying t,r with
 |some (.map _ _),none=>match H.push ⟨[],t,false,true⟩ with
  |some a=>some (.map (some H.size),a)
  |none=>none
 |some (.map _ _),some (.int _ _)=>match H.push ⟨[],t,false,true⟩ with
  |some a=>some (.map (some H.size),a)
  |none=>none
 |_,_=>none
def qV (H:Mem):Value->Option aW
 |.map none=>some []
 |.map (some i)=>match mapOf H i with
  |some b=>some b.cells
  |none=>none
 |_=>none
def wZ (P:Program)(H:Mem)(t:TypeId)(x k:Value)(ok:Bool):fS :=
 match P.underlying t with
 |some (.map a e)=>match P.underlying a,nI P e,qV H x with
  |some d,some z,some cs=>ah (uH d) (match tR d k cs 0 with
   |some (some (_,v))=>some (ah ok (.tuple #[v,.bool true]) v)
   |some none=>some (ah ok (.tuple #[z,.bool false]) z)
   |none=>none) none
  |_,_,_=>none
 |_=>none
def qW (P:Program)(t:TypeId)(m k x:Value)(H:Mem):gQ :=
 match P.underlying t,m with
 |some (.map c _),.map (some i)=>match P.underlying c,mapOf H i with
  |some d,some b=>ah (uH d&&br k) (match tR d k b.cells 0 with
   |some (some (j,_))=>match H.set i { b with cells:=b.cells.set (2*j+1) x } with
    |some a=>some (undef,a)
    |none=>none
   |some none=>match H.set i { b with cells:=b.cells++[k,x] } with
    |some a=>some (undef,a)
    |none=>none
   |none=>none) none
  |_,_=>none
 |_,_=>none
def kD (P:Program)(call:dx)(ev:Operand->Value)(o:Oper)(H:Mem):gQ :=
 match o.op with
 |.move x=>some (ev x,H)
 |.assign x=>some (ev x,H)
 |.pick c a b=>EU (ev c) (ev a) (ev b) H
 |.binOp op t x y _=>xB P ev o op t (ev x) (ev y) H
 |.alloc t=>sY P t H
 |.box t x=>Ib P t (ev x) H
 |.build t ps=>dh H (ES P t (pK ev ps))
 |.buildSlice t len ps=>oE P H t len (pK ev ps)
 |.load t a=>dh H (sS P H t (ev a))
 |.store t a x=>rU P t (ev a) (ev x) H
 |.nilCheck x=>tP (ev x) H
 |.fieldAddr s x f=>dh H (zZ P s (ev x) f)
 |.indexAddr t x ix=>dh H (JV P t (ev x) (ev ix))
 |.extract x k=>tD (ev x) k H
 |.makeSlice t l c=>rG P H t (ev l) (ev c)
 |.makeFunc fn first captured=>some (.func fn (first.map ev) (captured.map ev),H)
 |.slice t x lo hi none=>qU P ev o t (ev x) (lo.map ev) (hi.map ev) H
 |.field t x f=>dh H (A5 P t (ev x) f)
 |.index t x ix=>JW P ev o t (ev x) (ev ix) H
 |.convert s d x=>mC P ev o s d (ev x) H
 |.call c=>fu P call ev o c H
 |.makeMap t r=>oW P t (r.map ev) H
 |.lookup t x k ok=>dh H (wZ P H t (ev x) (ev k) ok)
 |.mapUpdate t m k x=>qW P t (ev m) (ev k) (ev x) H
 |.insert t m k x=>qW P t (ev m) (ev k) (ev x) H
 |_=>dh H (iX P ev o)
def DZ:Value->Option cu
 |.float .f64 n=>some (some n)
 |.chan (some 1)=>some none
 |_=>none
def PU:cu->Value
 |some n=>.float .f64 n
 |none=>.chan (some 1)
def PV (op:BinOp)(a b:cu):cu :=
 match a,b with
 |some x,some y=>match op with
  |.add=>Ieee.double.add x y
  |.sub=>Ieee.double.sub x y
  |.mul=>Ieee.double.mul x y
  |_=>none
 |_,_=>none
def JX (op:BinOp)(x y:Value):fS :=
 match DZ x,DZ y with
 |some a,some b=>match op with
  |.add=>some (PU (PV .add a b))
  |.sub=>some (PU (PV .sub a b))
  |.mul=>some (PU (PV .mul a b))
  |.neq=>match a,b with
   |some _,some _=>none
   |_,_=>some (.bool true)
  |_=>none
 |_,_=>none
def vr (a b:Nat):Nat:=2 ^ a*(2*b+1)
def w9:Nat->Nat->Nat×Nat
 |0,_=>(0,0)
 |f+1,n=>ah (Nat.beq (n%2) 0) ((w9 f (n/2)).1+1,(w9 f (n/2)).2) (0,n/2)
def EX:cu->Nat
 |none=>0
 |some n=>n+1
def wo:Nat->cu
 |0=>none
 |n+1=>some n
def JY:Value->Option (cu×cu)
 |.complex .f64 a b=>some (some a,some b)
 |.chan (some (k+2))=>some (wo (w9 k k).1,wo (w9 k k).2)
 |_=>none
def cxV (a b:cu):Value :=
 match a,b with
 |some a,some b=>.complex .f64 a b
 |a,b=>.chan (some (vr (EX a) (EX b)+2))
def JZ (P:Program)(a:Value):Bool :=
 match a with
 |.func (.func id) ⟨[]⟩ ⟨[]⟩=>match P.funcs[id]? with
  |some fn=>ah fn.body.isSome false (fn.name == "math.Float64bits" && fn.origin == "")
  |none=>false
 |_=>false
def HO (P:Program)(ev:Operand->Value)(o:Oper):fS :=
 match o.op with
 |.binOp op _ x y _=>JX op (ev x) (ev y)
 |.call c=>match c.callee,c.args.toList.map ev with
  |.builtin .complex,[x,y]=>match DZ x,DZ y with
   |some a,some b=>some (cxV a b)
   |_,_=>none
  |.builtin .real,[x]=>match JY x with
   |some q=>some (PU q.1)
   |none=>none
  |.builtin .imag,[x]=>match JY x with
   |some q=>some (PU q.2)
   |none=>none
  |.value f,[.chan (some 1)]=>ah (JZ P (ev f)) (some (.chan none)) none
  |_,_=>none
 |_=>none
def eU (G:Nat):Operand->Bool
 |.global g=>Nat.blt g G
 |.const v=>br v
 |_=>true
def xF (P:Program)(t:TypeId):Bool :=
 match P.underlying t with
 |some (.slice _)=>true
 |_=>false
def PW (P:Program)(t:TypeId):Bool :=
 match P.underlying t with
 |some (.pointer _)=>true
 |some .unsafePointer=>true
 |_=>false
def quiet (P:Program):Op->Bool
 |.alloc _=>false
 |.box _ _=>false
 |.buildSlice _ _ _=>false
 |.store _ _ _=>false
 |.makeSlice _ _ _=>false
 |.convert s d _ => !xF P s && !xF P d && !PW P s
 |.slice t _ _ _ _ => !xC P t
 |.call { callee:=.builtin .len,.. }=>true
 |.call { callee:=.builtin .cap,.. }=>true
 |.call { callee:=.builtin .min,.. }=>true
 |.call { callee:=.builtin .max,.. }=>true
 |.call _=>false
 |.makeMap _ _=>false
 |.mapUpdate _ _ _ _=>false
 |.insert _ _ _ _=>false
 |_=>true
inductive jx where
 |normal
 |exit (id:Nat)
 |ret
 |goto (l:Nat)
def xG (ops:List Oper)(f:Fr)(j:Nat):Option Bool :=
 match ops[j]? with
 |some o=>match o.dst with
  |some d=>match f.get d with
   |.bool b=>some b
   |_=>none
  |none=>none
 |none=>none
def oX (o:Oper)(ops:List Oper)(f:Fr):Bool :=
 match o.guard with
 |none=>true
 |some (j,want)=>match xG ops f j with
  |some b=>ah b want (!want)
  |none=>false
def vt (f:Fr)(dst:Option Tmp)(r:gQ):Option (Fr×Mem) :=
 match r with
 |some (v,H)=>match f.put dst v with
  |some a=>some (a,H)
  |none=>none
 |none=>none
def jj (P:Program)(call:dx)(ops:List Oper)(o:Oper)(f:Fr)(H:Mem):Option (Fr×Mem) :=
 ah (oX o ops f) (vt f o.dst (kD P call f.eval o H)) (vt f o.dst (some (undef,H)))
def vu (P:Program)(call:dx)(ops:List Oper)(o:Oper)(f:Fr)(H:Mem):Option (Fr×Mem) :=
 match jj P call ops o f H with
 |some r=>some r
 |none=>ah (oX o ops f) (vt f o.dst (dh H (HO P f.eval o))) none
def Mi (P:Program)(call:dx)(ops:List Oper)(l:List Oper):Fr->Mem->Option (Fr×Mem) :=
 List.rec (motive:=λ_=>Fr->Mem->Option (Fr×Mem)) (λf H=>some (f,H))
  (λo _ go f H=>Option.rec (motive:=λ_=>Option (Fr×Mem)) none (λr=>go r.1 r.2) (vu P call ops o f H)) l
def WA (G:Nat)(ops:List Oper):Bool:=ops.all λo=>o.op.operands.toList.all (eU G)
def bit (m i:Nat):Bool:=Nat.beq (Nat.land (Nat.shiftRight m i) 1) 1
def u7 (m i:Nat):Nat:=Nat.lor m (Nat.shiftLeft 1 i)
def mD:Op->Bool
 |.load _ _=>true
 |.call { callee:=.builtin .cap,.. }=>true
 |.lookup _ _ _ _=>true
 |_=>false
structure PO where
 o:Oper
 i:Nat
 pre:Nat
 anc:Nat
 looks:Nat
 q:Bool
 ld:Bool
 WB:Bool
def sZ (o:Oper):Nat:=o.after.toList.foldr (λe m=>ah (Region.binds .any e) (u7 m e.on) m) 0
def vz (ops:Array Oper)(o:Oper):Nat:=(o.looksAt ops).foldr (λd m=>u7 m d) 0
def uI (pre:Nat):List PO->Nat
 |[]=>pre
 |p::l=>ah (bit pre p.i) (Nat.lor p.anc (uI pre l)) (uI pre l)
def makes (_P:Program)(o:Oper):Bool :=
 match o.op,o.guard,o.dst with
 |.alloc _,none,some _=>true
 |.buildSlice _ _ _,none,some _=>true
 |_,_,_=>false
def sU (P:Program)(ev:Operand->Value)(o:Oper):Option (TypeId×aW×cu) :=
 match o.op with
 |.alloc t=>match nI P t with
  |some z=>some (t,z.cells.toList,none)
  |none=>none
 |.buildSlice t len ps=>match P.underlying t with
  |some (.slice e)=>match dJ P e,wk P e len with
   |some s,some z=>if len*s>2 ^ 24 then none else
    match Instr.fill (λi=>some (i*s,s)) z (pK ev ps) with
    |some cs=>some (e,cs.toList,some len)
    |none=>none
   |_,_=>none
  |_=>none
 |_=>none
def zG:cu->Nat->Value
 |none,n=>.pointer (some ⟨n,0,none⟩)
 |some len,n=>.slice (some ⟨n,0,none⟩) len len
def u9 (P:Program)(ops:Array Oper):List Oper->Nat->List PO->List PO
 |[],_,a=>a
 |o::l,i,a=>u9 P ops l (i+1) (⟨o,i,sZ o,uI (sZ o) a,vz ops o,quiet P o.op,mD o.op,makes P o⟩::a)
def vc (L:Nat)(p:PO):Bool:=ah (bit L p.i) false (Nat.beq (Nat.land p.pre L) p.pre)
def EY (x y:PO):Bool :=
 match x.o.dst,y.o.dst with
 |some d,some e => !bit y.looks d && !Nat.beq d e && !bit x.looks e
 |some d,none => !bit y.looks d
 |none,some e => !bit x.looks e
 |none,none=>true
def afT (pos:List PO)(L:Nat)(p:PO):Bool:=pos.all λr=>Nat.beq r.i p.i||bit L r.i||bit r.pre p.i||EY p r
def PY (pos:List PO)(L:Nat)(p:PO):Bool:=pos.all λr => !r.ld || !bit L r.i||bit p.anc r.i
def J1 (l:List PO):Option (PO×List PO) :=
 match l.filter (λp => !p.WB) with
 |[p]=>some (p,l.filter λp=>p.WB)
 |[]=>match l with
  |p::a=>some (p,a)
  |[]=>none
 |_=>none
def ahh (pos:List PO)(p:PO)(a:List PO):Bool :=
 a.all λm=>EY m p&&(pos.all λr => !bit r.pre m.i||bit r.anc p.i)&&a.all λb=>Nat.beq m.i b.i||EY m b
def xb (pos:List PO):Nat->Nat->Option (List (Oper×Bool))
 |0,L=>match pos.find? (vc L) with
  |none=>some []
  |some _=>none
 |n+1,L=>match pos.find? λp=>p.q&&vc L p with
  |some p=>ah (afT pos L p)
   (match xb pos n (u7 L p.i) with
    |some l=>some ((p.o,false)::l)
    |none=>none)
   none
  |none=>match pos.filter (vc L) with
   |[]=>some []
   |q::r=>match J1 (q::r) with
    |some (p,a)=>ah (ahh pos p a)
     (match xb pos n (u7 L p.i) with
      |some l=>some ((p.o,!PY pos L p)::l)
      |none=>none)
     none
    |none=>none
def Ic (ops:List Oper):Bool:=ops.all λo=>match o.op with | .select _ _=>false|_=>true
def PZ (P:Program)(ops:Array Oper):Option (List (Oper×Bool)):=ah (Ic ops.toList) (xb (u9 P ops ops.toList 0 []).reverse ops.toList.length 0) none
def plan (P:Program)(ops:Array Oper):Option (List (Oper×Bool)):=PZ P ops
def rI (ev:Operand->Value)(o:Oper)(R:gS):gS :=
 match o.op with
 |.load _ x=>match R,ev x with
  |some l,.pointer (some ⟨b,_,_⟩)=>some (b::l)
  |_,_=>none
 |op=>ah (mD op) none R
def mb:Op->Option Operand
 |.call { callee:=.builtin .append,args,.. }=>args[0]?
 |_=>none
def nV:Op->Option Operand
 |.store _ a _=>some a
 |_=>none
def ve (R:gS)(s:Value):Bool :=
 match s,R with
 |.slice none _ _,_=>true
 |.slice (some ⟨b,_,_⟩) _ _,some l=>l.all λj => !Nat.beq j b
 |.pointer (some ⟨b,_,_⟩),some l=>l.all λj => !Nat.beq j b
 |_,_=>false
def jt (R:gS)(ev:Operand->Value)(o:Oper):Bool :=
 match nV o.op with
 |some s=>ve R (ev s)
 |none=>false
def sn (P:Program)(call:dx)(ops:List Oper)(R:gS)(lk:Bool)(o:Oper)(f:Fr)(H:Mem):Option (Fr×Mem) :=
 ah lk
  (match mb o.op with
   |some s=>ah (ve R (f.eval s)) (jj P call ops o f H) none
   |none=>ah (jt R f.eval o) (jj P call ops o f H)
    (match jj P call ops o f { H with lk:=H.size } with
     |some (a,b)=>some (a,{ b with lk:=H.lk })
     |none=>none))
  (jj P call ops o f H)
def zH (P:Program)(call:dx)(ops:List Oper)(l:List (Oper×Bool)):gS->Fr->Mem->Option (Fr×Mem) :=
 List.rec (motive:=λ_=>gS->Fr->Mem->Option (Fr×Mem)) (λ_ f H=>some (f,H))
  (λq _ go R f H=>Option.rec (motive:=λ_=>Option (Fr×Mem)) none (λr=>go (rI f.eval q.1 R) r.1 r.2) (sn P call ops R q.2 q.1 f H)) l
abbrev Out:=Option (jx×Fr×Mem)
def andThen (r:Out)(k:Fr->Mem->Out):Out :=
 match r with
 |some (.normal,f,H)=>k f H
 |some (.exit id,f,H)=>some (.exit id,f,H)
 |some (.ret,f,H)=>some (.ret,f,H)
 |some (.goto l,f,H)=>some (.goto l,f,H)
 |none=>none
def oF (id:Nat)(r:Out):Out :=
 match r with
 |some (.exit a,f,H)=>ah (Nat.beq a id) (some (.normal,f,H)) (some (.exit a,f,H))
 |some (.normal,f,H)=>some (.normal,f,H)
 |some (.ret,f,H)=>some (.ret,f,H)
 |some (.goto l,f,H)=>some (.goto l,f,H)
 |none=>none
def zI (body:Fr->Mem->Out)(n:Nat):Fr->Mem->Out :=
 Nat.rec (motive:=λ_=>Fr->Mem->Out) (λ_ _=>none) (λ_ go f H=>andThen (body f H) go) n
def atEnd (r:Option (Fr×Mem)):Out:=Option.rec (motive:=λ_=>Out) none (λq=>some (.normal,q.1,q.2)) r
def rV (P:Program)(G:Nat)(call:dx)(ops:Array Oper)(draw:Bool)(f:Fr)(H:Mem):Out :=
 ah (WA G ops.toList)
  (ah draw
   (Option.rec (motive:=λ_=>Out) none (λl=>atEnd (zH P call ops.toList l (some []) f H)) (plan P ops))
   (atEnd (Mi P call ops.toList ops.toList f H)))
  none
def EZ (v:Value)(x y:Fr->Mem->Out)(f:Fr)(H:Mem):Out :=
 match v with
 |.bool b=>ah b (x f H) (y f H)
 |_=>none
abbrev vA:=Code->Code->Fr->Mem->Out
def mY (c:Code)(J:vA)(r:Out):Out :=
 match r with
 |some (.goto l,f,H)=>match findLabel c l with
  |some rest=>J c rest f H
  |none=>some (.goto l,f,H)
 |some (.normal,f,H)=>some (.normal,f,H)
 |some (.exit id,f,H)=>some (.exit id,f,H)
 |some (.ret,f,H)=>some (.ret,f,H)
 |none=>none
def jk:Value:=.pointer (some ⟨0,0,some 0⟩)
def sL (a:FuncId):FuncId:=Nat.add 4294967296 a
def tS (o:Oper):Bool :=
 match o.op with
 |.defer _=>false
 |_=>true
def pM (c:Code):Bool :=
 Code.rec (motive:=λ_=>Bool) true (λ_ ops _=>ops.toList.all tS) (λ_ _ x y=>x&&y) (λ_ _ _ x y=>x&&y) (λ_ _ b=>b) (λ_ b=>b)
  (λ_ _ _ _ _ _=>false) (λ_=>true) (λ_ _=>false) (λ_=>true) (λ_=>true) true (λ_=>true) c
def s6 (p:Tmp)(x y:Fr->Mem->Out)(f:Fr)(items:aW):Mem->Out :=
 List.rec (motive:=λ_=>Mem->Out) (λH=>some (.normal,f,H))
  (λv _ go H=>match f.put (some p) v with
   |some b=>match x b H with
    |some (.normal,c,d)=>match y c d with
     |some (.normal,_,a)=>go a
     |some (.ret,_,a)=>some (.ret,f,a)
     |_=>none
    |_=>none
   |none=>none) items
def Cp (P:Program)(G:Nat)(call:dx)(g:Operand)(ps:List Tmp)(plain:Bool)(x y:Fr->Mem->Out)(f:Fr)(H:Mem):Out :=
 ah (eU G g&&plain)
  (match ps,f.eval g with
   |[p],.func (.func a) c b=>match c.toList,b.toList,P.funcs[sL a]? with
    |[],[.pointer (some ⟨i,0,none⟩)],none=>match call (sL a) [.pointer (some ⟨i,0,none⟩)] H with
     |some (.tuple items,d)=>match items.toList with
      |_::l=>s6 p x y f l d
      |[]=>none
     |_=>none
    |_,_,_=>none
   |_,_=>none) none
def lq (P:Program)(G:Nat)(call:dx)(jump:vA)(rounds:Nat)(c:Code):Fr->Mem->Out :=
 Code.rec (motive:=λ_=>Fr->Mem->Out)
  (λf H=>some (.normal,f,H))
  (λ_ ops draw=>rV P G call ops draw)
  (λ_ _ x y f H=>andThen (x f H) y)
  (λc _ _ x y f H=>ah (eU G c) (EZ (f.eval c) x y f H) none)
  (λid _ b f H=>oF id (b f H))
  (λ_ b=>zI b rounds)
  (λg ps a b x y=>Cp P G call g ps.toList (pM a&&pM b) x y)
  (λid f H=>some (.exit id,f,H))
  (λc b f H=>mY c jump (b f H))
  (λ_ f H=>some (.normal,f,H))
  (λl f H=>some (.goto l,f,H))
  (λf H=>some (.ret,f,H))
  (λ_ _ _=>none) c
def wq (P:Program)(G:Nat)(call:dx)(rounds:Nat)(n:Nat):vA :=
 Nat.rec (motive:=λ_=>vA) (λ_ _ _ _=>none)
  (λ_ go c rest f H=>mY c go (lq P G call go rounds rest f H)) n
def A8 (P:Program)(H:Mem)(f:Fr):ResultVar->fS
 |.tmp t=>some (f.get t)
 |.cell x t=>sS P H t (f.get x)
def lQ (P:Program)(H:Mem)(f:Fr):List ResultVar->Option aW
 |[]=>some []
 |r::l=>match A8 P H f r,lQ P H f l with
  |some v,some vs=>some (v::vs)
  |_,_=>none
def xH:aW->Value
 |[v]=>v
 |l=>.tuple l.toArray
def Ek (P:Program)(fn:Func)(r:Out):gQ :=
 match r with
 |some (.normal,f,H)=>dh H ((lQ P H f fn.results.toList).map xH)
 |some (.ret,f,H)=>dh H ((lQ P H f fn.results.toList).map xH)
 |_=>none
abbrev fZ:=FuncId->aW->fS
def mZ (P:Program)(G:Nat)(call:dx)(rounds:Nat)(id:FuncId)(args:aW)(H:Mem):gQ :=
 match P.funcs[id]? with
 |some fn=>match fn.body with
  |some c=>match (Fr.mk fn.ntmps (Tr.full (yQ fn.ntmps))).fill 0 args with
   |some a=>ah (Nat.ble args.length fn.ntmps) (Ek P fn (lq P G call (wq P G call rounds rounds) rounds c a H)) none
   |none=>none
  |none=>none
 |none=>none
def Mj:Value->Bool
 |.int .u8 _=>true
 |_=>false
def qX:aW:=[.pointer (some ⟨0,0,none⟩)]
def J2 (P:Program)(t:TypeId):Bool :=
 match P.underlying t,nI P t,dJ P t with
 |some (.int .u8),some (.int .u8 (.ofNat 0)),some 1=>true
 |_,_,_=>false
def qm (P:Program)(K:fZ)(id:FuncId)(args:aW)(H:Mem):gQ :=
 match args with
 |[.slice (some ⟨i,0,none⟩) n c]=>match K id qX,alive H i with
  |some u,some b=>ah (br u&&Nat.ble n c&&Nat.beq b.cells.length c&&Nat.ble c 2000000&&b.cells.all Mj&&J2 P b.elem)
   (match kill H i with
    |some a=>some (u,a)
    |none=>none) none
  |_,_=>none
 |_=>none
def oY (a b:gQ):gQ :=
 match a with
 |some r=>some r
 |none=>b
def z0 (P:Program)(K:fZ)(id:FuncId)(args:aW)(H:Mem):gQ :=
 match args with
 |[.pointer (some ⟨i,0,none⟩)]=>match P.funcs[id]? with
  |none=>match alive H i with
   |some b=>match b.cells with
    |[.string s]=>match K id [jk,.string s] with
     |some (.tuple items)=>ah (dm items.toList)
      (match kill H i with
       |some a=>some (.tuple (jk::items.toList).toArray,a)
       |none=>none) none
     |_=>none
    |_=>none
   |none=>none
  |some _=>none
 |_=>none
def pg (P:Program)(G:Nat)(K:fZ)(rounds:Nat)(n:Nat):dx :=
 Nat.rec (motive:=λ_=>dx) (λ_ _ _=>none)
  (λ_ go id args H=>Option.rec (motive:=λ_=>gQ) (oY (qm P K id args H) (oY (mZ P G go rounds id args H) (z0 P K id args H)))
   (λv=>ah (dm args&&br v) (some (v,H)) none) (K id args)) n
def rX:fZ:=λ_ _=>none
def Mem.wu (H:Mem)(l:List kV):Option Mem :=
 match l with
 |[]=>some ⟨H.size,H.size,H.t⟩
 |b::l=>match H.push b with
  |some a=>a.wu l
  |none=>none
def J3 (P:Program)(K:fZ)(rows:List kV)(rounds depth:Nat)(f:FuncId)(args:aW):fS :=
 match Mem.wu Mem.empty rows with
 |some H=>match pg P rows.length K rounds depth f args H with
  |some (v,_)=>ah (br v&&dm args&&rows.all λb=>dm b.cells && !jK b) (some v) none
  |none=>none
 |none=>none
end
end Go.Ev
namespace Go.Ev
open Go.RowKit
abbrev Ren:=Nat->Option (Nat×Nat)
def Ren.le (ρ ρ':Ren):Prop:=∀i x,ρ i=some x->ρ' i=some x
theorem Ren.le_refl (ρ:Ren):ρ.le ρ:=λ_ _ h=>h
theorem Ren.le_trans {a b c:Ren}(h:a.le b)(k:b.le c):a.le c:=λi x d=>k i x (h i x d)
def J4 (m:Nat):Prop:=(Ieee.double.read m).isNaN=true
def PK:cu->Nat->Prop
 |some n,x=>x=n
 |none,x=>J4 x
def vd:Value:=.slice (some ⟨0,0,some 0⟩) 0 0
inductive bR (ρ:Ren):Value->Value->Prop where
 |void (a):bR ρ vd (.slice (some a) 0 0)
 |Us (k n):bR ρ (.chan none) (.int k n)
 |nan (m) (h:J4 m):bR ρ (.chan (some 1)) (.float .f64 m)
 |cpx (k x y) (hx:PK (wo (w9 k k).1) x) (hy:PK (wo (w9 k k).2) y):bR ρ (.chan (some (k+2))) (.complex .f64 x y)
 |bool (b):bR ρ (.bool b) (.bool b)
 |int (k n):bR ρ (.int k n) (.int k n)
 |float (k n):bR ρ (.float k n) (.float k n)
 |complex (k a b):bR ρ (.complex k a b) (.complex k a b)
 |string (s):bR ρ (.string s) (.string s)
 |xI:bR ρ (.pointer none) (.pointer none)
 |ptr (i off r x) (h:ρ i=some (r,x)):bR ρ (.pointer (some ⟨i,off,none⟩)) (.pointer (some ⟨r,off,none⟩))
 |nJ (l c):bR ρ (.slice none l c) (.slice none l c)
 |slice (i off l c r x) (h:ρ i=some (r,x)):bR ρ (.slice (some ⟨i,off,none⟩) l c) (.slice (some ⟨r,off,none⟩) l (c+x))
 |E4:bR ρ (.map none) (.map none)
 |map (i r x) (h:ρ i=some (r,x)):bR ρ (.map (some i)) (.map (some r))
 |nilFunc:bR ρ .nilFunc .nilFunc
 |nilIface:bR ρ .nilIface .nilIface
 |iface (t v v') (h:bR ρ v v'):bR ρ (.iface t v) (.iface t v')
 |func (fn) (a a' b b':dW) (sa:a.size=a'.size) (ha:∀(i:Nat) x y,a[i]? = some x->a'[i]? = some y->bR ρ x y)
  (sb:b.size=b'.size) (hb:∀(i:Nat) x y,b[i]? = some x->b'[i]? = some y->bR ρ x y):bR ρ (.func fn a b) (.func fn a' b')
 |agg (a a':dW) (sa:a.size=a'.size) (ha:∀(i:Nat) x y,a[i]? = some x->a'[i]? = some y->bR ρ x y):bR ρ (.agg a) (.agg a')
 |tuple (a a':dW) (sa:a.size=a'.size) (ha:∀(i:Nat) x y,a[i]? = some x->a'[i]? = some y->bR ρ x y):bR ρ (.tuple a) (.tuple a')
theorem bR.mono {ρ ρ':Ren}(e:ρ.le ρ'){v v':Value}(h:bR ρ v v'):bR ρ' v v':=by
 induction h with
 |Us=>exact .Us _ _
 |nan m h=>exact .nan m h
 |cpx k x y d hy=>exact .cpx k x y d hy
 |bool=>exact .bool _
 |int=>exact .int _ _
 |float=>exact .float _ _
 |complex=>exact .complex _ _ _
 |string=>exact .string _
 |xI=>exact .xI
 |ptr i off r x h=>exact .ptr i off r x (e _ _ h)
 |nJ=>exact .nJ _ _
 |void a=>exact .void a
 |slice i off l c r x h=>exact .slice i off l c r x (e _ _ h)
 |E4=>exact .E4
 |map i r x h=>exact .map i r x (e _ _ h)
 |nilFunc=>exact .nilFunc
 |nilIface=>exact .nilIface
 |iface t v v' _ f=>exact .iface t v v' f
 |func fn a g b n j _ o _ p q=>exact .func fn a g b n j (λi x y d hy=>p i x y d hy) o (λi x y d hy=>q i x y d hy)
 |agg a g j _ f=>exact .agg a g j (λi x y d hy=>f i x y d hy)
 |tuple a g j _ f=>exact .tuple a g j (λi x y d hy=>f i x y d hy)
def LR (R:Value->Value->Prop)(l a:aW):Prop:=l.length=a.length/\∀(i:Nat) x y,l[i]? = some x->a[i]? = some y->R x y
def AR (R:Value->Value->Prop)(a b:dW):Prop:=a.size=b.size/\∀(i:Nat) x y,a[i]? = some x->b[i]? = some y->R x y
theorem AR.list {R:Value->Value->Prop}{a b:dW}(h:AR R a b):LR R a.toList b.toList :=
 ⟨by simpa using h.1,λi x y d hy=>h.2 i x y (by simpa using d) (by simpa using hy)⟩
theorem LR.array {R:Value->Value->Prop}{l a:aW}(h:LR R l a):AR R l.toArray a.toArray :=
 ⟨by simpa using h.1,λi x y b hy=>h.2 i x y (by simpa using b) (by simpa using hy)⟩
theorem LR.of_array {R:Value->Value->Prop}{a b:dW}(h:LR R a.toList b.toList):AR R a b :=
 ⟨by simpa using h.1,λi x y d hy=>h.2 i x y (by simpa using d) (by simpa using hy)⟩
theorem LR.nil {R:Value->Value->Prop}:LR R [] []:=⟨rfl,λi x y a=>by simp at a⟩
theorem LR.cons {R:Value->Value->Prop}{v v':Value}{l b:aW}(d:R v v')(h:LR R l b):LR R (v::l) (v'::b) :=
 ⟨by simp[h.1],λi x y a hy=>by
  cases i with
  |zero=>simp at a hy;subst a hy;exact d
  |succ i=>exact h.2 i x y (by simpa using a) (by simpa using hy)⟩
theorem LR.xJ {R:Value->Value->Prop}{v:Value}{l b:aW}(h:LR R (v::l) b):∃v' a,b=v'::a/\R v v'/\LR R l a:=by
 cases b with
 |nil=>have:=h.1;simp at this
 |cons v' a=>exact⟨v',a,rfl,h.2 0 v v' rfl rfl,by have:=h.1;simpa using this,λi x y d hy=>h.2 (i+1) x y (by simpa using d) (by simpa using hy)⟩
theorem LR.Ie {R:Value->Value->Prop}{a:aW}(h:LR R [] a):a=[]:=by
 have:=h.1;simpa using this.symm
theorem LR.append {R:Value->Value->Prop}{a e b f:aW}(h:LR R a e)(k:LR R b f):LR R (a++b) (e++f) :=
 ⟨by simp[h.1,k.1],λi x y d hy=>by
  rw[List.getElem?_append]at d hy;by_cases hi:i<a.length
  .rw[ag hi]at d;rw[ag (h.1 ▸ hi)]at hy;exact h.2 i x y d hy
  rw[aa hi]at d;rw[aa (h.1 ▸ hi)]at hy;exact k.2 _ x y d (by rw[h.1];exact hy)⟩
theorem LR.get {R:Value->Value->Prop}{a d:aW}(h:LR R a d){i:Nat}{x:Value}(f:a[i]? = some x):∃y,d[i]? = some y/\R x y:=by
 have e:i<a.length:=(bH.1 f).1;have b:i<d.length:=h.1 ▸ e;exact⟨d[i],by simp[b],h.2 i x _ f (by simp[b])⟩
theorem LR.set {R:Value->Value->Prop}{a e:aW}(h:LR R a e)(i:Nat){v v':Value}(k:R v v'):LR R (a.set i v) (e.set i v') :=
 ⟨by simp[h.1],λj x y d hy=>by
  rw[oC]at d hy;by_cases b:i=j
  .rw[ag b]at d hy;by_cases f:i<a.length
   .have g:i<e.length:=h.1 ▸ f;rw[ag (b ▸ f)]at d;rw[ag (b ▸ g)]at hy;cases d;cases hy;exact k
   rw[aa (b ▸ f)]at d;cases d
  rw[aa b]at d hy;exact h.2 j x y d hy⟩
theorem LR.mono {R b:Value->Value->Prop}(e:∀x y,R x y->b x y){a d:aW}(h:LR R a d):LR b a d:=⟨h.1,λi x y f hy=>e _ _ (h.2 i x y f hy)⟩
theorem AR.mono {R b:Value->Value->Prop}(e:∀x y,R x y->b x y){a d:dW}(h:AR R a d):AR b a d:=⟨h.1,λi x y f hy=>e _ _ (h.2 i x y f hy)⟩
mutual
theorem eu {ρ:Ren}:∀v,br v=true->bR ρ v v
 |.bool _,_=>.bool _
 |.int _ _,_=>.int _ _
 |.float _ _,_=>.float _ _
 |.complex _ _ _,_=>.complex _ _ _
 |.string _,_=>.string _
 |.pointer none,_=>.xI
 |.pointer (some _),h=>by simp[br]at h
 |.slice none _ _,_=>.nJ _ _
 |.slice (some _) _ _,h=>by simp[br]at h
 |.map none,_=>.E4
 |.map (some _),h=>by simp[br]at h
 |.chan _,h=>by simp[br]at h
 |.func fn a b,h=>by
  simp only[br,ak]at h;exact .func fn a a b b rfl (rY a h.1) rfl (rY b h.2)
 |.nilFunc,_=>.nilFunc
 |.iface t v,h=>.iface t v v (eu v (by simpa[br] using h))
 |.nilIface,_=>.nilIface
 |.agg cs,h=>.agg cs cs rfl (rY cs (by simpa[br] using h))
 |.tuple cs,h=>.tuple cs cs rfl (rY cs (by simpa[br] using h))
theorem rY {ρ:Ren}:∀a:dW,nU a=true->∀(i:Nat) x y,a[i]? = some x->a[i]? = some y->bR ρ x y
 |⟨l⟩,h,i,x,y,b,hy=>vf l (by simpa[nU] using h) i x y (by simpa using b) (by simpa using hy)
theorem vf {ρ:Ren}:∀l:aW,dm l=true->∀(i:Nat) x y,l[i]? = some x->l[i]? = some y->bR ρ x y
 |[],_,i,x,y,a,_=>by simp at a
 |v::l,h,0,x,y,a,hy=>by
  simp only[dm,ak]at h;simp at a hy;subst a hy;exact eu v h.1
 |v::l,h,i+1,x,y,a,hy=>by
  simp only[dm,ak]at h;exact vf l h.2 i x y (by simpa using a) (by simpa using hy)
end
theorem qy:∀{l:aW},dm l=true->∀{i:Nat} {x:Value},l[i]? = some x->br x=true
 |[],_,i,x,a=>by simp at a
 |v::l,h,0,x,a=>by
  simp only[dm,ak]at h;simp at a;subst a;exact h.1
 |v::l,h,i+1,x,a=>by
  simp only[dm,ak]at h;exact qy h.2 (by simpa using a)
theorem yS {a:dW}(h:nU a=true){i:Nat}{x:Value}(b:a[i]? = some x):br x=true:=by
 cases a with
 |mk l=>exact qy (l:=l) (by simpa[nU] using h) (by simpa using b)
theorem J5 {a d:dW}(e:a.size=d.size)(h:∀(i:Nat) x y,a[i]? = some x->d[i]? = some y->y=x):d=a:=by
 apply nX;intro i;by_cases hi:i<a.size
 .have b:i<d.size:=e ▸ hi;rw[bW hi,bW b];exact bO some (h i _ _ (bW hi) (bW b))
 rw[fP (fX hi),fP (fX (e ▸ hi))]
theorem m9 {ρ:Ren}{v v':Value}(h:bR ρ v v')(d:br v=true):v'=v:=by
 induction h with
 |Us=>simp[br]at d
 |nan=>simp[br]at d
 |cpx=>simp[br]at d
 |ptr=>simp[br]at d
 |slice=>simp[br]at d
 |void=>simp[vd,br]at d
 |map=>simp[br]at d
 |iface t v v' _ f=>rw[f (by simpa[br] using d)]
 |func fn a j b n g _ k _ l m =>
  simp only[br,ak]at d;rw[J5 g (λi x y e hy=>l i x y e hy (yS d.1 e)),J5 k (λi x y e hy=>m i x y e hy (yS d.2 e))]
 |agg a j g _ f =>
  simp only[br]at d;rw[J5 g (λi x y e hy=>f i x y e hy (yS d e))]
 |tuple a j g _ f =>
  simp only[br]at d;rw[J5 g (λi x y e hy=>f i x y e hy (yS d e))]
 |_=>rfl
theorem bR.undef {ρ:Ren}:bR ρ Go.undef Go.undef:=.tuple _ _ rfl (λi x y a=>by simp at a)
theorem bR.cells {ρ:Ren}{v v':Value}(h:bR ρ v v'):AR (bR ρ) v.cells v'.cells:=by
 have one:∀{v v':Value},bR ρ v v'->AR (bR ρ) #[v] #[v']:=λh=>⟨rfl,λi x y d hy=>by
  cases i with
  |zero=>simp at d hy;subst d hy;exact h
  |succ i=>simp at d⟩
 cases h with
 |agg a g e f=>exact⟨e,f⟩
 |Us=>exact one (.Us _ _)
 |nan m h=>exact one (.nan m h)
 |cpx k x y d hy=>exact one (.cpx k x y d hy)
 |bool=>exact one (.bool _)
 |int=>exact one (.int _ _)
 |float=>exact one (.float _ _)
 |complex=>exact one (.complex _ _ _)
 |string=>exact one (.string _)
 |xI=>exact one .xI
 |ptr i off r x h=>exact one (.ptr i off r x h)
 |nJ=>exact one (.nJ _ _)
 |void a=>exact one (.void a)
 |slice i off l c r x h=>exact one (.slice i off l c r x h)
 |E4=>exact one .E4
 |map i r x h=>exact one (.map i r x h)
 |nilFunc=>exact one .nilFunc
 |nilIface=>exact one .nilIface
 |iface t v v' h=>exact one (.iface t v v' h)
 |func fn a g b j e f n o=>exact one (.func fn a g b j e f n o)
 |tuple a g e f=>exact one (.tuple a g e f)
theorem bR.plain {ρ:Ren}{v v':Value}(h:bR ρ v v')(a:plainCell v=true):v'.oneCell'=true:=by
 cases h<;>first|rfl|(simp[plainCell]at a)
def pN (R:Value->Value->Prop)(l:aW)(C:dW):Prop:=l.length<=C.size/\∀(j:Nat) v,l[j]? = some v->qT v=false->∃v',C[j]? = some v'/\R v v'
def sq (C:dW)(fr:Nat×Nat):Prop:=fr.1<=fr.2/\∀j,j<C.size->¬(fr.1<=j/\j<fr.2)
theorem ng {α:Type}(x y:α):ah true x y=x:=rfl
theorem Mk {α:Type}(x y:α):ah false x y=y:=rfl
theorem ay {α:Type}(b:Bool)(x y:α):ah b x y=if b then x else y:=by cases b<;>rfl
theorem Tr.xK {α:Type}(l:Tr α)(v:Option α)(r:Tr α)(k:Nat):(Tr.n l v r).get k=if k=0 then v else if k%2=1 then l.get (k/2) else r.get (k/2-1):=by
 show ah (Nat.beq k 0) v (ah (Nat.beq (k%2) 1) (l.get (k/2)) (r.get (k/2-1)))=_;rw[ay,ay];simp only[aQ]
theorem Tr.afU {α:Type}(l:Tr α)(v:Option α)(r:Tr α)(k:Nat)(x:α):(Tr.n l v r).set k x=if k=0 then some (.n l (some x) r) else if k%2=1 then (l.set (k/2) x).map (λa=>.n a v r) else (r.set (k/2-1) x).map (λr'=>.n l v r'):=by
 show ah (Nat.beq k 0) (some (Tr.n l (some x) r)) (ah (Nat.beq (k%2) 1) (Option.rec (motive:=λ_=>Option (Tr α)) none (λa=>some (Tr.n a v r)) (l.set (k/2) x)) (Option.rec (motive:=λ_=>Option (Tr α)) none (λr'=>some (Tr.n l v r')) (r.set (k/2-1) x)))=_;rw[ay,ay];simp only[aQ];cases l.set (k/2) x<;>cases r.set (k/2-1) x<;>rfl
theorem Tr.Ml {α:Type}(j:Nat):(Tr.e:Tr α).get j=none:=rfl
theorem Tr.J6 {α:Type}{x:α}:∀(d k:Nat),k<=d->∀j,(Tr.mk1 x d k).get j=if j=k then some x else none
 |0,k,i,j=>by
  obtain rfl:k=0:=by omega
  show (Tr.n .e (some x) .e).get j=_;rw[Tr.xK];simp only[Tr.Ml];split<;>simp_all
 |d+1,k,i,j=>by
  show (ah (Nat.beq k 0) (Tr.n .e (some x) .e) (ah (Nat.beq (k%2) 1) (.n (Tr.mk1 x d (k/2)) none .e) (.n .e none (Tr.mk1 x d (k/2-1))))).get j=_;rw[ay,ay];simp only[aQ];by_cases g:k=0
  .rw[ag g,Tr.xK];simp only[Tr.Ml];subst g;split<;>simp_all
  rw[aa g];by_cases h:k%2=1
  .rw[ag h,Tr.xK,Tr.J6 d (k/2) (by omega)];simp only[Tr.Ml];by_cases a:j=0
   .rw[ag a,aa (by omega)]
   rw[aa a];by_cases b:j%2=1
   .rw[ag b];by_cases f:j/2=k/2
    .rw[ag f,ag (by omega)]
    rw[aa f,aa (by omega)]
   rw[aa b,aa (by omega)]
  rw[aa h,Tr.xK,Tr.J6 d (k/2-1) (by omega)];simp only[Tr.Ml];by_cases a:j=0
  .rw[ag a,aa (by omega)]
  rw[aa a];by_cases b:j%2=1
  .rw[ag b,aa (by omega)]
  rw[aa b];by_cases f:j/2-1=k/2-1
  .rw[ag f,ag (by omega)]
  rw[aa f,aa (by omega)]
theorem Tr.j5 {α:Type}(x:α):∀(t:Tr α) (k:Nat),∃d,t.set k x=some d:=by
 intro t;induction t with
 |e=>exact λk=>⟨_,rfl⟩
 |n l v r a b =>
  intro k;rw[Tr.afU];obtain⟨h,f⟩:=a (k/2);obtain⟨r',g⟩:=b (k/2-1);rw[f,g];split
  .exact ⟨_,rfl⟩
  split<;>exact⟨_,rfl⟩
theorem Tr.yT {α:Type}{x:α}:∀{t d:Tr α} {k:Nat},t.set k x=some d->∀j,d.get j=if j=k then some x else t.get j:=by
 intro t;induction t with
 |e =>
  intro d k h j;have p:some (Tr.mk1 x k k)=some d:=h;cases p;exact Tr.J6 k k (aG k) j
 |n l v r g i =>
  intro d k h j;rw[Tr.afU]at h;by_cases m:k=0
  .rw[ag m]at h;cases h;rw[Tr.xK,Tr.xK,m];by_cases a:j=0<;>simp[a]
  rw[aa m]at h;by_cases o:k%2=1
  .rw[ag o]at h;simp only[aO]at h;obtain⟨u,q,rfl⟩:=h;rw[Tr.xK,Tr.xK];by_cases a:j=0
   .rw[ag a,ag a,aa (by omega)]
   rw[aa a,aa a];by_cases b:j%2=1
   .rw[ag b,ag b,g q];by_cases f:j/2=k/2
    .rw[ag f,ag (by omega)]
    rw[aa f,aa (by omega)]
   rw[aa b,aa b,aa (by omega)]
  rw[aa o]at h;simp only[aO]at h;obtain⟨r',s,rfl⟩:=h;rw[Tr.xK,Tr.xK];by_cases a:j=0
  .rw[ag a,ag a,aa (by omega)]
  rw[aa a,aa a];by_cases b:j%2=1
  .rw[ag b,ag b,aa (by omega)]
  rw[aa b,aa b,i s];by_cases f:j/2-1=k/2-1
  .rw[ag f,ag (by omega)]
  rw[aa f,aa (by omega)]
theorem oG (i n:Nat):Nat.ble (Nat.succ i) n=decide (i<n):=by
 rw[bX];simp[bF];omega
theorem A9 (i n:Nat):Nat.ble i n=decide (i<=n):=by
 rw[bX];simp[bF]
theorem Mem.get_eq (H:Mem)(i:Nat):H.get i=if i<H.size then H.t.get i else none:=by
 unfold Mem.get;rw[ay,oG];simp
theorem Mem.fM {H:Mem}{i:Nat}{b:kV}(h:H.get i=some b):i<H.size:=by
 rw[Mem.get_eq]at h;split at h
 .assumption
 cases h
theorem Mem.eG {H a:Mem}{b:kV}(h:H.push b=some a):a.size=H.size+1/\a.lk=H.lk/\∀i,a.get i=if i=H.size then some b else H.get i:=by
 unfold Mem.push at h;cases d:H.t.set H.size b with
 |none=>rw[d]at h;cases h
 |some t =>
  rw[d]at h;have g:some (Mem.mk (H.size+1) H.lk t)=some a:=h;cases g;refine⟨rfl,rfl,λi=>?_⟩;rw[Mem.get_eq,Mem.get_eq];simp only[Tr.yT d];by_cases e:i=H.size
  .subst e;simp
  rw[aa e,aa e];by_cases f:i<H.size
  .rw[ag f,ag (by omega)]
  rw[aa f,aa (by omega)]
theorem Mem.mE {H a:Mem}{i:Nat}{b:kV}(h:H.set i b=some a):i<H.size/\H.lk<=i/\a.size=H.size/\a.lk=H.lk/\∀j,a.get j=if j=i then some b else H.get j:=by
 unfold Mem.set at h;rw[ay,ay,oG,A9]at h;split at h
 .rename_i hi;simp only[aZ]at hi;split at h
  .rename_i f;simp only[aZ]at f;cases d:H.t.set i b with
   |none=>rw[d]at h;cases h
   |some t =>
    rw[d]at h;have g:some (Mem.mk H.size H.lk t)=some a:=h;cases g;refine⟨hi,f,rfl,rfl,λj=>?_⟩;rw[Mem.get_eq,Mem.get_eq];simp only[Tr.yT d];by_cases e:j=i
    .subst e;rw[ag rfl,ag rfl,ag hi]
    rw[aa e,aa e]
  cases h
 cases h
structure Cx where
 P:Program
 B:Nat
 L:Nat
 G:Nat
 w0:World
 K:Nat->Option Obj
def Cx.own (c:Cx)(r:Nat):Prop:=c.B<=r/\c.K r=none
structure zm (c:Cx)(w:World):Prop where
 below:Below c.B c.w0 w
 kept:∀r o,c.K r=some o->w.heap[r]? = some o
theorem zm.drew {c:Cx}{w:World}(h:zm c w):zm c w.drew:=⟨h.below.drew,h.kept⟩
theorem zm.grow {c:Cx}{w w':World}(h:zm c w)(d:c.B<=w.heap.size)(a:Below w.heap.size w w'):zm c w' :=
 ⟨h.below.trans (a.mono d),λr o e=>by
  have b:=h.kept r o e;rw[a.block r (aF.1 b).1];exact b⟩
theorem zm.alloc {c:Cx}{w:World}(h:zm c w)(a:c.B<=w.heap.size)(o:Obj):zm c (w.alloc o):=h.grow a ((Below.refl _ _).alloc (aG _) _)
theorem zm.Mm {c:Cx}{w w':World}(h:zm c w){r:Nat}(b:c.own r)(d:Below c.B w w')(f:∀k,k≠r->w'.heap[k]? = w.heap[k]?):zm c w' :=
 ⟨h.below.trans d,λk o a=>by
  rw[f k (λe=>by subst e;rw[b.2]at a;cases a)];exact h.kept k o a⟩
theorem zm.fresh {c:Cx}{w:World}(h:zm c w)(a:c.B<=w.heap.size):c.own w.heap.size :=
 ⟨a,by
  cases b:c.K w.heap.size with
  |none=>rfl
  |some o=>have:=h.kept _ _ b;simp at this⟩
structure E6 (P:Program)(t:TypeId)(n:Nat)(C:dW):Prop where
 zero:∀(j:Nat) (v:Value),n<=j->C[j]? = some v->(∃z,nI P t=some z/\v∈z.cells.toList)\/(P.underlying t=some (.int .u8)/\v = .int .u8 0)
 room:C.size<=n\/(∀s,dJ P t=some s->C.size<9223372036854775808*s)\/9223372036854775808<=n
theorem E6.full {P:Program}{t:TypeId}{n:Nat}{C:dW}(h:C.size<=n):E6 P t n C:=⟨λj v b a=>by
 have:=(aF.1 a).1;omega,.inl h⟩
def afV (c:Cx)(ρ:Ren)(w:World)(i:Nat)(b:kV):Prop :=
 ∃r x C fr s,ρ i=some (r,x)/\((i<c.L/\c.K r=none)\/c.own r)/\w.heap[r]? = some (.cells C b.elem fr)/\(i<c.L\/sq C fr)/\((i<c.L\/dJ c.P b.elem=some s)/\(b.fix=true->x=0))/\C.size=b.cells.length+x*s/\pN (bR ρ) b.cells C/\(i<c.L\/E6 c.P b.elem b.cells.length C)
def turns (es:List MapEntry):aW:=es.flatMap λe=>[e.key,e.val]
def Ds (c:Cx)(ρ:Ren)(w:World)(i:Nat)(b:kV):Prop :=
 ∃r es clock,ρ i=some (r,0)/\c.own r/\w.heap[r]? = some (.map es clock)/\LR (bR ρ) b.cells (turns es.toList)
structure fc (c:Cx)(ρ:Ren)(H:Mem)(w:World):Prop where
 stay:zm c w
 base:c.B<=w.heap.size
 dom:∀i x,ρ i=some x->i<H.size
 lk:c.L<=H.lk
 A0:c.L<=H.size
 kE:∀g,g<c.G->ρ g=some (g,0)
 blk:∀i b,H.get i=some b->b.live=true->afV c ρ w i b
 inj:∀i j bi bj r x y,H.get i=some bi->bi.live=true->H.get j=some bj->bj.live=true->ρ i=some (r,x)->ρ j=some (r,y)->i=j
 maps:∀i b,H.get i=some b->jK b=true->Ds c ρ w i b
 xm:∀i j bi bj r x y,H.get i=some bi->jK bi=true->H.get j=some bj->jK bj=true->ρ i=some (r,x)->ρ j=some (r,y)->i=j
theorem fc.below {c:Cx}{ρ:Ren}{H:Mem}{w:World}(h:fc c ρ H w):Below c.B c.w0 w:=h.stay.below
theorem Sj {b:kV}(h:b.live=true):jK b=false:=by unfold jK;rw[h]
theorem Ds.mono {c:Cx}{ρ ρ':Ren}{w:World}{i:Nat}{b:kV}(a:ρ.le ρ')(h:Ds c ρ w i b):Ds c ρ' w i b:=by
 obtain⟨r,es,clock,d,e,f,g⟩:=h;exact⟨r,es,clock,a _ _ d,e,f,g.mono λ_ _=>bR.mono a⟩
theorem Ds.heap {c:Cx}{ρ:Ren}{w w':World}{i:Nat}{b:kV}(h:Ds c ρ w i b)(a:∀(r:Nat) (es:Array MapEntry) (clock:Nat),w.heap[r]? = some (Obj.map es clock)->w'.heap[r]? = some (Obj.map es clock)):Ds c ρ w' i b:=by
 obtain⟨r,es,clock,d,e,f,g⟩:=h;exact⟨r,es,clock,d,e,a _ _ _ f,g⟩
theorem eA {H:Mem}{i:Nat}{b:kV}(h:alive H i=some b):H.get i=some b/\b.live=true:=by
 unfold alive at h;split at h
 .rename_i e a;cases d:e.live with
  |true=>rw[d]at h;cases h;exact⟨a,d⟩
  |false=>rw[d]at h;cases h
 cases h
section
variable {c:Cx} {w:World} {ρ:Ren} {H:Mem}
theorem fc.drew (h:fc c ρ H w):fc c ρ H w.drew:=⟨h.stay.drew,h.base,h.dom,h.lk,h.A0,h.kE,h.blk,h.inj,h.maps,h.xm⟩
theorem fc.grow {w':World}(h:fc c ρ H w)(a:Below w.heap.size w w'):fc c ρ H w':=by
 refine⟨h.stay.grow h.base a,bA h.base a.size,h.dom,h.lk,h.A0,h.kE,λi b hi f=>?_,h.inj,λi b hi g=>(h.maps i b hi g).heap λr es clock d=>by rw[a.block r (aF.1 d).1];exact d,h.xm⟩;obtain⟨r,x,C,fr,s,j,k,e,l⟩:=h.blk i b hi f;have m:r<w.heap.size:=(aF.1 e).1;exact⟨r,x,C,fr,s,j,k,by rw[a.block r m];exact e,l⟩
theorem pN.mono {R a:Value->Value->Prop}(b:∀x y,R x y->a x y){l:aW}{C:dW}(h:pN R l C):pN a l C :=
 ⟨h.1,λj v d e=>let ⟨v',f,g⟩:=h.2 j v d e;⟨v',f,b _ _ g⟩⟩
def Ren.put (ρ:Ren)(i:Nat)(x:Nat×Nat):Ren:=λj=>if j=i then some x else ρ j
theorem Ren.nK (ρ:Ren)(i:Nat)(x:Nat×Nat):ρ.put i x i=some x:=by simp[Ren.put]
theorem Ren.oZ (ρ:Ren){i j:Nat}(x:Nat×Nat)(h:j≠i):ρ.put i x j=ρ j:=by simp[Ren.put,h]
theorem fc.unused (h:fc c ρ H w){i:Nat}(hi:H.size<=i):ρ i=Option.none:=by
 cases a:ρ i with
 |none=>rfl
 |some x=>have:=h.dom i x a;omega
theorem fc.xL (h:fc c ρ H w){i:Nat}(hi:H.size<=i)(x:Nat×Nat):ρ.le (ρ.put i x):=by
 intro j y hy;have:j≠i:=by intro e;subst e;rw[h.unused hi]at hy;cases hy
 rw[Ren.oZ ρ x this];exact hy
theorem fc.add {w':World}{G:Mem}(h:fc c ρ H w){t:TypeId}{cs:aW}{C:dW}{fr:Nat×Nat}{r x s:Nat}{K:Bool}(U:H.push ⟨cs,t,true,K⟩=some G)
 (L:zm c w') (l:c.B<=w'.heap.size) (hold:∀(i:Nat) (b:kV),H.get i=some b->b.live=true->afV c ρ w' i b) (p:∀(i:Nat) (b:kV),H.get i=some b->jK b=true->Ds c ρ w' i b)
 (d:∀(i:Nat) (b:kV) r' y,H.get i=some b->b.live=true->ρ i=some (r',y)->r'≠r)
 (u:w'.heap[r]? = some (.cells C t fr)) (V:c.own r) (W:sq C fr) (X:dJ c.P t=some s) (M:C.size=cs.length+x*s) (Y:pN (bR ρ) cs C) (Z:K=true->x=0) (N:E6 c.P t cs.length C) :
 fc c (ρ.put H.size (r,x)) G w':=by
 have e:=h.xL (aG H.size) (r,x);obtain⟨q1,q2,q3⟩:=Mem.eG U;have v:∀{i:Nat} {b:kV},G.get i=some b->(i<H.size/\H.get i=some b)\/(i=H.size/\b=⟨cs,t,true,K⟩):=by
  intro i b hi;rw[q3]at hi;by_cases m:i=H.size
  .rw[ag m]at hi;cases hi;exact .inr ⟨m,rfl⟩
  rw[aa m]at hi;exact .inl ⟨Mem.fM hi,hi⟩
 have n:∀{i:Nat} {b:kV},G.get i=some b->jK b=true->i<H.size/\H.get i=some b:=by
  intro i b hi A;rcases v hi with m|⟨_,rfl⟩
  .exact m
  rw[Sj rfl]at A;cases A
 refine⟨L,l,?_,by rw[q2];exact h.lk,by rw[q1];have:=h.A0;omega,λg hg=>e _ _ (h.kE g hg),?_,?_,λi b hi A=>(p i b (n hi A).2 A).mono e,λi j bi I q y z hi E J Q k a=>?_⟩
 .intro i y hy;rw[q1];by_cases hi:i=H.size
  .omega
  rw[Ren.oZ ρ _ hi]at hy;have:=h.dom i y hy;omega
 .intro i b hi hl;rcases v hi with⟨O,f⟩|⟨rfl,rfl⟩
  .obtain ⟨r',y,D,gr,s',m,h2,h3,h4,h5,h6,R⟩:=hold i b f hl;exact⟨r',y,D,gr,s',e _ _ m,h2,h3,h4,h5,h6,R.1.mono λ_ _=>bR.mono e,R.2⟩
  exact⟨r,x,C,fr,s,Ren.nK _ _ _,.inr V,u,.inr W,⟨.inr X,Z⟩,M,Y.mono λ_ _=>bR.mono e,.inr N⟩
 .intro i j bi I q y z hi S J T k a;rcases v hi with⟨O,f⟩|⟨rfl,rfl⟩
  .rw[Ren.oZ ρ _ (by omega)]at k;rcases v J with⟨F,o⟩|⟨rfl,rfl⟩
   .rw[Ren.oZ ρ _ (by omega)]at a;exact h.inj i j bi I q y z f S o T k a
   rw[Ren.nK]at a;cases a;exact absurd rfl (d i bi _ _ f S k)
  rcases v J with⟨F,o⟩|⟨rfl,rfl⟩
  .rw[Ren.oZ ρ _ (by omega)]at a;rw[Ren.nK]at k;cases k;exact absurd rfl (d j I _ _ o T a)
  rfl
 obtain⟨k1,k2⟩:=n hi E;obtain⟨k3,k4⟩:=n J Q;rw[Ren.oZ ρ _ (by omega)]at k a;exact h.xm i j bi I q y z k2 E k4 Q k a
theorem fc.new (h:fc c ρ H w){t:TypeId}{cs:aW}{C:dW}{fr:Nat×Nat}{x s:Nat}{k:Mem}{l:Bool}(q:H.push ⟨cs,t,true,l⟩=some k)
 (u:dJ c.P t=some s) (v:pN (bR ρ) cs C) (e:C.size=cs.length+x*s) (z:sq C fr) (A:l=true->x=0) (f:E6 c.P t cs.length C) :
 fc c (ρ.put H.size (w.heap.size,x)) k (w.alloc (.cells C t fr)):=by
 refine h.add q (h.stay.alloc h.base _) (bA h.base (by simp)) ?_ (λi b hi B=>(h.maps i b hi B).heap λr es clock m=>by rw[Below.heap_alloc _ _ _ (aF.1 m).1];exact m) ?_ (by show (w.heap.push _)[w.heap.size]? = _;simp) (h.stay.fresh h.base) z u e v A f
 .intro i b hi g;obtain⟨r,y,D,n,o,a,p,d,E⟩:=h.blk i b hi g;have j:r<w.heap.size:=(aF.1 d).1;exact⟨r,y,D,n,o,a,p,by rw[Below.heap_alloc _ _ _ j];exact d,E⟩
 intro i b r' y hi g j;obtain⟨F,G,D,n,o,a,p,d,_⟩:=h.blk i b hi g;rw[j]at a;cases a;exact nF (aF.1 d).1
theorem fc.less {l:Mem}(h:fc c ρ H w)(p:H.size<=l.size)(m:c.L<=l.lk)(e:∀(i:Nat) (b:kV),l.get i=some b->(b.live=true\/jK b=true)->H.get i=some b):fc c ρ l w:=by
 refine⟨h.stay,h.base,λi x q=>cU (h.dom i x q) p,m,bA h.A0 p,h.kE,λi b hi a=>h.blk i b (e i b hi (.inl a)) a,λi j bi f r x y hi g n k o d=>?_,
  λi b hi a=>h.maps i b (e i b hi (.inr a)) a,λi j bi f r x y hi g n k o d=>h.xm i j bi f r x y (e i bi hi (.inr g)) g (e j f n (.inr k)) k o d⟩
 exact h.inj i j bi f r x y (e i bi hi (.inl g)) g (e j f n (.inl k)) k o d
theorem o5 {H e:Mem}{i:Nat}(h:kill H i=some e):e.size=H.size/\e.lk=H.lk/\(∀(j:Nat) (b:kV),e.get j=some b->(b.live=true\/jK b=true)->H.get j=some b/\j≠i)/\(∀j,j≠i->e.get j=H.get j)/\H.lk<=i:=by
 unfold kill at h;split at h
 .rename_i b n;obtain⟨o,g,k,l,f⟩:=Mem.mE h;refine⟨k,l,λj p a m=>?_,λj a=>by rw[f,aa a],g⟩;rw[f]at a;by_cases d:j=i
  .rw[ag d]at a;cases a;simp[jK]at m
  rw[aa d]at a;exact⟨a,d⟩
 cases h
theorem fc.kill {a:Mem}{i:Nat}(h:fc c ρ H w)(b:kill H i=some a):fc c ρ a w:=by
 obtain⟨l,d,e,_⟩:=o5 b;exact h.less (by omega) (by rw[d];exact h.lk) λj f g k=>(e j f g k).1
def iO (w:World)(r:Nat)(o:Obj):World:={ w with heap:=w.heap.setIfInBounds r o }
theorem iD (w:World)(r:Nat)(o:Obj)(k:Nat)(h:k≠r):(iO w r o).heap[k]? = w.heap[k]? := by
 simp[iO,kZ h]
theorem s7 (w:World)(r:Nat)(o:Obj)(h:r<w.heap.size):(iO w r o).heap[r]? = some o:=by
 simp[iO,h]
theorem HP (w:World)(r:Nat)(o a:Obj):iO (iO w r o) r a=iO w r a:=by
 simp[iO]
theorem J8 (w:World)(r:Nat)(o:Obj)(h:w.heap[r]? = some o):iO w r o=w:=by
 have b:r<w.heap.size:=(aF.1 h).1;have:w.heap.setIfInBounds r o=w.heap:=by
  apply nX;intro k;rw[cX];by_cases a:r=k
  .subst a;simp[b];exact((aF.1 h).2).symm
  simp[a]
 simp[iO,this]
theorem D0 {r j:Nat}{C:dW}{t:TypeId}{fr:Nat×Nat}(v:Value)(h:w.heap[r]? = some (.cells C t fr)) :
 w.setCell ⟨r,j,none⟩ v=iO w r (.cells (C.setIfInBounds j v) t fr):=by
 have:w.heap.modify r (fun | .cells c elem frozen=>.cells (if (none:cu).isSome then c else c.setIfInBounds j v) elem frozen|o=>o)=w.heap.setIfInBounds r (.cells (C.setIfInBounds j v) t fr):=by
  apply nX;intro k;rw[lU,cX];by_cases a:r=k
  .subst a;have b:r<w.heap.size:=(aF.1 h).1;have d:=(aF.1 h).2;simp[b,d]
  simp[a]
 simp only[World.setCell,iO];rw[<-this];rfl
def pO (C:dW)(k:Nat):aW->dW
 |[]=>C
 |v::vs=>pO (C.setIfInBounds k v) (k+1) vs
theorem qz:∀(vs:aW) (C:dW) (k:Nat),(pO C k vs).size=C.size
 |[],_,_=>rfl
 |v::vs,C,k=>by simp[pO,qz vs]
theorem xd:∀(vs l:aW) (k:Nat),(pY l k vs).length=l.length
 |[],_,_=>rfl
 |v::vs,l,k=>by simp[pY,xd vs]
theorem pN.set {R:Value->Value->Prop}{l:aW}{C:dW}(h:pN R l C)(k:Nat){v v':Value}(f:R v v'):pN R (l.set k v) (C.setIfInBounds k v'):=by
 refine⟨by simpa using h.1,λj u a d=>?_⟩;rw[oC]at a;by_cases b:k=j
 .subst b;rw[ag rfl]at a;split at a
  .rename_i e;cases a;have g:k<C.size:=cU e h.1;exact⟨v',by simp[g],f⟩
  cases a
 rw[aa b]at a;obtain⟨i,m,n⟩:=h.2 j u a d;exact⟨i,by rw[cX,aa b];exact m,n⟩
theorem pN.put {R:Value->Value->Prop}:∀{vs a l:aW} {C:dW} {k:Nat},LR R vs a->pN R l C->pN R (pY l k vs) (pO C k a)
 |[],a,l,C,k,b,h=>by rw[b.Ie];exact h
 |v::vs,a,l,C,k,b,h=>by
  obtain⟨v',f,rfl,d,e⟩:=b.xJ;simp only[pY,pO];exact pN.put e (h.set k d)
theorem z6 {r off:Nat}{t:TypeId}{fr:Nat×Nat}:∀(vs:aW) (i:Nat) (C:dW) (w:World),w.heap[r]? = some (.cells C t fr)->sq C fr->off+i+vs.length<=C.size ->
 (∀v∈vs,v.oneCell'=true)->(storeCells ⟨r,off,none⟩ vs i).run c.P w = .ok () (iO w r (.cells (pO C (off+i) vs) t fr))
 |[],i,C,w,b,_,_,_=>by
  simp only[storeCells,pO];rw[J8 w r _ b];rfl
 |v::vs,i,C,w,b,f,n,l=>by
  simp only[aJ]at n;have g:(⟨r,off,none⟩:Addr).add i=⟨r,off+i,none⟩:=by
   unfold Addr.add;split
   .rename_i h;subst h;rfl
   rfl
  have d:off+i<C.size:=by omega
  have a:w.cell? ⟨r,off+i,none⟩=some C[off+i]:=by simp[World.cell?,b,d]
  have k:w.frozen? ⟨r,off+i,none⟩=false:=by
   have:=f.2 _ d;simp only[World.frozen?,b];rw[<-fy];intro m;simp at m;exact this m
  have e:=l v (by simp);simp only[storeCells,Sem.run_bind,g];rw[run_store c.P w _ v _ e,a];simp only[k,cT,eY,Result.andThen];rw[D0 v b];have o:r<w.heap.size:=(aF.1 b).1;rw[z6 vs (i+1) (C.setIfInBounds (off+i) v) _ (s7 w r _ o) ⟨f.1,λj p=>f.2 j (by simpa using p)⟩ (by simp;omega) (λu q=>l u (by simp[q]))];rw[HP];simp[pO,kU]
theorem fc.write (h:fc c ρ H w){i:Nat}{b:kV}{G:Mem}(hi:alive H i=some b){cs:aW}{r x:Nat}{C u:dW}{fr:Nat×Nat} (E7:H.set i { b with cells:=cs }=some G)
 (J:ρ i=some (r,x)) (K:w.heap[r]? = some (.cells C b.elem fr)) (L:cs.length=b.cells.length) (M:u.size=C.size) (hb:pN (bR ρ) cs u) (l:∀j,b.cells.length<=j->u[j]? = C[j]?) :
 fc c ρ G (iO w r (.cells u b.elem fr)):=by
 obtain⟨m,g⟩:=eA hi;obtain⟨T,e2,I,N,O⟩:=Mem.mE E7;obtain⟨r',x',D,gr,s,U,k2,V,o,k5,k6,k7⟩:=h.blk i b m g;rw[J]at U;cases U;rw[K]at V;cases V;have Mn:r<w.heap.size:=(aF.1 K).1;have W:c.own r:=by
  rcases k2 with k2|k2;· have:=h.lk;omega
  exact k2
 have P:∀{j:Nat} {f:kV},G.get j=some f->jK f=true->H.get j=some f:=by
  intro j f a A;rw[O]at a;by_cases d:j=i
  .rw[ag d]at a;cases a;rw[Sj (by exact g)]at A;cases A
  rw[aa d]at a;exact a
 refine⟨h.stay.Mm W ⟨rfl,rfl,rfl,by simp[iO],λk p=>iD _ _ _ _ (by have:=W.1;omega)⟩ (λk p=>iD _ _ _ _ p),by simpa[iO] using h.base,λj y hy=>by rw[I];exact h.dom j y hy,by rw[N];exact h.lk,by rw[I];exact h.A0,h.kE,?_,?_,λj f a A=>(h.maps j f (P a A) A).heap λq es clock Q=>?_,λj k f X q y z a Y p B F n=>h.xm j k f X q y z (P a Y) Y (P p B) B F n⟩
 .intro j f a t;rw[O]at a;by_cases d:j=i
  .subst d;rw[ag rfl]at a;cases a;exact⟨r,x,u,fr,s,J,k2,s7 _ _ _ Mn,by
    rcases o with o|o
    .exact .inl o
    exact .inr ⟨o.1,λq F=>o.2 q (by rw[<-M];exact F)⟩,k5,by simp only[L,M];exact k6,hb,k7.2.imp id λh=>⟨λj v a hv=>by
    simp only[L]at a;exact h.zero j v a (by rw[<-l j a];exact hv),by simp only[L,M];exact h.room⟩⟩
  rw[aa d]at a;obtain⟨q,y,E,er,s',m1,m2,m3,m4⟩:=h.blk j f a t;have R:q≠r:=by
   intro e;subst e;exact d (h.inj j i f b q y x a t m g m1 J)
  exact⟨q,y,E,er,s',m1,m2,by rw[iD _ _ _ _ R];exact m3,m4⟩
 .intro j k f X q y z a t p S F n;have back:∀{j:Nat} {f:kV},G.get j=some f->f.live=true->∃Z,H.get j=some Z/\Z.live=true:=by
   intro j f a t;rw[O]at a;by_cases d:j=i
   .subst d;exact⟨b,m,g⟩
   rw[aa d]at a;exact⟨f,a,t⟩
  obtain⟨b1,T,e2⟩:=back a t;obtain⟨b2,I,N⟩:=back p S;exact h.inj j k b1 b2 q y z T e2 I N F n
 rw[iD _ _ _ _ (λe=>by subst e;rw[K]at Q;cases Q)];exact Q
end
structure Cj (ρ:Ren)(a ar:Act):Prop where
 tmps:AR (bR ρ) a.tmps ar.tmps
 dr:ar.defers=a.defers
theorem Cj.mono {ρ ρ':Ren}{a ar:Act}(b:ρ.le ρ')(h:Cj ρ a ar):Cj ρ' a ar:=⟨h.tmps.mono λ_ _=>bR.mono b,h.dr⟩
theorem AR.getD {R:Value->Value->Prop}{a e:dW}(h:AR R a e)(i:Nat){d:Value}(f:R d d):R (a.getD i d) (e.getD i d):=by
 by_cases hi:i<a.size
 .have b:i<e.size:=h.1 ▸ hi;have:=h.2 i a[i] e[i] (by simp[hi]) (by simp[b]);simpa[Array.getD,hi,b] using this
 have b:¬i<e.size:=h.1 ▸ hi;simpa[Array.getD,hi,b] using f
theorem Cj.eval {ρ:Ren}{a ar:Act}(h:Cj ρ a ar){G:Nat}(d:∀g,g<G->ρ g=some (g,0)){x:Operand}(b:eU G x=true):bR ρ (a.eval x) (ar.eval x):=by
 cases x with
 |tmp t=>exact h.tmps.getD t .undef
 |const v=>exact eu v b
 |global g=>exact .ptr _ _ _ _ (d g (by simpa[eU,Nat.blt_eq] using b))
 |func f=>exact .func _ _ _ _ _ rfl (λi x y b=>by simp at b) rfl (λi x y b=>by simp at b)
theorem Cj.put {ρ:Ren}{a ar:Act}(h:Cj ρ a ar)(dst:Option Tmp){v v':Value}(f:bR ρ v v'):Cj ρ (a.put dst v) (ar.put dst v'):=by
 cases dst with
 |none=>exact h
 |some d =>
  refine⟨⟨by simpa[Act.put] using h.tmps.1,λi x y b hy=>?_⟩,h.dr⟩;simp only[Act.put,cX]at b hy;by_cases e:d=i
  .rw[ag e]at b hy;split at b
   .split at hy
    .cases b;cases hy;exact f
    cases hy
   cases b
  rw[aa e]at b hy;exact h.tmps.2 i x y b hy
section
variable {c:Cx} {P:Program} {w:World} {ρ:Ren} {H:Mem}
theorem iY {t:TypeId}{n:Nat}(h:dJ P t=some n)(w:World):(sizeOf t).run P w = .ok n w:=by
 unfold dJ at h;cases hi:P.info? t with
 |none=>simp[hi]at h
 |some i=>simp[hi]at h;simp[sizeOf,typeInfo,hi,h]
theorem yU {t:TypeId}{b:Bool}(h:zY P t=some b)(w:World):(isAgg t).run P w = .ok b w:=by
 unfold zY at h;cases a:P.underlying t with
 |none=>simp[a]at h
 |some d=>cases d<;>simp[a]at h<;>subst h<;>simp[isAgg,run_underlying a]
theorem oH {t:TypeId}{z:Value}(h:nI P t=some z)(w:World):(zeroValue t).run P w = .ok z w/\br z=true/\∃i,P.info? t=some i/\i.zero=some z:=by
 unfold nI at h;cases hi:P.info? t with
 |none=>simp[hi]at h
 |some i =>
  cases a:i.zero with
  |none=>simp[hi,a]at h
  |some d =>
   simp only[hi,a]at h;split at h
   .rename_i b;cases h;exact⟨by simp[zeroValue,typeInfo,hi,a],b,i,rfl,a⟩
   cases h
theorem su (r off n:Nat):(⟨r,off,none⟩:Addr).add n=⟨r,off+n,none⟩:=by
 unfold Addr.add;split
 .rename_i h;subst h;rfl
 rfl
theorem Mo {x:fS}{v:Value}(h:EP x=some v):x=some v/\qT v=false:=by
 unfold EP at h;split at h
 .rw[ay]at h;split at h
  .cases h
  rename_i a;cases h;exact⟨rfl,by simpa using a⟩
 cases h
theorem Cr:∀(vs:aW) (C:dW) (k j:Nat),k+vs.length<=j->(pO C k vs)[j]? = C[j]?
 |[],_,_,_,_=>rfl
 |v::vs,C,k,j,h=>by
  simp only[aJ]at h;simp only[pO];rw[Cr vs _ (k+1) j (by omega),cX,aa (by omega)]
theorem fc.cell (d:fc c ρ H w){i off r x:Nat}{b:kV}{v:Value}(hi:alive H i=some b)(e:ρ i=some (r,x))(f:b.cells[off]? = some v)(g:qT v=false) :
 ∃v',w.cell? ⟨r,off,none⟩=some v'/\bR ρ v v':=by
 obtain⟨h,j⟩:=eA hi;obtain⟨r',n,C,fr,s,a,k2,k,o,p,q,l⟩:=d.blk i b h j;rw[e]at a;cases a;obtain⟨v',m1,m⟩:=l.1.2 off v f g;exact⟨v',by simp[World.cell?,k,m1],m⟩
theorem fc.read (o:fc c ρ H w){i off n r x:Nat}{l:aW}(p:ρ i=some (r,x))(h:ia H i off n=some l) :
 ∃g,LR (bR ρ) l g/\l.length=n/\∀(j:Nat) v,g[j]? = some v->w.cell? ((⟨r,off,none⟩:Addr).add j)=some v:=by
 unfold ia at h;split at h
 .rename_i b q;split at h
  .rename_i s;rw[ay]at h;split at h
   .cases h
   rename_i t;cases h;have get:∀(j:Nat) v,((b.cells.drop off).take n)[j]? = some v->∃v',w.cell? ((⟨r,off,none⟩:Addr).add j)=some v'/\bR ρ v v':=by
    intro j v a;have f:qT v=false:=by
     cases u:qT v with
     |false=>rfl
     |true=>exact absurd (kj.2 ⟨v,bu a,u⟩) t
    rw[ez]at a;split at a
    .rw[hU]at a;rw[su];exact o.cell q p a f
    cases a
   have hlen:((b.cells.drop off).take n).length=n:=by simp;omega
   generalize (b.cells.drop off).take n=l at get hlen;refine⟨(List.range l.length).map λj=>(w.cell? ((⟨r,off,none⟩:Addr).add j)).getD undef,⟨by simp,λj x y k hy=>?_⟩,hlen,λj v a=>?_⟩
   .obtain ⟨v',d,m⟩:=get j x k;have e:j<l.length:=(bH.1 k).1;simp[e,d]at hy;subst hy;exact m
   have e:j<l.length:=by
    have:=(bH.1 a).1;simpa using this
   obtain⟨v',d,m⟩:=get j l[j] (by simp[e]);simp[e,d]at a;subst a;exact d
  cases h
 cases h
theorem LR.mF {R:Value->Value->Prop}{l a:aW}(h:LR R l a):a.length=l.length:=h.1.symm
theorem Sl (f:fc c ρ H w){t:TypeId}{x g v:Value}(m:bR ρ x g)(h:sS c.P H t x=some v) :
 ∃v',(Instr.loadAt t g).run c.P w = .ok v' w/\bR ρ v v':=by
 unfold sS at h;split at h
 .rename_i i off;cases m with
  |ptr _ _ r y j =>
   split at h
   .rename_i n d o;simp only[aO]at h;obtain⟨l,p,rfl⟩:=h;obtain⟨k,a,e,q⟩:=f.read j p;refine⟨.agg k.toArray,?_,?_⟩
    .have:=run_loadCells_list (P:=c.P) w ⟨r,off,none⟩ k q;rw[a.mF,e]at this;simp[Instr.loadAt,Instr.sureAddr,loadVar,yU d,iY o,this]
    exact .agg _ _ a.array.1 a.array.2
   .rename_i d;split at h
    .rename_i b s;obtain⟨u,z⟩:=Mo h;obtain⟨v',a,e⟩:=f.cell s j u z;exact⟨v',by simp[Instr.loadAt,Instr.sureAddr,loadVar,yU d,a],e⟩
    cases h
   cases h
 cases h
theorem E8 (k:fc c ρ H w){i off r x:Nat}{vs a:aW}{q:Mem}(t:ρ i=some (r,x))(e:LR (bR ρ) vs a)(h:js H i off vs=some q) :
 ∃w',(storeCells ⟨r,off,none⟩ a).run c.P w = .ok () w'/\fc c ρ q w'/\w'.heap.size=w.heap.size:=by
 unfold js at h;split at h
 .rename_i l;cases h;have:vs=[]:=by simpa using l
  subst this;rw[e.Ie];exact⟨w,rfl,k,rfl⟩
 split at h
 .rename_i b u;split at h
  .rename_i y;simp only[ak,aZ,aN]at y;obtain⟨B,m⟩:=y;obtain⟨D,E⟩:=eA u;obtain⟨r',J,C,fr,s,z,k2,A,n,K,M,F⟩:=k.blk i b D E;rw[t]at z;cases z;have f:∀v∈a,v.oneCell'=true:=by
    intro v G;obtain⟨j,o⟩:=fB G;have p:j<a.length:=(bH.1 o).1;have d:j<vs.length:=e.1 ▸ p;exact(e.2 j vs[j] v (by simp[d]) o).plain (m _ (ko d))
   have I:¬i<c.L:=by
    have:=k.lk;have:=(Mem.mE h).2.1;omega
   have n:=n.resolve_left I;have g:=z6 (c:=c) (off:=off) a 0 C w A n (by rw[e.mF];omega) f;exact⟨_,g,k.write u h t A (xd _ _ _) (qz _ _ _) (by simpa using F.1.put e) (λj o=>Cr _ _ _ _ (by have:=e.mF;omega)),by simp[iO]⟩
  cases h
 cases h
theorem WI (f:fc c ρ H w){t:TypeId}{x d y a:Value}{e:Mem}(g:bR ρ x d)(hy:bR ρ y a)(h:tN c.P H t x y=some e) :
 ∃w',(Instr.storeAt t d a).run c.P w = .ok () w'/\fc c ρ e w':=by
 unfold tN at h;split at h
 .rename_i i off n j;cases g with
  |ptr _ _ r z k =>
   split at h
   .rename_i l;obtain⟨w',m,o,_⟩:=E8 f k hy.cells.list h;refine⟨w',?_,o⟩;have b:a.cells.size=n:=by rw[<-hy.cells.1];exact l
    simp[Instr.storeAt,Instr.sureAddr,storeVar,iY j,b,m]
   cases h
 cases h
theorem LR.begins {R:Value->Value->Prop}{l a:aW}(h:LR R l a):pN R l a.toArray:=⟨by simp[h.1],λj v b _=>by
 obtain⟨v',d,e⟩:=h.get b;exact⟨v',by simpa using d,e⟩⟩
theorem LR.zJ {R:Value->Value->Prop}{l a:aW}(h:LR R l a)(b:dW):pN R l (a.toArray++b):=⟨by simp[h.1],λj v e _=>by
 obtain⟨v',d,f⟩:=h.get e;have g:j<a.length:=(bH.1 d).1;exact⟨v',by rw[ij,ag (by simpa using g)];simpa using d,f⟩⟩
theorem rZ (C:dW):sq C (0,0):=⟨aG _,λj _=>by simp⟩
theorem J9 (b:fc c ρ H w){t:TypeId}{s:Nat}{cs:aW}{C:dW}{d:Mem}{e:Bool}(f:H.push ⟨cs,t,true,e⟩=some d)(g:dJ c.P t=some s)(a:LR (bR ρ) cs C.toList) :
 ∃ ρ',ρ.le ρ'/\ρ' H.size=some (w.heap.size,0)/\fc c ρ' d (w.alloc (.cells C t)):=by
 refine⟨_,b.xL (aG _) _,Ren.nK _ _ _,b.new (x:=0) f g ?_ ?_ (rZ _) (λ_=>rfl) (E6.full (by have:=a.1;simp at this;omega))⟩
 .have:=a.begins;simpa using this
 have:=a.1;simp at this;omega
theorem uJ {H a:Mem}{t:TypeId}{cs:aW}{v:Value}(h:wh H t cs=some (v,a)):H.push ⟨cs,t,true,true⟩=some a/\v = .pointer (some ⟨H.size,0,none⟩):=by
 unfold wh at h;split at h
 .rename_i d b;cases h;exact⟨b,rfl⟩
 cases h
theorem pZ {H a:Mem}{t:TypeId}{cs:aW}{len cap:Nat}{v:Value}(h:mw H t cs len cap=some (v,a)):H.push ⟨cs,t,true,false⟩=some a/\v = .slice (some ⟨H.size,0,none⟩) len cap:=by
 unfold mw at h;split at h
 .rename_i d b;cases h;exact⟨b,rfl⟩
 cases h
theorem s8 {H a:Mem}{t:TypeId}{cs:aW}{len cap:Nat}{v:Value}(h:wj H t cs len cap=some (v,a)):H.push ⟨cs,t,true,true⟩=some a/\v = .slice (some ⟨H.size,0,none⟩) len cap:=by
 unfold wj at h;split at h
 .rename_i d b;cases h;exact⟨b,rfl⟩
 cases h
theorem Ba {t:TypeId}{z:Value}(h:nI P t=some z):∃s,dJ P t=some s:=by
 obtain⟨_,_,i,hi,_⟩:=oH h (default:World);exact⟨i.size,by simp[dJ,hi]⟩
theorem WJ (d:fc c ρ H w){t:TypeId}{v:Value}{a:Mem}(h:sY c.P t H=some (v,a)) :
 ∃ ρ' w' v',ρ.le ρ'/\fc c ρ' a w'/\bR ρ' v v'/\(Instr.alloc t true (.tuple #[])).run c.P w = .ok v' w':=by
 unfold sY at h;split at h
 .rename_i z b;obtain⟨e,rfl⟩:=uJ h;obtain⟨f,g,i,hi,j⟩:=oH b w;obtain⟨s,k⟩:=Ba b;obtain⟨ρ',l,k2,m⟩:=J9 d e k (eu (ρ:=ρ) z g).cells.list;exact⟨ρ',_,_,l,m,.ptr _ _ _ _ k2,by simp[Instr.alloc,f,newVar,newRow]⟩
 cases h
theorem ahk (d:fc c ρ H w){t:TypeId}{x a v:Value}{b:Mem}(e:bR ρ x a)(h:Ib c.P t x H=some (v,b)) :
 ∃ ρ' w' v',ρ.le ρ'/\fc c ρ' b w'/\bR ρ' v v'/\(Instr.box t a).run c.P w = .ok v' w':=by
 unfold Ib at h;split at h
 .rename_i s f;obtain⟨g,rfl⟩:=uJ h;obtain⟨ρ',i,k2,j⟩:=J9 d g f e.cells.list;exact⟨ρ',_,_,i,j,.ptr _ _ _ _ k2,by simp[Instr.box,newVar,newRow]⟩
 cases h
def PR (R:Value->Value->Prop):List (Nat×Value)->List (Nat×Value)->Prop
 |[],[]=>True
 |(i,v)::l,(j,u)::m=>i=j/\R v u/\PR R l m
 |_,_=>False
theorem AR.amP {R:Value->Value->Prop}{a e:dW}(h:AR R a e)(i:Nat){v v':Value}(f:R v v'):AR R (a.setIfInBounds i v) (e.setIfInBounds i v') :=
 ⟨by simpa using h.1,λj x y b hy=>by
  rw[cX]at b hy;by_cases d:i=j
  .rw[ag d]at b hy;split at b
   .split at hy
    .cases b;cases hy;exact f
    cases hy
   cases b
  rw[aa d]at b hy;exact h.2 j x y b hy⟩
theorem Mp {R:Value->Value->Prop}(off:Nat):∀(l b:aW) (k:Nat) (a d:dW),LR R l b->AR R a d ->
 AR R ((l.zipIdx k).foldl (λcs (c:Value×Nat)=>cs.setIfInBounds (off+c.2) c.1) a) ((b.zipIdx k).foldl (λcs (c:Value×Nat)=>cs.setIfInBounds (off+c.2) c.1) d)
 |[],b,k,a,d,e,f=>by rw[e.Ie];exact f
 |v::l,b,k,a,d,e,f=>by
  obtain⟨v',g,rfl,h,i⟩:=e.xJ;simp only[List.zipIdx_cons,iF];exact Mp off l g (k+1) _ _ i (f.amP _ h)
theorem xM {place:Nat->Option (Nat×Nat)}:∀(parts b:List (Nat×Value)) (a f r:dW),PR (bR ρ) parts b->AR (bR ρ) a f ->
 Instr.fill place a parts=some r->∃r',Instr.fill place f b=some r'/\AR (bR ρ) r r'
 |[],[],a,f,r,_,n,h=>by simp only[Instr.fill,aq]at h;subst h;exact⟨f,rfl,n⟩
 |[],_::_,_,_,_,g,_,_=>g.elim
 |_::_,[],_,_,_,g,_,_=>g.elim
 |(i,v)::l,(j,u)::m,a,f,r,g,n,h=>by
  obtain⟨rfl,p,o⟩:=g;simp only[Instr.fill]at h ⊢;cases k:place i with
  |none=>simp[k]at h
  |some q =>
   obtain⟨off,size⟩:=q;simp only[k]at h ⊢;rw[<-p.cells.1,<-n.1];split at h
   .cases h
   rename_i d;rw[aa d];refine xM l m _ _ r o ?_ h;have e:∀(c z:dW),(c.zipIdx.foldl (λcs (x:Value×Nat)=>cs.setIfInBounds (off+x.2) x.1) z)=((c.toList.zipIdx 0).foldl (λcs (x:Value×Nat)=>cs.setIfInBounds (off+x.2) x.1) z):=by
    intro c z;rw[<-Array.foldl_toList,Array.toList_zipIdx]
   have:=Mp (R:=bR ρ) off v.cells.toList u.cells.toList 0 a f p.cells.list n;rw[<-e,<-e]at this;exact this
theorem WK {t:TypeId}{parts b:List (Nat×Value)}{v:Value}(m:PR (bR ρ) parts b)(h:ES P t parts=some v)(w:World) :
 ∃v',(Instr.build t b.toArray).run P w = .ok v' w/\bR ρ v v':=by
 unfold ES at h;split at h
 .rename_i l;simp only[aO]at h;obtain⟨cells,g,rfl⟩:=h;obtain⟨z,s⟩:=cw.1 l;obtain⟨_,j,i,hi,k⟩:=oH s w;have key:∃a,P.built t b=some a/\AR (bR ρ) cells a:=by
   unfold Program.built at g ⊢;simp only[hi]at g ⊢;cases o:P.underlying t with
   |none=>simp[o]at g
   |some d =>
    cases d<;>simp only[o]at g ⊢ <;> try (cases g;done)
    .rename_i n e;cases p:P.info? e with
     |none=>simp[p]at g
     |some y =>
      simp only[p,k]at g ⊢;exact xM _ _ _ _ _ m ((eu (ρ:=ρ) z j).cells) g
    rename_i u;cases q:u.toList.mapM (λf=>(P.info? f.type).map λi=>(f.offset,i.size)) with
    |none=>simp[q]at g
    |some places =>
     simp only[q,k]at g ⊢;exact xM _ _ _ _ _ m ((eu (ρ:=ρ) z j).cells) g
  obtain⟨a,x,r⟩:=key;exact⟨.agg a,run_build w t _ a (by simpa using x),.agg _ _ r.1 r.2⟩
 cases h
theorem E9 {e:TypeId}{n:Nat}{d:dW}(h:wk P e n=some d)(w:World) :
 ∃s,dJ P e=some s/\AR (bR ρ) d d/\d.size=n*s /\
  (do let zero <- (if n*s=0 then pure #[] else do pure (<- zeroValue e).cells:Sem dW);pure ((Array.range (n*s)).map (zero[· % zero.size]!)):Sem dW).run P w = .ok d w:=by
 unfold wk at h;split at h
 .rename_i s z k g;obtain⟨l,m,i,hi,o⟩:=oH g w;refine⟨s,k,?_⟩;split at h
  .rename_i f;cases h;exact⟨⟨rfl,λi x y b=>by simp at b⟩,by simp[f],by simp[f]⟩
  rename_i f;cases h;refine⟨⟨rfl,λi x y b hy=>?_⟩,by simp,by simp[f,l]⟩;rw[b]at hy;cases hy;have j:i<n*s:=by
   have:=(aF.1 b).1;simpa using this
  simp[j]at b;subst b;have g:=(eu (ρ:=ρ) z m).cells;by_cases a:i%z.cells.size<z.cells.size
  .have:=g.2 (i%z.cells.size) z.cells[i%z.cells.size] z.cells[i%z.cells.size] (by simp[a]) (by simp[a]);simpa[a] using this
  have:z.cells[i%z.cells.size]! = default:=by simp[a]
  rw[this];exact eu _ (by rfl)
 cases h
end
end Go.Ev
namespace Go.Ev
open Go.RowKit
section
variable {c:Cx} {P:Program} {w:World} {ρ:Ren} {H:Mem}
theorem xN {e:TypeId}{n s:Nat}{b:dW}(f:dJ P e=some s)(h:wk P e n=some b) :
 (n*s=0/\b = #[])\/(n*s≠0/\∃z,nI P e=some z/\b=(Array.range (n*s)).map (z.cells[· % z.cells.size]!)):=by
 unfold wk at h;split at h
 .rename_i i z a g;rw[f]at a;cases a;split at h
  .rename_i d;cases h;exact .inl ⟨d,rfl⟩
  rename_i d;cases h;exact .inr ⟨d,z,g,rfl⟩
 cases h
theorem HQ (B:fc c ρ H w){t:TypeId}{len:Nat}{parts a:List (Nat×Value)}{v:Value}{q:Mem}(C:PR (bR ρ) parts a)(h:oE c.P H t len parts=some (v,q)) :
 ∃ ρ' w' v',ρ.le ρ'/\fc c ρ' q w'/\bR ρ' v v'/\(Instr.buildSlice t len a.toArray).run c.P w = .ok v' w':=by
 unfold oE at h;split at h
 .rename_i e r;split at h
  .rename_i s z b u;split at h
   .cases h
   rename_i g;split at h
   .rename_i cs D;obtain⟨j,rfl⟩:=s8 h;obtain⟨J,d,k,E,x⟩:=E9 (ρ:=ρ) u w;rw[b]at d;cases d;obtain⟨l,m,n⟩:=xM _ _ _ _ _ C k D;obtain⟨ρ',F,k2,G⟩:=J9 B j b n.list;refine⟨ρ',_,_,F,G,.slice _ _ _ _ _ _ k2,?_⟩;have A:Instr.fill (λi=>some (i*s,s)) z a=some l:=m;rcases xN b u with⟨o,rfl⟩|⟨o,y,hy,rfl⟩
    .have I:Array.range 0 = #[]:=rfl;simp[Instr.buildSlice,run_underlying r,iY b,o,I,A,newRow]
    obtain⟨p,_⟩:=oH hy w;have f:¬(16777216<len*s):=by simpa using g
    simp[Instr.buildSlice,run_underlying r,iY b,o,f,p,A,newRow]
   cases h
  cases h
 cases h
theorem Ka (G:fc c ρ H w){t:TypeId}{l r s d v:Value}{u:Mem}(I:bR ρ l r)(J:bR ρ s d)(h:rG c.P H t l s=some (v,u)) :
 ∃ ρ' w' v',ρ.le ρ'/\fc c ρ' u w'/\bR ρ' v v'/\(Instr.makeSlice t r d).run c.P w = .ok v' w':=by
 unfold rG at h;split at h
 .rename_i e k n S m x;cases I;cases J;split at h
  .rename_i a z hi A;split at h
   .rename_i K;obtain⟨j,rfl⟩:=s8 h;obtain⟨i,T,L,U⟩:=K;obtain⟨M,b,o,N,B⟩:=E9 (ρ:=ρ) A w;obtain⟨ρ',O,k2,Q⟩:=J9 G j b o.list;refine⟨ρ',_,_,O,Q,.slice _ _ _ _ _ _ k2,?_⟩;have C:IntKind.i64.wrap n=n:=IntWalk.i64_in _ (by omega);have D:IntKind.i64.wrap m=m:=IntWalk.i64_in _ (by omega);have V:(a.bytes:Int)*m<=2000000*2000000:=Int.mul_le_mul (by omega) L (by omega) (by omega);have W:¬((a.bytes:Int)*m>2 ^ 48):=by omega
    have p:a.size=M:=by simpa[dJ,hi] using b
    subst p;have f:(decide (m<0)||decide ((a.bytes:Int)*m>2 ^ 48)||decide (n<0)||decide (n>m))=false:=by
     simp;omega
    simp only[Bool.or_eq_false_iff,bJ]at f;obtain⟨⟨⟨c1,c2⟩,E⟩,F⟩:=f;have g:¬(281474976710656<(a.bytes:Int)*m):=by simpa using c2
    rcases xN b A with⟨i,rfl⟩|⟨i,y,hy,rfl⟩
    .have R:Array.range 0 = #[]:=rfl;simp[Instr.makeSlice,run_underlying x,asInt,asIntOf,typeInfo,sizeOf,hi,C,D,c1,g,E,F,i,R,newRow]
    obtain⟨q,_⟩:=oH hy w;simp[Instr.makeSlice,run_underlying x,asInt,asIntOf,typeInfo,sizeOf,hi,C,D,c1,g,E,F,i,q,newRow]
   cases h
  cases h
 cases h
theorem Bb (g:fc c ρ H w){s n:Nat}{x e:Value}{l:aW}(a:bR ρ x e)(h:jJ H s n x=some l) :
 ∃d,(Builtin.firstCells s n e).run c.P w = .ok d.toArray w/\LR (bR ρ) l d:=by
 unfold jJ at h;split at h
 .cases a with
  |slice i off len cap r y k =>
   obtain⟨d,f,m,o⟩:=g.read k h;refine⟨d,?_,f⟩;have:=run_loadCells_list (P:=c.P) w _ d o;rw[f.mF,m]at this;simpa[Builtin.firstCells] using this
 .cases a;split at h
  .cases h;exact⟨[],by simp[Builtin.firstCells],.nil⟩
  cases h
 .split at h
  .rename_i p;cases h;subst p;cases a with
   |void t=>exact⟨[],by simpa[Builtin.firstCells] using run_loadCells_list (P:=c.P) w t [] (λj v u=>by cases u),.nil⟩
  cases h
 .cases a;rename_i q;split at h;case isFalse=>cases h
  cases h;refine⟨(q.extract 0 n).data.toList.map λb=>.int .u8 b.toNat,by simp[Builtin.firstCells];apply kN;simp,?_⟩;exact⟨rfl,λi x y a hy=>by
   rw[a]at hy;cases hy;obtain⟨b,_,rfl⟩:=cG.1 (bu a);exact .int _ _⟩
 cases h
theorem Cs {s n:Nat}{x:Value}{l:aW}(h:jJ H s n x=some l):l.length=n*s:=by
 unfold jJ at h;split at h
 .rename_i b off _ _;unfold ia at h;split at h
  .split at h
   .rw[ay]at h;split at h
    .cases h
    cases h;simp;omega
   cases h
  cases h
 .split at h
  .rename_i a;cases h;simp[a]
  cases h
 .split at h
  .rename_i a;cases h;simp[a]
  cases h
 .split at h
  .rename_i a;cases h;obtain⟨rfl,d⟩:=a;simp;omega
  cases h
 cases h
theorem WM {x a:Value}{n:Nat}(b:bR ρ x a)(h:xl x=some n)(w:World):(Builtin.lenOf a).run P w = .ok n w:=by
 unfold xl at h;split at h
 .cases h;cases b<;>simp[Builtin.lenOf]
 .cases h;cases b;simp[Builtin.lenOf]
 cases h
theorem Kb {a:TypeId}(h:mP P a=true):(∃e,P.underlying a=some (.slice e))\/P.underlying a=some .string:=by
 unfold mP at h;cases b:P.underlying a with
 |none=>simp[b]at h
 |some d =>
  cases d<;>simp[b]at h
  .exact .inr rfl
  exact .inl ⟨_,rfl⟩
theorem Mq (w:World)(need old:Nat)(e:TypeId)(h:need<9223372036854775808):grownCap w need old e<9223372036854775808:=by
 simp only[grownCap,Question.cut];have:=Nat.mod_lt (w.tape w.drawn (.appendCap need old e)) (show 0<2 ^ 63-need by omega);omega
theorem Mr (w:World)(need old:Nat)(e:TypeId):need<=grownCap w need old e:=by
 simp only[grownCap,Question.cut];omega
theorem HS {z:dW}{n j:Nat}{v:Value}(h:(Builtin.zeroCells z n)[j]? = some v):v∈z.toList:=by
 simp only[Builtin.zeroCells,Array.getElem?_map,aO]at h;obtain⟨k,d,rfl⟩:=h;have a:=(aF.1 d).1;simp at a;have e:0<z.size:=by
  rcases nZ z.size with b|b
  .rw[b,Nat.mul_zero]at a;omega
  exact b
 have f:k%z.size<z.size:=Nat.mod_lt _ e;rw[getElem!_pos z _ f];simp
theorem Fa (z:dW)(n:Nat):(Builtin.zeroCells z n).size=n*z.size:=by simp[Builtin.zeroCells]
theorem Ms {st i ty e:TypeId}{d:TypeInfo}{at_:Array TypeId}{as:dW}{r off a cap n:Nat}{g:Value}{new:aW}{w w':World}
 (j:at_[0]? = some st) (k:at_[1]? = some i) (l:as[0]? = some (.slice (some ⟨r,off,none⟩) a cap)) (m:as[1]? = some g)
 (o:P.underlying st=some (.slice e)) (s:mP P i=true) (hi:P.info? e=some d) (p:(Builtin.lenOf g).run P w = .ok n w)
 (b:a+n<=cap) (q:(Builtin.firstCells d.size n g).run P w = .ok new.toArray w) (f:(storeCells ⟨r,off+a*d.size,none⟩ new).run P w = .ok () w') :
 (Builtin.append_ at_ ty as).run P w = .ok (.slice (some ⟨r,off,none⟩) (a+n) cap) w':=by
 rcases Kb s with⟨t,h⟩|h
 .simp[Builtin.append_,j,k,l,m,run_underlying o,run_underlying h,sizeOf,typeInfo,hi,p,b,q,su,f]
 simp[Builtin.append_,j,k,l,m,run_underlying o,run_underlying h,sizeOf,typeInfo,hi,p,b,q,su,f]
theorem acf {st h ty e:TypeId}{d:TypeInfo}{at_:Array TypeId}{as:dW}{a cap n:Nat}{f:Value}{new:aW}{w:World}
 (i:at_[0]? = some st) (j:at_[1]? = some h) (k:as[0]? = some (.slice none a cap)) (l:as[1]? = some f)
 (m:P.underlying st=some (.slice e)) (q:mP P h=true) (hi:P.info? e=some d) (o:(Builtin.lenOf f).run P w = .ok n w)
 (b:a+n<=cap) (p:(Builtin.firstCells d.size n f).run P w = .ok new.toArray w) :
 (Builtin.append_ at_ ty as).run P w = .ok (.slice none (a+n) cap) w:=by
 rcases Kb q with⟨r,g⟩|g
 .simp[Builtin.append_,i,j,k,l,run_underlying m,run_underlying g,sizeOf,typeInfo,hi,o,b,p]
 simp[Builtin.append_,i,j,k,l,run_underlying m,run_underlying g,sizeOf,typeInfo,hi,o,b,p]
theorem WN {st k ty e:TypeId}{b:TypeInfo}{z:Value}{at_:Array TypeId}{as:dW}{base:Option Addr}{a cap n:Nat}{i:Value}{old new:aW}{w:World}
 (l:at_[0]? = some st) (m:at_[1]? = some k) (o:as[0]? = some (.slice base a cap)) (p:as[1]? = some i)
 (q:P.underlying st=some (.slice e)) (x:mP P k=true) (hi:P.info? e=some b) (r:b.zero=some z) (s:(Builtin.lenOf i).run P w = .ok n w)
 (d:¬a+n<=cap) (g:b.bytes≠0) (t:Builtin.nextslicecap (a+n) cap*b.bytes<=281474976710656) (y:((a+n:Nat):Int)<=9223372036854775807)
 (h:(Builtin.firstCells b.size a (.slice base a cap)).run P w.drew = .ok old.toArray w.drew) (u:(Builtin.firstCells b.size n i).run P w.drew = .ok new.toArray w.drew) :
 (Builtin.append_ at_ ty as).run P w = .ok (.slice (some ⟨w.heap.size,0,none⟩) (a+n) (grownCap w (a+n) cap e))
  (w.drew.alloc (.cells (old.toArray++(new.toArray++Builtin.zeroCells z.cells (grownCap w (a+n) cap e-(a+n)))) e)):=by
 have f:¬(281474976710656<Builtin.nextslicecap (a+n) cap*b.bytes):=by omega
 have v:¬(9223372036854775807<((a:Int)+(n:Int))):=by omega
 rcases Kb x with⟨A,j⟩|j
 .simp[Builtin.append_,l,m,o,p,run_underlying q,run_underlying j,sizeOf,typeInfo,zeroValue,hi,r,s,d,g,f,h,u,Question.forced,newRow,grownCap]
 simp[Builtin.append_,l,m,o,p,run_underlying q,run_underlying j,sizeOf,typeInfo,zeroValue,hi,r,s,d,g,f,h,u,Question.forced,newRow,grownCap]
end
end Go.Ev
namespace Go.Ev
open Go.RowKit
theorem Ct:∀(vs:aW) (C:dW) (k j:Nat),j<k->(pO C k vs)[j]? = C[j]?
 |[],_,_,_,_=>rfl
 |v::vs,C,k,j,h=>by
  simp only[pO];rw[Ct vs _ (k+1) j (by omega),cX,aa (by omega)]
theorem Ig:∀(vs:aW) (C:dW) (k i:Nat) (v:Value),vs[i]? = some v->k+vs.length<=C.size->(pO C k vs)[k+i]? = some v
 |[],_,_,_,_,h,_=>by simp at h
 |u::vs,C,k,0,v,h,a=>by
  simp at h;subst h;simp only[aJ]at a;simp only[pO,nE];rw[Ct _ _ _ _ (by omega),cX];simp;omega
 |u::vs,C,k,i+1,v,h,a=>by
  simp only[aJ]at a;simp only[pO];have:=Ig vs (C.setIfInBounds k u) (k+1) i v (by simpa using h) (by simp;omega);rw[show k+(i+1)=k+1+i by omega];exact this
section
variable {c:Cx} {P:Program} {w:World} {ρ:Ren} {H:Mem}
set_option maxHeartbeats 1000000 in
theorem Ut (g:fc c ρ H w){st xt ty:TypeId}{s O x x' v:Value}{H':Mem}{at_:Array TypeId}{as:dW}
 (zn:at_[0]? = some st) (xo:at_[1]? = some xt) (xO:as[0]? = some O) (zo:as[1]? = some x')
 (hs:bR ρ s O) (hx:bR ρ x x') (h:sX c.P H st xt s x=some (v,H')) :
 ∃ ρ' w' v',ρ.le ρ'/\fc c ρ' H' w'/\bR ρ' v v'/\(Builtin.append_ at_ ty as).run c.P w = .ok v' w':=by
 unfold sX at h;split at h
 .rename_i e base a l B PL;split at h
  .rename_i d z n hi hz hn;obtain⟨hzr,arC,i',o,hiz⟩:=oH hz w;rw[hi]at o;cases o;split at h
   .rename_i new old t hold;split at h
    .cases h
    rename_i P4;simp only[mq]at P4;obtain⟨zq,Mb,hb3,hb4,hb5,hzs,hpl⟩:=P4;have hzs:z.cells.size=d.size:=by omega
    have I:dJ c.P e=some d.size:=by simp[dJ,hi]
    obtain⟨p,Wq,Y⟩:=Bb g hx t;have hlen:=WM (P:=c.P) hx hn w;have grow:∀(cap:Nat),O = .slice (match O with | .slice q _ _=>q|_=>none) a cap->¬a+n<=cap->cap<=2000000+l ->
     ∀{H0 H2:Mem} {v:Value},fc c ρ H0 w->mw H0 e (old++new) (a+n) (a+n)=some (v,H2)->∃ ρ' w' v',ρ.le ρ'/\fc c ρ' H2 w'/\bR ρ' v v'/\(Builtin.append_ at_ ty as).run c.P w = .ok v' w':=by
     intro cap J f hcap H0 H2 v he0 hns;obtain⟨Q,rfl⟩:=pZ hns;obtain⟨new1,arE,R⟩:=Bb g.drew hx t;obtain⟨arF,amQ,S⟩:=Bb g.drew hs hold;rw[J]at xO amQ;have m:Builtin.nextslicecap (a+n) cap*d.bytes<=281474976710656:=by
      have h1:=nextslicecap_le (need:=a+n) (old:=cap) (by omega);have h2:Builtin.nextslicecap (a+n) cap*d.bytes<=(2*2000000)*100000:=qR (by omega) (by omega);omega
     have D:=WN (ty:=ty) zn xo xO zo B PL hi hiz hlen f Mb m (by omega) amQ arE;have hg:=Mr w (a+n) cap e;have hl1:(old++new).length=(a+n)*d.size:=by
      have L:old.length=a*d.size:=Cs hold;have e2:new.length=n*d.size:=Cs t;rw[aA,L,e2,dX]
     have hC:(arF.toArray++(new1.toArray++Builtin.zeroCells z.cells (grownCap w (a+n) cap e-(a+n)))).size=(old++new).length+(grownCap w (a+n) cap e-(a+n))*d.size:=by
      simp only[Array.size_append,jI,Fa,hzs,aA,S.mF,R.mF];omega
     refine⟨_,_,_,he0.xL (aG _) (w.heap.size,grownCap w (a+n) cap e-(a+n)),?_,?_,D⟩
     .refine he0.drew.new Q I ?_ hC (rZ _) (λh=>by cases h) ⟨λj v A Z=>.inl ⟨z,hz,by
       rw[<-Array.append_assoc,ij]at Z;split at Z
       .rename_i hlt;simp only[Array.size_append,jI,aA,S.mF,R.mF]at hlt A;omega
       .exact HS Z⟩,.inr (.inl λO J=>by
       rw[I]at J;cases J;rw[hC,hl1,<-dX,kC hg];exact Nat.mul_lt_mul_of_pos_right (Mq w (a+n) cap e (by omega)) (by omega))⟩
      have:=(S.append R).zJ (Builtin.zeroCells z.cells (grownCap w (a+n) cap e-(a+n)));simpa[<-Array.append_assoc] using this
     have:=bR.slice (ρ:=ρ.put H0.size (w.heap.size,grownCap w (a+n) cap e-(a+n))) H0.size 0 (a+n) (a+n) w.heap.size _ (Ren.nK _ _ _);rw[kC hg]at this;exact this
    split at h
    .
     -- there is room that is known
     rename_i f;split at h
     .rename_i b off;simp only[aO]at h;obtain⟨H1,hw1,heq⟩:=h;cases heq;cases hs with
      |slice _ _ _ _ r y hr =>
       obtain⟨w',T,ahn,_⟩:=E8 g hr Y hw1;exact⟨ρ,w',_,Ren.le_refl _,ahn,.slice _ _ _ _ _ _ hr,Ms zn xo xO zo B PL hi hlen (by omega) Wq T⟩
     .split at h
      .rename_i hn0;cases h;subst hn0;cases hs with
       |nJ=>exact⟨ρ,w,_,Ren.le_refl _,g,.nJ _ _,acf zn xo xO zo B PL hi hlen f Wq⟩
      cases h
     cases h
    rename_i f;split at h
    .rename_i b off;split at h
     .rename_i U;obtain⟨hoff,amS,aho⟩:=U;split at h;case h_2=>cases h
      rename_i H1 gb;obtain⟨kl1,kl2,kl3,kl4,kl5⟩:=o5 gb;obtain⟨Q,rfl⟩:=pZ h;subst hoff;obtain⟨bk,hbk,K⟩:=(Option.any_eq_true _ _).1 aho;simp only[ak,aZ,fL]at K;obtain⟨K,V⟩:=K;cases hs with
      |slice _ _ _ _ r y hr =>
       by_cases m:a+n<=l+y
       .
        -- the machine finds room
        obtain⟨F,G⟩:=eA hbk;obtain⟨r',y',C,fr,O,k1,k2,k3,k4,M,k6,k7⟩:=g.blk b bk F G;rw[hr]at k1;cases k1;rw[V]at M k3;have k4:=k4.resolve_left (by have:=g.lk;omega);have M:dJ c.P e=some O:=by
         rcases M.1 with M|M
         .have:=g.lk;omega
         exact M
        rw[I]at M;cases M;have L:old.length=a*d.size:=amS;have e2:new.length=n*d.size:=Cs t;have arG:a*d.size+p.length<=C.size:=by
         rw[Y.mF,e2,k6,K,<-dX,<-dX];exact eS _ m
        have hone:∀v∈p,v.oneCell'=true:=by
         intro v hm;obtain⟨j,A⟩:=fB hm;have N:j<new.length:=by rw[<-Y.mF];exact(bH.1 A).1
         have hall:new.all plainCell=true:=by simpa using hpl
         exact(Y.2 j new[j] v (by simp[N]) A).plain (aN.1 hall _ (ko N))
        have T:=z6 (c:=c) (off:=0+a*d.size) p 0 C w k3 k4 (by omega) hone;have D:=Ms (ty:=ty) zn xo xO zo B PL hi hlen m Wq T;refine⟨ρ.put H1.size (r,l+y-(a+n)),_,_,(g.kill gb).xL (aG _) _,?_,?_,D⟩
        .have Mn:r<w.heap.size:=(aF.1 k3).1;have W:c.own r:=by
          rcases k2 with k2|k2
          .have:=g.lk;omega
          exact k2
         refine(g.kill gb).add Q (s:=d.size) (C:=pO C (0+a*d.size+0) p) (fr:=fr) ?_ ?_ ?_ (λi bi o hm=>((g.kill gb).maps i bi o hm).heap λq es clock hh=>by rw[iD _ _ _ _ (λe0=>by subst e0;rw[k3]at hh;cases hh)];exact hh) ?_ (s7 _ _ _ Mn) W ?_ I ?_ ?_ (λh=>by cases h) ⟨λj v A Z=>by
          have hlo:bk.cells.length<=j:=by
           rw[K];rw[aA,L,e2,<-dX]at A;exact bA (eS _ (by omega)) A
          rw[Cr _ _ _ _ (by rw[Y.mF,e2];rw[aA,L,e2]at A;omega)]at Z;rcases k7.2 with k8|k8
          .have:=g.lk;omega
          .rw[V]at k8;exact k8.zero j v hlo Z,by
          rw[qz];rcases k7.2 with k8|k8
          .have:=g.lk;omega
          rw[V]at k8;rcases k8.room with k9|k9|k9
          .left
           rw[aA,L,e2,<-dX];rw[K]at k9;exact bA k9 (eS _ (by omega))
          .exact .inr (.inl k9)
          refine .inr (.inr ?_);rw[aA,L,e2,<-dX];rw[K]at k9;exact bA k9 (eS _ (by omega))⟩
         .exact g.stay.Mm W ⟨rfl,rfl,rfl,by simp[iO],λk hk=>iD _ _ _ _ (by have:=W.1;omega)⟩ (λk hk=>iD _ _ _ _ hk)
         .simpa[iO] using g.base
         .intro i bi o Cq;obtain⟨g1,g2⟩:=kl3 i bi o (.inl Cq);obtain⟨q,y2,E,er,s2,m1,m2,m3,m4⟩:=g.blk i bi g1 Cq;have hne:q≠r:=by
           intro e0;subst e0;exact g2 (g.inj i b bi bk q y2 y g1 Cq F G m1 hr)
          exact⟨q,y2,E,er,s2,m1,m2,by rw[iD _ _ _ _ hne];exact m3,m4⟩
         .intro i bi q y2 o Cq hq e0;subst e0;obtain⟨g1,g2⟩:=kl3 i bi o (.inl Cq);exact g2 (g.inj i b bi bk q y2 y g1 Cq F G hq hr)
         .exact ⟨k4.1,λj A=>k4.2 j (by rw[qz]at A;exact A)⟩
         .rw[qz,k6,K,aA,L,e2,<-dX,<-dX,<-dX];congr 1;omega
         refine⟨by rw[qz,k6,K,aA,L,e2,<-dX,<-dX];exact eS _ (by omega),λj u B hju=>?_⟩;rw[List.getElem?_append]at B;split at B
         .rename_i A;have X:bk.cells[j]? = some u:=by
           simp only[jJ,ia,hbk]at hold;split at hold
           .rw[ay]at hold;split at hold
            .cases hold
            cases hold;rw[ez]at B;split at B
            .simpa using B
            cases B
           cases hold
          obtain⟨u',p1,p2⟩:=k7.1.2 j u X hju;exact⟨u',by rw[Ct _ _ _ _ (by omega)];exact p1,p2⟩
         rename_i A;obtain⟨u',p1,p2⟩:=Y.get B;refine⟨u',?_,p2⟩;have:=Ig p C (0+a*d.size+0) (j-old.length) u' p1 (by omega);rw[show 0+a*d.size+0+(j-old.length)=j by omega]at this;exact this
        have:=bR.slice (ρ:=ρ.put H1.size (r,l+y-(a+n))) H1.size 0 (a+n) (a+n) r _ (Ren.nK _ _ _);rw[kC m]at this;exact this
       exact grow (l+y) rfl m (by omega) (g.kill gb) h
     cases h
    .cases hs;exact grow l rfl f (by omega) g h
    cases h
   cases h
  cases h
 cases h
end
end Go.Ev

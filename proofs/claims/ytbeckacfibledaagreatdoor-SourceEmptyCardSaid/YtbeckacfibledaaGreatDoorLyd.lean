/- A layer above the evaluator: values that may be known by terms alone (numbers, texts, lists); definitions. The layer's values and memory beside the evaluator's. The layer's memory beside the evaluator's. The layer's operations on numbers and texts beside the evaluator's. Structs held by ==; operations of one operand; conversions of numbers; bytes and parts of texts. The layer's operations beside the evaluator's: those that change no memory. -/
import Derived.Test.YtbeckacfibledaaGreatDoorLyc
import Derived.Laws.StructEq
set_option linter.unusedVariables false
set_option linter.unusedSimpArgs false

namespace Go.Tv
open Go.Ev (Tr ah iL)
noncomputable section
inductive Ty where
 |int (k:IntKind)
 |bool
 |str
 |qg
 |unit
 |sl (e:Ty)
 |pair (a b:Ty)
 deriving DecidableEq
@[reducible] def Ty.den (t:Ty):Type :=
 Ty.rec (motive:=λ_=>Type) (λ_=>Int) Bool (List UInt8) Nat Unit (λ_ d=>List d) (λ_ _ a b=>a×b) t
def Ty.size:Ty->Nat
 |.int _=>1
 |.bool=>1
 |.str=>1
 |.qg=>1
 |.unit=>0
 |.sl _=>1
 |.pair a b=>a.size+b.size
def Ty.Ac:Ty->Bool
 |.sl _=>false
 |.pair a b=>a.Ac&&b.Ac
 |_=>true
def iC (e e':Ty)(l:List e.den):Option (List e'.den) :=
 if h:e=e' then some (h ▸ l) else none
inductive AV where
 |int (k:IntKind) (n:Int)
 |bool (b:Bool)
 |str (s:List UInt8)
 |qg (n:Nat)
 |dH (e:Ty) (l:List e.den)
 |dG
 |own (id n:Nat)
 |rO (id off len cap:Nat)
 |ptr (id off:Nat)
 |Dk (id j fo gC:Nat) (cur:List AV)
 |Ej (id n:Nat)
 |yG (id:Nat)
 |dat (id:Nat)
 |y4 (cs:List AV)
 |oh
 |fn (f:FuncId) (a b:List AV)
 |agg (l:List AV)
 |fH (l:List AV)
 |Ad (v:Value)
 |fl (a:Option Nat)
 |cx (a b:Option Nat)
 |j5
inductive Row where
 |dead
 |cells (t:TypeId) (cs:List AV)
 |list (t:TypeId) (e:Ty) (l:List e.den) (gC:Nat) (ex ro:Bool)
 |mp (t:TypeId) (ks:List (List UInt8×Int))
 |mf (t:TypeId) (ks:List (AV×AV))
structure aG where
 next:Nat
 lk:Nat
 par:Nat
 t:Tr Row
def aG.get (H:aG)(i:Nat):Option Row :=
 match H.t.get i with
 |some .dead=>none
 |some r=>ah (Nat.ble (Nat.succ i) H.next) (some r) none
 |none=>none
def aG.put (H:aG)(i:Nat)(r:Row):aG :=
 Option.rec (motive:=λ_=>aG) H (λt=>⟨H.next,H.lk,H.par,t⟩) (H.t.set i r)
def aG.push (H:aG)(r:Row):aG :=
 Option.rec (motive:=λ_=>aG) H (λt=>⟨Nat.add H.next 1,H.lk,H.par,t⟩) (H.t.set H.next r)
def aG.empty:aG:=⟨0,0,0,.e⟩
structure fJ where
 n:Nat
 t:Tr AV
def fJ.get (f:fJ)(i:Nat):AV:=Option.rec (motive:=λ_=>AV) .j5 (λv=>v) (f.t.get i)
def fJ.put (f:fJ)(dst:Option Tmp)(v:AV):fJ :=
 Option.rec (motive:=λ_=>fJ) f (λd=>ah (Nat.ble (Nat.succ d) f.n) (Option.rec (motive:=λ_=>fJ) f (λt=>⟨f.n,t⟩) (f.t.set d v)) f) dst
def fJ.fill (f:fJ):Nat->List AV->fJ
 |_,[]=>f
 |i,v::l=>(f.put (some i) v).fill (i+1) l
structure ij where
 P:Program
 G:Nat
 gv:Nat->List AV
 ar:TypeId->Bool:=λ_=>false
 trs:FuncId->List Tmp:=λ_=>[]
 rm:Bool:=false
 kl:FuncId->Bool:=λ_=>false
 fl:Bool:=false
def Ow:Value->AV
 |.int k n=>.int k n
 |.bool b=>.bool b
 |.string s=>.str s.data.toList
 |.float .f64 n=>.qg n
 |.pointer none=>.oh
 |.slice none 0 0=>.dG
 |v=>.Ad v
def ofV:Value->AV
 |.agg cs=>.agg (cs.toList.map Ow)
 |v=>Ow v
def adv:List AV->AV
 |[]=>.j5
 |c::cs=>.y4 (c::cs)
def fJ.eval (X:ij)(f:fJ):Operand->AV
 |.tmp t=>f.get t
 |.const v=>ofV v
 |.global g=>adv (X.gv g)
 |.func f=>.fn f [] []
def flat:(e:Ty)->e.den->List AV
 |.int k,n=>[.int k n]
 |.bool,b=>[.bool b]
 |.str,s=>[.str s]
 |.qg,n=>[.qg n]
 |.unit,_=>[]
 |.sl e,l=>[.dH e l]
 |.pair a b,x=>flat a x.1++flat b x.2
def ae4 (k:IntKind):List AV->Option (Int×List AV)
 |.int k' n::r=>if k=k' then some (n,r) else none
 |_=>none
def Va:List AV->Option (Bool×List AV)
 |.bool b::r=>some (b,r)
 |_=>none
def ae5:List AV->Option (List UInt8×List AV)
 |.str s::r=>some (s,r)
 |_=>none
def ae6:List AV->Option (Nat×List AV)
 |.qg n::r=>some (n,r)
 |_=>none
def hSl (e:Ty):List AV->Option (List e.den×List AV)
 |.dH e' l::r=>match iC e' e l with
  |some l'=>some (l',r)
  |none=>none
 |.dG::r=>some ([],r)
 |_=>none
def y5:(e:Ty)->List AV->Option (e.den×List AV)
 |.int k,r=>ae4 k r
 |.bool,r=>Va r
 |.str,r=>ae5 r
 |.qg,r=>ae6 r
 |.unit,r=>some ((),r)
 |.sl e,r=>hSl e r
 |.pair a b,r=>match y5 a r with
  |some (x,r1)=>match y5 b r1 with
   |some (y,r2)=>some ((x,y),r2)
   |none=>none
  |none=>none
def vl (e:Ty):Nat->List AV->Option (List e.den)
 |0,[]=>some []
 |0,_::_=>none
 |n+1,r=>match y5 e r with
  |some (x,r1)=>match vl e n r1 with
   |some l=>some (x::l)
   |none=>none
  |none=>none
def Ox (P:Program):Nat->TypeId->Option Ty
 |0,_=>none
 |d+1,t=>match P.underlying t with
  |some (.int k)=>some (.int k)
  |some .bool=>some .bool
  |some .string=>some .str
  |some (.float .f64)=>some .qg
  |some (.slice e)=>match Ox P d e with
   |some x=>some (.sl x)
   |none=>none
  |some (.struct fs)=>Ln P d fs.toList
  |_=>none
where Ln (P:Program):Nat->List Field->Option Ty
 |0,_=>none
 |_+1,[]=>some .unit
 |d+1,[f]=>Ox P d f.type
 |d+1,f::fs=>match Ox P d f.type,Ln P d fs with
  |some a,some b=>some (.pair a b)
  |_,_=>none
def dQ {α:Type}(l:List α)(i:Int):Option α :=
 match i with
 |.ofNat n=>l[n]?
 |.negSucc _=>none
def cY (c:UInt8):Int:=Int.ofNat c.toNat
def Zy (n:Int):UInt8:=UInt8.ofNat n.toNat
def Cv (H:aG)(e:Ty):AV->Option (List e.den)
 |.dH e' l=>iC e' e l
 |.dG=>some []
 |.own id _=>match H.get id with
  |some (.list _ e' l _ _ _)=>iC e' e l
  |_=>none
 |.rO id off len _=>match H.get id with
  |some (.list _ e' l _ _ _)=>match iC e' e l with
   |some l'=>some ((l'.drop off).take len)
   |none=>none
  |_=>none
 |.str s=>iC (.int .u8) e (s.map cY)
 |_=>none
def Ek:AV->Option (List AV)
 |.agg l=>some l
 |.fH _=>none
 |.j5=>none
 |.fl _=>none
 |.cx _ _=>none
 |.Ad v=>ah (Ev.plainCell v) (some [.Ad v]) none
 |v=>some [v]
def sF:AV->Bool
 |.agg _=>false
 |.fH _=>false
 |.j5=>false
 |.fl _=>false
 |.cx _ _=>false
 |.Ad v=>Ev.plainCell v
 |_=>true
def mj {α:Type}(l:List α)(off:Nat):List α->List α
 |[]=>l
 |v::vs=>mj (l.set off v) (off+1) vs
def aG.nO (H:aG)(id:Nat):Bool:=Nat.ble H.lk id
section
variable {β:Type}
def sG (X:ij)(t:TypeId)(cs:List AV)(k:AV->Option β):Option β :=
 match Ev.yP X.P t,Ev.cR X.P t with
 |some true,some n=>ah (Nat.ble n cs.length && !(Nat.beq n 0)&&(cs.take n).all sF) (k (.agg (cs.take n))) none
 |some false,_=>match cs with
  |c::_=>ah (sF c) (k c) none
  |[]=>none
 |_,_=>none
def loadT (X:ij)(H:aG)(t:TypeId)(a:AV)(k:AV->Option β):Option β :=
 match a with
 |.ptr id off=>match H.get id with
  |some (.cells _ cs)=>sG X t (cs.drop off) k
  |_=>none
 |.y4 cs=>sG X t cs k
 |.Dk id _ fo gC cur=>match H.get id with
  |some (.list _ _ _ ver' _ _)=>ah (Nat.beq gC ver') (sG X t (cur.drop fo) k) none
  |_=>none
 |_=>none
def storeT (X:ij)(H:aG)(t:TypeId)(a x:AV)(k:aG->Option β):Option β :=
 match a,Ev.cR X.P t,Ek x with
 |.ptr id off,some n,some vs=>match H.get id with
  |some (.cells t' cs)=>ah (H.nO id&&Nat.beq vs.length n&&vs.all sF&&Nat.ble (Nat.add off n) cs.length) (k (H.put id (.cells t' (mj cs off vs)))) none
  |_=>none
 |.Dk id j fo gC cur,some n,some vs=>match H.get id with
  |some (.list t' e l ver' ex ro)=>ah (H.nO id&&Nat.beq vs.length n&&vs.all sF&&Nat.ble (Nat.add fo n) cur.length&&Nat.beq gC ver' && !ro)
   (match y5 e (mj cur fo vs) with
    |some (y,[])=>k (H.put id (.list t' e (l.set j y) (gC+1) ex ro))
    |_=>none) none
  |_=>none
 |_,_,_=>none
def Oy (i:Int)(k:Nat->Option β):Nat->Nat->Option β
 |0,_=>none
 |n+1,j=>ah (Ev.bI i (Int.ofNat j)) (k j) (Oy i k n (j+1))
def ae7 (X:ij)(H:aG)(t:TypeId)(x ix:AV)(k:AV->Option β):Option β :=
 match X.P.underlying t,ix with
 |some (.slice te),.int _ i=>match Ev.cR X.P te with
  |some s=>match x with
   |.dH e l=>ah (Nat.beq s e.size) (Option.rec (motive:=λ_=>Option β) none (λy=>k (.y4 (flat e y))) (dQ l i)) none
   |.own id _=>match H.get id with
    |some (.list _ e l gC _ _)=>ah (Nat.beq s e.size) (Option.rec (motive:=λ_=>Option β) none (λy=>k (.Dk id i.toNat 0 gC (flat e y))) (dQ l i)) none
    |_=>none
   |.rO id off len _=>match H.get id with
    |some (.list _ e l gC _ _)=>ah (Nat.beq s e.size) (Option.rec (motive:=λ_=>Option β) none (λy=>k (.Dk id (off+i.toNat) 0 gC (flat e y))) (dQ ((l.drop off).take len) i)) none
    |_=>none
   |_=>none
  |none=>none
 |some (.array n te),.int _ i=>match Ev.cR X.P te with
  |some s=>match x with
   |.ptr id off=>Oy i (λj=>k (.ptr id (Nat.add off (Nat.mul j s)))) n 0
   |.y4 cs=>Oy i (λj=>ah (Nat.ble (Nat.mul j s) cs.length) (k (.y4 (cs.drop (Nat.mul j s)))) none) n 0
   |.Ej id n'=>match H.get id with
    |some (.list _ e l gC _ _)=>ah (Nat.beq s e.size&&Nat.beq n' n) (Option.rec (motive:=λ_=>Option β) none (λy=>k (.Dk id i.toNat 0 gC (flat e y))) (dQ l i)) none
    |_=>none
   |_=>none
  |none=>none
 |_,_=>none
def Oz (X:ij)(s:TypeId)(x:AV)(f:Nat)(k:AV->Option β):Option β :=
 match X.P.underlying s with
 |some (.struct fs)=>match fs[f]? with
  |some fd=>match Ev.cR X.P fd.type with
   |some n=>ah (Nat.beq n 0) none (match x with
    |.ptr id off=>k (.ptr id (Nat.add off fd.offset))
    |.y4 cs=>ah (Nat.ble fd.offset cs.length) (k (.y4 (cs.drop fd.offset))) none
    |.Dk id j fo gC cur=>k (.Dk id j (Nat.add fo fd.offset) gC cur)
    |_=>none)
   |none=>none
  |none=>none
 |_=>none
def qy (len cap:Nat)(lo hi:Option AV)(k:Int->Int->Option β):Option β :=
 match lo,hi with
 |none,none=>k 0 len
 |some (.int _ a),none=>ah (!Ev.bC a 0 && !Ev.bC (Int.ofNat len) a) (k a len) none
 |none,some (.int _ b)=>ah (!Ev.bC b 0 && !Ev.bC (Int.ofNat cap) b) (k 0 b) none
 |some (.int _ a),some (.int _ b)=>ah (!Ev.bC a 0 && !Ev.bC b a && !Ev.bC (Int.ofNat cap) b) (k a b) none
 |_,_=>none
def dX {α:Type}(l:List α)(a b:Int):List α:=(l.drop a.toNat).take (b.toNat-a.toNat)
def El (X:ij)(H:aG)(t:TypeId)(x:AV)(lo hi:Option AV)(k:AV->aG->Option β):Option β :=
 match X.P.underlying t,x with
 |some .string,.str s=>qy s.length s.length lo hi λa b=>k (.str (dX s a b)) H
 |some (.slice te),.dH e l=>ah (Ev.cR X.P te==some e.size) (qy l.length l.length lo hi λa b=>ah (Ev.bI a 0||Ev.bC a (Int.ofNat l.length)) (k (.dH e (dX l a b)) H) none) none
 |some (.slice te),.rO id off len cap=>match H.get id with
  |some (.list _ e _ _ true _)=>ah (Ev.cR X.P te==some e.size) (qy len cap lo hi λa b=>ah (Ev.bI a 0||Ev.bC a (Int.ofNat cap)) (k (.rO id (off+a.toNat) (b.toNat-a.toNat) (cap-a.toNat)) H) none) none
  |_=>none
 |some (.slice te),.own id n=>match H.get id with
  |some (.list t' e l gC ex _)=>ah (Ev.cR X.P te==some e.size&&H.nO id) (qy l.length l.length lo hi λa b=>ah (Ev.bI a 0||Ev.bC a (Int.ofNat l.length)) (k (.dH e (dX l a b)) (H.put id (.list t' e l gC ex true))) none) none
  |_=>none
 |some (.slice te),.dG=>ah (Ev.cR X.P te).isSome (qy 0 0 lo hi λ_ _=>k .dG H) none
 |some (.array n te),.Ej id n'=>match H.get id with
  |some (.list _ e _ _ true _)=>ah (Ev.cR X.P te==some e.size&&Nat.beq n' n) (qy n n lo hi λa b=>ah (Ev.bI a 0||Ev.bC a (Int.ofNat n)) (k (.rO id a.toNat (b.toNat-a.toNat) (n-a.toNat)) H) none) none
  |_=>none
 |_,_=>none
def OA (X:ij)(H:aG)(t:TypeId)(x:AV)(hi:AV)(k:AV->aG->Option β):Option β :=
 match X.P.underlying t,x,hi with
 |some (.slice te),.own id _,.int _ b=>match H.get id with
  |some (.list t' e l _ _ false)=>ah (Ev.cR X.P te==some e.size&&H.nO id)
   (ah (!Ev.bC b 0 && !Ev.bC (Int.ofNat l.length) b) (k (.own H.next b.toNat) ((H.put id .dead).push (.list t' e (l.take b.toNat) 0 false false))) none) none
  |_=>none
 |some (.slice _),.dG,.int kb b=>El X H t .dG none (some (.int kb b)) k
 |_,_,_=>none
def wP (ev:Operand->AV)(ps:Array (Nat×Operand)):List (Nat×AV):=ps.toList.map λq=>(q.1,ev q.2)
def Em (place:Nat->Option (Nat×Nat))(cells:List AV):List (Nat×AV)->Option (List AV)
 |[]=>some cells
 |(i,v)::rest=>match place i,Ek v with
  |some (off,size),some vs=>ah (Nat.beq vs.length size&&Nat.ble (Nat.add off vs.length) cells.length) (Em place (mj cells off vs) rest) none
  |_,_=>none
def placesOf (P:Program):List Field->Option (List (Nat×Nat))
 |[]=>some []
 |f::fs=>match P.info? f.type,placesOf P fs with
  |some i,some l=>some ((f.offset,i.size)::l)
  |_,_=>none
def Cw (X:ij)(t:TypeId):Option (List AV) :=
 match Ev.mc X.P t with
 |some z=>some (z.cells.toList.map Ow)
 |none=>none
def OB (X:ij)(H:aG)(t:TypeId)(k:AV->aG->Option β):Option β :=
 match Cw X t,X.P.underlying t with
 |some z,some (.array n te)=>match Ox X.P 40 te with
  |some e=>match vl e n z with
   |some l=>ah (Nat.ble n 2000000) (k (.Ej H.next n) (H.push (.list t e l 0 true false))) none
   |none=>none
  |none=>none
 |_,_=>none
def OC (X:ij)(t:TypeId)(parts:List (Nat×AV))(k:AV->Option β):Option β :=
 match Cw X t,X.P.underlying t with
 |some z,some (.array _ e)=>match X.P.info? e with
  |some ie=>match Em (λi=>some (i*ie.size,ie.size)) z parts with
   |some cs=>k (.agg cs)
   |none=>none
  |none=>none
 |some z,some (.struct fs)=>match placesOf X.P fs.toList with
  |some pl=>match Em (λi=>pl[i]?) z parts with
   |some cs=>k (.agg cs)
   |none=>none
  |none=>none
 |_,_=>none
def jv (H:aG):List AV->Option (List AV×aG)
 |[]=>some ([],H)
 |.own id _::r=>match H.get id with
  |some (.list t e l gC ex _)=>match jv (H.put id (.list t e l gC ex true)) r with
   |some (r',H')=>some (.dH e l::r',H')
   |none=>none
  |_=>none
 |.rO id off len _::r=>match H.get id with
  |some (.list t e l gC ex _)=>match jv (H.put id (.list t e l gC ex true)) r with
   |some (r',H')=>some (.dH e ((l.drop off).take len)::r',H')
   |none=>none
  |_=>none
 |v::r=>match jv H r with
  |some (r',H')=>some (v::r',H')
  |none=>none
def ae8 (n:Nat)(cs:List AV):List AV:=Nat.rec (motive:=λ_=>List AV) [] (λ_ r=>cs++r) n
def wQ (X:ij)(H:aG)(t:TypeId)(len:Nat)(parts:List (Nat×AV))(k:AV->aG->Option β):Option β :=
 match X.P.underlying t with
 |some (.slice te)=>match Ev.cR X.P te,Cw X te,Ox X.P 40 te with
  |some s,some z,some e=>ah (Nat.ble (Nat.mul len s) 16777216&&Nat.ble len 2000000&&Nat.beq s e.size&&Nat.beq z.length s)
   (match Em (λi=>some (i*s,s)) (ae8 len z) parts with
    |some cs=>match jv H cs with
     |some (cs',H')=>match vl e len cs' with
      |some l=>k (.own H'.next len) (H'.push (.list te e l 0 X.rm false))
      |none=>none
     |none=>none
    |none=>none) none
  |_,_,_=>none
 |_=>none
def y6 (X:ij)(H:aG)(t:TypeId)(len cap:AV)(k:AV->aG->Option β):Option β :=
 match X.P.underlying t,len,cap with
 |some (.slice te),.int _ l,.int _ c=>match X.P.info? te,Cw X te,Ox X.P 40 te with
  |some inf,some z,some e=>match y5 e z with
   |some (x,[])=>ah (Nat.ble inf.bytes 2000000&&Nat.beq inf.size e.size&&Nat.beq z.length inf.size)
    (ah (!Ev.bC l 0 && !Ev.bC c l && !Ev.bC 2000000 c) (k (.rO H.next 0 l.toNat c.toNat) (H.push (.list te e (List.replicate c.toNat x) 0 true false))) none) none
   |_=>none
  |_,_,_=>none
 |_,_,_=>none
def Vb (H:aG)(te:TypeId)(e:Ty):AV->Option (List e.den×aG)
 |.dG=>some ([],H)
 |.own id _=>match H.get id with
  |some (.list t' e' l _ _ false)=>ah (H.nO id&&Nat.beq t' te) (match iC e' e l with
   |some l'=>some (l',H.put id .dead)
   |none=>none) none
  |_=>none
 |.rO id 0 len _=>match H.get id with
  |some (.list t' e' l _ true false)=>ah (H.nO id&&Nat.beq t' te) (match iC e' e l with
   |some l'=>some (l'.take len,H.put id .dead)
   |none=>none) none
  |_=>none
 |_=>none
def IX (X:ij)(H:aG)(st xt:TypeId)(s x:AV)(k:AV->aG->Option β):Option β :=
 match X.P.underlying st,Ev.lG X.P xt with
 |some (.slice te),true=>match X.P.info? te,Ev.mc X.P te,Ox X.P 40 te with
  |some inf,some z,some e=>ah (Nat.beq inf.size e.size && !(Nat.beq inf.size 0) && !(Nat.beq inf.bytes 0)&&Nat.ble inf.bytes 100000&&Nat.beq z.cells.size inf.size)
   (match Cv H e x,Vb H te e s with
    |some new,some (old,H')=>ah (Nat.ble (old.length+new.length) 2000000) (k (.own H'.next (old.length+new.length)) (H'.push (.list te e (old++new) 0 false false))) none
    |_,_=>none) none
  |_,_,_=>none
 |_,_=>none
def Vc (X:ij)(H:aG)(dt:TypeId)(d x:AV)(k:AV->aG->Option β):Option β :=
 match X.P.underlying dt,d with
 |some (.slice te),.rO id off len _=>match H.get id,Ev.cR X.P te with
  |some (.list t e l gC true false),some s=>ah (H.nO id&&Nat.beq s e.size)
   (match Cv H e x with
    |some new=>k (.int .i64 (Int.ofNat (Nat.min new.length len))) (H.put id (.list t e (mj l off (new.take (Nat.min new.length len))) (gC+1) true false))
    |none=>none) none
  |_,_=>none
 |_,_=>none
def ae9 (op:BinOp)(k k':IntKind)(a b:Int)(c:AV->Option β):Option β :=
 match op with
 |.shl=>ah (Ev.bC b 0) none (c (.int k (k.wrap (a*2 ^ (min b.toNat k.bits)))))
 |.shr=>ah (Ev.bC b 0) none (c (.int k (a.fdiv (2 ^ (min b.toNat k.bits)))))
 |op=>ah (decide (k=k')) (match op with
  |.add=>c (.int k (k.wrap (a+b)))
  |.sub=>c (.int k (k.wrap (a-b)))
  |.mul=>c (.int k (k.wrap (a*b)))
  |.quo=>ah (Ev.bI b 0) none (c (.int k (k.wrap (a.tdiv b))))
  |.rem=>ah (Ev.bI b 0) none (c (.int k (a.tmod b)))
  |.and=>c (.int k (k.wrap (BitVec.ofInt k.bits a &&& BitVec.ofInt k.bits b).toNat))
  |.or=>c (.int k (k.wrap (BitVec.ofInt k.bits a ||| BitVec.ofInt k.bits b).toNat))
  |.xor=>c (.int k (k.wrap (BitVec.ofInt k.bits a ^^^ BitVec.ofInt k.bits b).toNat))
  |.andNot=>c (.int k (k.wrap (BitVec.ofInt k.bits a &&& ~~~(BitVec.ofInt k.bits b)).toNat))
  |.eql=>c (.bool (Ev.bI a b))
  |.neq=>c (.bool (!Ev.bI a b))
  |.lss=>c (.bool (Ev.bC a b))
  |.leq=>c (.bool (!Ev.bC b a))
  |.gtr=>c (.bool (Ev.bC b a))
  |.geq=>c (.bool (!Ev.bC a b))
  |_=>none) none
def afa (op:BinOp)(a b:List UInt8)(c:AV->Option β):Option β :=
 match op with
 |.add=>ah (Nat.ble (a.length+b.length) 9223372036854775807) (c (.str (a++b))) none
 |.eql=>c (.bool (decide (a=b)))
 |.neq=>c (.bool (!decide (a=b)))
 |.lss=>c (.bool (Op.bytesLess a b))
 |.leq=>c (.bool (Op.bytesLess a b||decide (a=b)))
 |.gtr=>c (.bool (!(Op.bytesLess a b||decide (a=b))))
 |.geq=>c (.bool (!Op.bytesLess a b))
 |_=>none
def vm (P:Program):Nat->TypeId->Option (List Nat)
 |0,_=>none
 |d+1,t=>match P.underlying t with
  |some (.int _)=>some [0]
  |some .bool=>some [1]
  |some .string=>some [2]
  |some (.struct fs)=>ah (P.stoodInHeld t) none (Bt P d 0 fs.toList)
  |_=>none
where Bt (P:Program):Nat->Nat->List Field->Option (List Nat)
 |0,_,_=>none
 |_+1,_,[]=>some []
 |d+1,off,f::fs=>match vm P d f.type,Ev.cR P f.type with
  |some ks,some n=>ah (decide (f.name ≠ "_")&&Nat.beq f.offset off&&Nat.beq ks.length n)
   (match Bt P d (off+n) fs with
    |some ls=>some (ks++ls)
    |none=>none) none
  |_,_=>none
def eqK:Nat->AV->AV->Option Bool
 |0,.int k a,.int k' b=>if k=k' then some (decide (a=b)) else none
 |1,.bool a,.bool b=>some (a==b)
 |2,.str a,.str b=>some (decide (a=b))
 |_,_,_=>none
def tX:List Nat->List AV->List AV->Option Bool
 |[],[],[]=>some true
 |k::ks,x::l,y::m=>match eqK k x y with
  |some a=>match ks with
   |[]=>match l,m with
    |[],[]=>some a
    |_,_=>none
   |_::_=>match tX ks l m with
    |some b=>some (a&&b)
    |none=>none
  |none=>none
 |_,_,_=>none
def Z3 (X:ij)(op:BinOp)(t:TypeId)(x y:AV)(c:AV->Option β):Option β :=
 match x,y with
 |.int k a,.int k' b=>ae9 op k k' a b c
 |.str a,.str b=>afa op a b c
 |.bool a,.bool b=>match X.P.underlying t,op with
  |some .bool,.eql=>c (.bool (a==b))
  |some .bool,.neq=>c (.bool (!(a==b)))
  |_,_=>none
 |.agg l,.agg m=>ah (X.P.eqGuardType X.P.depth t) none (match X.P.underlying t,vm X.P 40 t with
  |some (.struct _),some ks=>match tX ks l m,op with
   |some b,.eql=>c (.bool b)
   |some b,.neq=>c (.bool (!b))
   |_,_=>none
  |_,_=>none)
 |.oh,.oh=>match X.P.underlying t,op with
  |some (.pointer _),.eql=>c (.bool true)
  |some (.pointer _),.neq=>c (.bool false)
  |_,_=>none
 |.ptr _ _,.oh=>match X.P.underlying t,op with
  |some (.pointer _),.eql=>c (.bool false)
  |some (.pointer _),.neq=>c (.bool true)
  |_,_=>none
 |.ptr i a,.ptr j b=>match X.P.underlying t,op with
  |some (.pointer e),.eql=>ah (Nat.beq i j&&Nat.beq a b&&(Ev.cR X.P e).isSome) (c (.bool true)) none
  |some (.pointer e),.neq=>ah (Nat.beq i j&&Nat.beq a b&&(Ev.cR X.P e).isSome) (c (.bool false)) none
  |_,_=>none
 |_,_=>none
def unT (op:UnOp)(x:AV)(c:AV->Option β):Option β :=
 match op,x with
 |.neg,.int k n=>c (.int k (k.wrap (0-n)))
 |.xor,.int k n=>c (.int k (k.wrap (BitVec.ofInt k.bits (if k.signed then -1 else k.max) ^^^ BitVec.ofInt k.bits n).toNat))
 |.not,.bool b=>c (.bool (!b))
 |_,_=>none
def En (X:ij)(H:aG)(src dst:TypeId)(x:AV)(c:AV->aG->Option β):Option β :=
 match X.P.underlying src,X.P.underlying dst,x with
 |some (.int _),some (.int k),.int _ n=>c (.int k (k.wrap n)) H
 |some .string,some .string,.str s=>c (.str s) H
 |some .string,some (.slice te),.str s=>match X.P.underlying te,Ev.cR X.P te with
  |some (.int .u8),some 1=>ah (Nat.ble s.length 2000000) (c (.own H.next s.length) (H.push (.list te (.int .u8) (s.map cY) 0 false false))) none
  |_,_=>none
 |some (.slice _),some .string,.str _=>none
 |some (.slice te),some .string,x=>match X.P.underlying te with
  |some (.int .u8)=>match Cv H (.int .u8) x with
   |some l=>c (.str (l.map Zy)) H
   |none=>none
  |_=>none
 |some (.slice te),some (.slice _),.own id n=>match H.get id,X.P.underlying te with
  |some (.list _ _ _ _ _ _),some (.int .u8)=>ah (H.nO id&&Nat.beq src dst&&Nat.ble 1 n) (c (.own id n) H) none
  |_,_=>none
 |some (.pointer t),some .unsafePointer,.ptr id 0=>match H.get id,Ev.cR X.P t with
  |some (.cells _ (_::_)),some n=>ah (Nat.ble 1 n) (c (.ptr id 0) H) none
  |_,_=>none
 |some .unsafePointer,some (.pointer u),.ptr id 0=>match H.get id,Ev.cR X.P u with
  |some (.cells t cs),some _=>ah (liesAt X.P X.P.depth t (cs.length/X.P.cellsOf t) 0 u 1) (c (.ptr id 0) H) none
  |_,_=>none
 |_,_,_=>none
def Vd (n:Int):Bool :=
 match n with
 |.ofNat m=>Nat.ble m 255
 |.negSucc _=>false
def y7 (H:aG)(x:AV)(c:AV->Option β):Option β :=
 match x with
 |.dG=>c .oh
 |.own id n=>match H.get id with
  |some (.list _ _ _ _ _ _)=>ah (Nat.ble 1 n) (c (.dat id)) none
  |_=>none
 |_=>none
def Ve (X:ij)(H:aG)(pt:TypeId)(p n:AV)(c:AV->aG->Option β):Option β :=
 match p,n,X.P.underlying pt with
 |.oh,.int .i64 m,_=>ah (Ev.bI m 0) (c (.str []) H) none
 |.dat id,.int .i64 m,some (.pointer e)=>match H.get id with
  |some (.list t (.int .u8) l _ _ false)=>ah (H.nO id&&Nat.beq t e&&Nat.beq (X.P.cellsOf e) 1&&Nat.ble 1 l.length&&Nat.ble l.length 2000000&&Ev.bI m l.length&&l.all Vd) (c (.str (l.map Zy)) (H.put id .dead)) none
  |_=>none
 |_,_,_=>none
def afc (X:ij)(t:TypeId)(x:AV)(c:AV->Option β):Option β :=
 match X.P.underlying t,x with
 |some (.slice _),.dH _ l=>c (.int .i64 l.length)
 |some (.slice _),.dG=>c (.int .i64 0)
 |some (.slice _),.own _ n=>c (.int .i64 n)
 |some (.slice _),.rO _ _ n _=>c (.int .i64 n)
 |some .string,.str s=>c (.int .i64 s.length)
 |_,_=>none
abbrev cI (β:Type):=FuncId->List AV->aG->(AV->aG->Option β)->Option β
def tw (P:Program)(id:FuncId):Bool :=
 match P.funcs[id]? with
 |some fn=>fn.body.isSome
 |none=>false
def toV:AV->Option Value
 |.int k n=>some (.int k n)
 |.bool b=>some (.bool b)
 |.str s=>some (.string ⟨s.toArray⟩)
 |.qg n=>some (.float .f64 n)
 |.fn f [] []=>some (.func (.func f) #[] #[])
 |.Ad v=>ah (Ev.aZ v) (some v) none
 |_=>none
def ake:AV->Bool
 |.qg _=>true
 |_=>false
def afd (P:Program)(d:TypeId):Bool :=
 match P.underlying d with
 |some (.float _)=>true
 |_=>false
def ofR:Value->AV
 |.tuple cs=>.fH (cs.toList.map Ow)
 |v=>ofV v
def QC:Option Value->Value
 |some v=>v
 |none=>undef
def CY (X:ij)(ev:Operand->AV)(o:Oper)(k:AV->Option β):Option β :=
 ah (o.op.operands.toList.all λx=>(toV (ev x)).isSome)
  (match Ev.bF X.P (execOp (λx=>QC (toV (ev x))) o) with
   |some (.value v)=>ah (Ev.aZ v) (k (ofR v)) none
   |_=>none) none
def IY (P:Program)(id:FuncId):Bool :=
 match P.funcs[id]? with
 |some fn=>ah fn.body.isSome false (fn.name == "internal/abi.NoEscape" && fn.origin == "")
 |none=>false
def Sl (P:Program)(t:TypeId):Bool :=
 match P.underlying t with
 |some (.map kt e)=>match P.underlying kt,P.underlying e,Ev.mc P e with
  |some .string,some (.int .i64),some (.int .i64 (.ofNat 0))=>true
  |_,_,_=>false
 |_=>false
def iJ:List (List UInt8×Int)->List UInt8->Int
 |[],_=>0
 |q::l,s=>ah (decide (s=q.1)) q.2 (iJ l s)
def ri:List (List UInt8×Int)->List UInt8->Bool
 |[],_=>false
 |q::l,s=>ah (decide (s=q.1)) true (ri l s)
def iw:List (List UInt8×Int)->List UInt8->Int->List (List UInt8×Int)
 |[],s,n=>[(s,n)]
 |q::l,s,n=>ah (decide (s=q.1)) ((q.1,n)::l) (q::iw l s n)
def Cy (P:Program)(t:TypeId):Option (TypeDesc×Value) :=
 match P.underlying t with
 |some (.map kt e)=>match P.underlying kt,Ev.mc P e with
  |some d,some z=>ah (Ev.tn d&&(Ev.aZ z&&Ev.plainCell z)) (some (d,z)) none
  |_,_=>none
 |_=>none
def Bu:TypeDesc->AV->Bool
 |.string,.str _=>true
 |.int k,.int k' _=>decide (k=k')
 |_,_=>false
def GK:TypeDesc->AV->AV->Option Bool
 |.string,.str a,.str b=>some (decide (a=b))
 |.int k,.int k1 a,.int k2 b=>ah (decide (k1=k)&&decide (k1=k2)) (some (Ev.bI a b)) none
 |_,_,_=>none
def Vf (d:TypeDesc)(s:AV)(z:AV)(k:AV->Bool->Option β):List (AV×AV)->Option β
 |[]=>k z false
 |q::l=>match GK d s q.1 with
  |some b=>ah b (k q.2 true) (Vf d s z k l)
  |none=>none
def Vg (X:ij)(H:aG)(t:TypeId)(x q:AV)(ok:Bool)(k:AV->Option β):Option β :=
 match x with
 |.yG id=>match H.get id with
  |some (.mp t' ks)=>match q with
   |.str s=>ah (Sl X.P t&&Nat.beq t' t) (ah ok (k (.fH [.int .i64 (iJ ks s),.bool (ri ks s)])) (k (.int .i64 (iJ ks s)))) none
   |_=>none
  |some (.mf t' ks)=>match Cy X.P t with
   |some (d,z)=>ah (Nat.beq t' t&&ok&&Bu d q) (Vf d q (.Ad z) (λv b=>k (.fH [v,.bool b])) ks) none
   |none=>none
  |_=>none
 |_=>none
def Dl (X:ij)(H:aG)(t:TypeId)(m q x:AV)(k:aG->Option β):Option β :=
 match m with
 |.yG id=>match H.get id with
  |some (.mp t' ks)=>match q,x with
   |.str s,.int .i64 n=>ah (Sl X.P t&&Nat.beq t' t&&H.nO id) (k (H.put id (.mp t' (iw ks s n)))) none
   |_,_=>none
  |some (.mf t' ks)=>match Cy X.P t with
   |some (d,_)=>ah (Nat.beq t' t&&H.nO id&&sF x&&Bu d q&&ks.all λp=>GK d q p.1==some false) (k (H.put id (.mf t' (ks++[(q,x)])))) none
   |none=>none
  |_=>none
 |_=>none
def Uo (X:ij)(call:cI β)(tr:List Tmp)(ev:Operand->AV)(o:Oper)(H:aG)(k:AV->aG->Option β):Option β :=
 match o.op with
 |.move x=>k (ev x) H
 |.assign x=>k (ev x) H
 |.pick c a b=>match ev c with
  |.bool t=>ah t (k (ev a) H) (k (ev b) H)
  |_=>none
 |.binOp op t x y _=>ah (ake (ev x)) (CY X ev o λv=>k v H) (Z3 X op t (ev x) (ev y) λv=>k v H)
 |.unOp op _ x=>unT op (ev x) λv=>k v H
 |.alloc t=>ah (X.ar t) (OB X H t k) (match Cw X t with
  |some z=>k (.ptr H.next 0) (H.push (.cells t z))
  |none=>none)
 |.box t x=>match Ev.cR X.P t,Ek (ev x) with
  |some _,some cs=>k (.ptr H.next 0) (H.push (.cells t cs))
  |_,_=>none
 |.build t ps=>OC X t (wP ev ps) λv=>k v H
 |.buildSlice t len ps=>wQ X H t len (wP ev ps) k
 |.load t a=>loadT X H t (ev a) λv=>k v H
 |.store t a x=>storeT X H t (ev a) (ev x) λH'=>k .j5 H'
 |.nilCheck x=>match ev x with
  |.ptr id off=>k (.ptr id off) H
  |.Ej id n=>k (.Ej id n) H
  |.y4 cs=>k (.y4 cs) H
  |.fn f a b=>k (.fn f a b) H
  |_=>none
 |.fieldAddr s x f=>Oz X s (ev x) f λv=>k v H
 |.indexAddr t x ix=>ae7 X H t (ev x) (ev ix) λv=>k v H
 |.extract x i=>match ev x with
  |.fH vs=>match vs[i]? with
   |some v=>k v H
   |none=>none
  |_=>none
 |.makeSlice t l c=>y6 X H t (ev l) (ev c) k
 |.makeFunc (.func f) first captured=>k (.fn f (first.toList.map ev) (captured.toList.map ev)) H
 |.slice t x lo hi none=>match o.dst,lo,hi with
  |some d,none,some h=>ah (tr.any (Nat.beq d)) (OA X H t (ev x) (ev h) k) (El X H t (ev x) (lo.map ev) (hi.map ev) k)
  |_,_,_=>El X H t (ev x) (lo.map ev) (hi.map ev) k
 |.field t x f=>match X.P.underlying t,ev x with
  |some (.struct fs),.agg cs=>match fs[f]? with
   |some fd=>sG X fd.type (cs.drop fd.offset) λv=>k v H
   |none=>none
  |_,_=>none
 |.index t x ix=>match X.P.underlying t,ev x,ev ix with
  |some .string,.str s,.int _ i=>Option.rec (motive:=λ_=>Option β) none (λc=>k (.int .u8 (cY c)) H) (dQ s i)
  |some (.array n te),.agg cs,.int _ i=>match Ev.cR X.P te with
   |some s=>Oy i (λj=>sG X te (cs.drop (Nat.mul j s)) λv=>k v H) n 0
   |none=>none
  |_,_,_=>none
 |.convert s d x=>ah (afd X.P d) (CY X ev o λv=>k v H) (En X H s d (ev x) k)
 |.call c=>match c.callee with
  |.value f=>match ev f with
   |.fn id a b=>ah (tw X.P id) (call id (a++(c.args.toList.map ev++b)) H k)
    (ah (IY X.P id)
     (match a,b,c.args.toList with
      |[],[],[x]=>k (ev x) H
      |_,_,_=>none)
     (CY X ev o λv=>k v H))
   |_=>none
  |.builtin .len=>match c.args[0]?,c.argTypes[0]? with
   |some x,some t=>afc X t (ev x) λv=>k v H
   |_,_=>none
  |.builtin .append=>match c.args[0]?,c.args[1]?,c.argTypes[0]?,c.argTypes[1]? with
   |some s,some x,some st,some xt=>IX X H st xt (ev s) (ev x) k
   |_,_,_,_=>none
  |.builtin .copy=>match c.args[0]?,c.args[1]?,c.argTypes[0]? with
   |some d,some x,some dt=>Vc X H dt (ev d) (ev x) k
   |_,_,_=>none
  |.builtin .unsafeSliceData=>match c.args.toList with
   |[x]=>y7 H (ev x) λv=>k v H
   |_=>none
  |.builtin .unsafeString=>match c.args.toList,c.argTypes.toList with
   |[p,n],[pt,_]=>Ve X H pt (ev p) (ev n) k
   |_,_=>none
  |.builtin .max=>match c.args.toList with
   |[x,y]=>match ev x,ev y with
    |.int ka a,.int _ b=>k (.int ka (ah (Ev.bC a b) b a)) H
    |_,_=>none
   |_=>none
  |.builtin .cap=>match c.args[0]?,c.argTypes[0]? with
   |some x,some t=>match X.P.underlying t,ev x with
    |some (.slice _),.rO id off len cap=>match H.get id with
     |some (.list _ _ _ _ true _)=>k (.int .i64 cap) H
     |_=>none
    |some (.slice _),.own id n=>match H.get id with
     |some (.list _ _ _ _ true _)=>k (.int .i64 n) H
     |_=>none
    |some (.slice _),.dG=>k (.int .i64 0) H
    |_,_=>none
   |_,_=>none
  |.builtin .complex=>CY X ev o λv=>k v H
  |.builtin .real=>CY X ev o λv=>k v H
  |.builtin .imag=>CY X ev o λv=>k v H
  |_=>none
 |.makeMap t none=>ah (Sl X.P t) (k (.yG H.next) (H.push (.mp t []))) (ah (Cy X.P t).isSome (k (.yG H.next) (H.push (.mf t []))) none)
 |.lookup t x q ok=>Vg X H t (ev x) (ev q) ok λv=>k v H
 |.mapUpdate t m q x=>Dl X H t (ev m) (ev q) (ev x) λH'=>k .j5 H'
 |.insert t m q x=>Dl X H t (ev m) (ev q) (ev x) λH'=>k .j5 H'
 |_=>none
def OD (ops:List Oper)(j:Nat):Option Tmp :=
 match ops[j]? with
 |some o=>o.dst
 |none=>none
def stepT (X:ij)(call:cI β)(tr:List Tmp)(ops:List Oper)(o:Oper)(f:fJ)(H:aG)(k:fJ->aG->Option β):Option β :=
 match o.guard with
 |none=>Uo X call tr (f.eval X) o H λv H'=>k (f.put o.dst v) H'
 |some (j,want)=>match OD ops j with
  |some d=>match f.get d with
   |.bool b=>ah b
    (ah want (Uo X call tr ((f.put (some d) (.bool true)).eval X) o H λv H'=>k ((f.put (some d) (.bool true)).put o.dst v) H') (k ((f.put (some d) (.bool true)).put o.dst (.fH [])) H))
    (ah want (k ((f.put (some d) (.bool false)).put o.dst (.fH [])) H) (Uo X call tr ((f.put (some d) (.bool false)).eval X) o H λv H'=>k ((f.put (some d) (.bool false)).put o.dst v) H'))
   |.fH _=>k (f.put o.dst (.fH [])) H
   |_=>none
  |none=>none
def toF:AV->Option (Option Nat)
 |.qg n=>some (some n)
 |.fl a=>some a
 |_=>none
def NH:AV->Option (Option Nat×Option Nat)
 |.Ad (.complex .f64 a b)=>some (some a,some b)
 |.cx a b=>some (a,b)
 |_=>none
def Z4 (P:Program)(id:FuncId):Bool :=
 match P.funcs[id]? with
 |some fn=>ah fn.body.isSome false (fn.name == "math.Float64bits" && fn.origin == "")
 |none=>false
def QD (op:BinOp)(x y:AV):Option AV :=
 match toF x,toF y with
 |some a,some b=>match op with
  |.add=>some (.fl (Ev.NT .add a b))
  |.sub=>some (.fl (Ev.NT .sub a b))
  |.mul=>some (.fl (Ev.NT .mul a b))
  |.neq=>match a,b with
   |some _,some _=>none
   |_,_=>some (.bool true)
  |_=>none
 |_,_=>none
def afe (X:ij)(ev:Operand->AV)(o:Oper):Option AV :=
 ah X.fl (match o.op with
 |.binOp op _ x y _=>QD op (ev x) (ev y)
 |.call c=>match c.callee,c.args.toList.map ev with
  |.builtin .complex,[x,y]=>match toF x,toF y with
   |some a,some b=>some (.cx a b)
   |_,_=>none
  |.builtin .real,[x]=>match NH x with
   |some q=>some (.fl q.1)
   |none=>none
  |.builtin .imag,[x]=>match NH x with
   |some q=>some (.fl q.2)
   |none=>none
  |.value f,[x]=>match ev f with
   |.fn id [] []=>ah (Z4 X.P id) (match x with
    |.fl none=>some .j5
    |_=>none) none
   |_=>none
  |_,_=>none
 |_=>none) none
def IZ (X:ij)(call:cI β)(tr:List Tmp)(ops:List Oper)(o:Oper)(f:fJ)(H:aG)(k:fJ->aG->Option β):Option β :=
 match afe X (f.eval X) o,o.guard with
 |some v,none=>k (f.put o.dst v) H
 |_,_=>stepT X call tr ops o f H k
def aff (X:ij)(call:cI β)(tr:List Tmp)(ops:List Oper)(l:List Oper)(k:fJ->aG->Option β):fJ->aG->Option β :=
 List.rec (motive:=λ_=>fJ->aG->Option β) k (λo _ go f H=>IZ X call tr ops o f H go) l
def I0 (ev:Operand->AV)(o:Oper)(R:Option (List Nat)):Option (List Nat) :=
 match o.op with
 |.load _ x=>match R,ev x with
  |some l,.ptr id _=>some (id::l)
  |some l,.Dk id _ _ _ _=>some (id::l)
  |some l,.y4 _=>some l
  |_,_=>none
 |op=>ah (Ev.kX op) none R
def Bw (H:aG)(R:Option (List Nat))(s:AV):Bool :=
 match s,R with
 |.dG,_=>true
 |.own id _,some l=>(match H.get id with|some (.list _ _ _ _ _ false)=>true|_=>false)&&l.all λj => !Nat.beq j id&&(H.get j).isSome
 |.rO id _ _ _,some l=>(match H.get id with|some (.list _ _ _ _ _ false)=>true|_=>false)&&l.all λj => !Nat.beq j id&&(H.get j).isSome
 |.ptr id _,some l=>(match H.get id with|some (.cells _ _)=>true|_=>false)&&l.all λj => !Nat.beq j id&&(H.get j).isSome
 |_,_=>false
def qM (H:aG)(R:Option (List Nat))(ev:Operand->AV)(o:Oper):Bool :=
 match Ev.mG o.op with
 |some s=>Bw H R (ev s)
 |none=>false
def I1 (X:ij)(call:cI β)(tr:List Tmp)(ops:List Oper)(R:Option (List Nat))(lk:Bool)(o:Oper)(f:fJ)(H:aG)(k:fJ->aG->Option β):Option β :=
 ah lk
  (match Ev.kJ o.op with
   |some s=>ah (Bw H R (f.eval X s)) (stepT X call tr ops o f H k) none
   |none=>ah (qM H R (f.eval X) o) (stepT X call tr ops o f H k) (stepT X call tr ops o f { H with lk:=H.next } λf' H'=>k f' { H' with lk:=H.lk }))
  (stepT X call tr ops o f H k)
def Z5 (X:ij)(call:cI β)(tr:List Tmp)(ops:List Oper)(l:List (Oper×Bool))(k:fJ->aG->Option β):Option (List Nat)->fJ->aG->Option β :=
 List.rec (motive:=λ_=>Option (List Nat)->fJ->aG->Option β) (λ_=>k) (λq _ go R f H=>I1 X call tr ops R q.2 q.1 f H (go (I0 (f.eval X) q.1 R))) l
def Ae (X:ij)(call:cI β)(tr:List Tmp)(ops:Array Oper)(draw:Bool)(f:fJ)(H:aG)(k:fJ->aG->Option β):Option β :=
 ah (Ev.Uu X.G ops.toList)
  (ah draw
   (Option.rec (motive:=λ_=>Option β) none (λl=>Z5 X call tr ops.toList l k (some []) f H) (Ev.plan X.P ops))
   (aff X call tr ops.toList ops.toList k f H))
  none
inductive mY where
 |none
 |node (keep:Option (List Tmp)) (a b:mY)
def mY.keep:mY->Option (List Tmp)
 |.none=>Option.none
 |.node k _ _=>k
def mY.l:mY->mY
 |.none=>.none
 |.node _ a _=>a
def mY.r:mY->mY
 |.none=>.none
 |.node _ _ b=>b
def placeOf (id:Nat):List Nat->Nat->Option Nat
 |[],_=>none
 |x::l,n=>ah (Nat.beq x id) (some n) (placeOf id l (n+1))
mutual
def mo (ids:List Nat):AV->AV
 |.own id n=>match placeOf id ids 0 with
  |some i=>.own i n
  |none=>.j5
 |.rO id a b c=>match placeOf id ids 0 with
  |some i=>.rO i a b c
  |none=>.j5
 |.ptr id off=>match placeOf id ids 0 with
  |some i=>.ptr i off
  |none=>.j5
 |.Ej id n=>match placeOf id ids 0 with
  |some i=>.Ej i n
  |none=>.j5
 |.yG id=>match placeOf id ids 0 with
  |some i=>.yG i
  |none=>.j5
 |.Dk _ _ _ _ _=>.j5
 |.dat _=>.j5
 |.fn f a b=>.fn f (yp ids a) (yp ids b)
 |.agg l=>.agg (yp ids l)
 |.fH l=>.fH (yp ids l)
 |.int k n=>.int k n
 |.bool b=>.bool b
 |.str s=>.str s
 |.qg n=>.qg n
 |.dH e l=>.dH e l
 |.dG=>.dG
 |.y4 cs=>.y4 (yp ids cs)
 |.oh=>.oh
 |.Ad v=>.Ad v
 |.fl a=>.fl a
 |.cx a b=>.cx a b
 |.j5=>.j5
def yp (ids:List Nat):List AV->List AV
 |[]=>[]
 |v::l=>mo ids v::yp ids l
end
def I2 (ids:List Nat):Row->Row
 |.dead=>.dead
 |.cells t cs=>.cells t (yp ids cs)
 |.list t e l _ ex ro=>.list t e l 0 ex ro
 |.mp t ks=>.mp t ks
 |.mf t ks=>.mf t (ks.map λq=>(mo ids q.1,mo ids q.2))
def Vh (acc:List Nat):AV->List Nat
 |.own id _=>ah (acc.any (Nat.beq id)) acc (acc++[id])
 |.rO id _ _ _=>ah (acc.any (Nat.beq id)) acc (acc++[id])
 |.ptr id _=>ah (acc.any (Nat.beq id)) acc (acc++[id])
 |.Ej id _=>ah (acc.any (Nat.beq id)) acc (acc++[id])
 |.yG id=>ah (acc.any (Nat.beq id)) acc (acc++[id])
 |_=>acc
def Lp (acc:List Nat):AV->List Nat
 |.fn _ a b=>b.foldl Vh (a.foldl Vh acc)
 |v=>Vh acc v
def I3 (H:aG)(acc:List Nat)(id:Nat):List Nat :=
 match H.get id with
 |some (.cells _ cs)=>cs.foldl Lp acc
 |_=>acc
def wR (H:aG):Nat->List Nat->List Nat
 |0,ids=>ids
 |n+1,ids=>wR H n (ids.foldl (I3 H) ids)
def nodupB:List Nat->Bool
 |[]=>true
 |x::l => !l.any (Nat.beq x)&&nodupB l
def rP (H:aG)(ids:List Nat)(id:Nat):Row :=
 match H.get id with
 |some r=>I2 ids r
 |none=>.dead
def Vi (keep:List Tmp)(f:fJ)(H:aG)(k:fJ->aG->Option β):Option β :=
 let roots:=keep.foldl (λacc t=>Lp acc (f.get t)) (List.range H.par)
 let ids:=wR H 3 roots
 ah (nodupB ids&&(ids.take H.par==List.range H.par)&&Nat.beq H.lk 0)
  (k (keep.foldl (λg t=>g.put (some t) (mo ids (f.get t))) ⟨f.n,.e⟩)
   (ids.foldl (λM id=>M.push (rP H ids id)) ⟨0,0,H.par,.e⟩)) none
def CZ (a:mY)(f:fJ)(H:aG)(k:fJ->aG->Option β):Option β :=
 match a.keep with
 |none=>k f H
 |some l=>Vi l f H k
abbrev KT (β:Type):=iL->fJ->aG->Option β
def y8 (y:fJ->aG->Option β)(k:KT β):KT β:=λlv f H =>
 match lv with
 |.normal=>y f H
 |.exit id=>k (.exit id) f H
 |.ret=>k .ret f H
 |.goto l=>k (.goto l) f H
def Eo (id:Nat)(k:KT β):KT β:=λlv f H =>
 match lv with
 |.exit id'=>ah (Nat.beq id' id) (k .normal f H) (k (.exit id') f H)
 |.normal=>k .normal f H
 |.ret=>k .ret f H
 |.goto l=>k (.goto l) f H
def QE (a:mY)(body:fJ->aG->KT β->Option β)(k:KT β)(n:Nat):fJ->aG->Option β :=
 Nat.rec (motive:=λ_=>fJ->aG->Option β) (λ_ _=>none) (λ_ go f H=>body f H (y8 (λf H=>CZ a f H go) k)) n
abbrev tA (β:Type):=Code->Code->fJ->aG->KT β->Option β
def Bx (c:Code)(J:tA β)(k:KT β):KT β:=λlv f H =>
 match lv with
 |.goto l=>match findLabel c l with
  |some rest=>J c rest f H k
  |none=>k (.goto l) f H
 |.normal=>k .normal f H
 |.exit id=>k (.exit id) f H
 |.ret=>k .ret f H
def Dm (a:mY)(p:Tmp)(x y:fJ->aG->KT β->Option β)(k:KT β)(l:List AV):fJ->aG->Option β :=
 List.rec (motive:=λ_=>fJ->aG->Option β) (λf H=>k .normal f H)
  (λv _ go f H=>match v with
   |.str s=>x (f.put (some p) (.str s)) H λlv f2 H2=>match lv with
    |.normal=>y f2 H2 λlv _ H3=>match lv with
     |.normal=>CZ a f H3 go
     |.ret=>k .ret f H3
     |_=>none
    |_=>none
   |_=>none) l
def I4 (X:ij)(call:cI β)(g:Operand)(ps:List Tmp)(plain:Bool)(a:mY)(x y:fJ->aG->KT β->Option β)(f:fJ)(H:aG)(k:KT β):Option β :=
 ah (Ev.dW X.G g&&plain) (match ps,f.eval X g with
  |[p],.fn fid [] [.ptr id 0]=>match X.P.funcs[Ev.qZ fid]? with
   |none=>call (Ev.qZ fid) [.ptr id 0] H λv H1=>match v with
    |.fH (_::l)=>Dm a p x y k l f H1
    |_=>none
   |some _=>none
  |_,_=>none) none
def iD (X:ij)(call:cI β)(tr:List Tmp)(J:tA β)(rounds:Nat)(c:Code):mY->fJ->aG->KT β->Option β :=
 Code.rec (motive:=λ_=>mY->fJ->aG->KT β->Option β)
  (λ_ f H k=>k .normal f H)
  (λ_ ops draw a f H k=>CZ a f H λf H=>Ae X call tr ops draw f H λf H=>k .normal f H)
  (λ_ _ x y a f H k=>CZ a f H λf H=>x a.l f H (y8 (λf H=>y a.r f H k) k))
  (λc _ _ x y a f H k=>CZ a f H λf H=>ah (Ev.dW X.G c) (match f.eval X c with
   |.bool b=>ah b (x a.l f H k) (y a.r f H k)
   |_=>none) none)
  (λid _ b a f H k=>CZ a f H λf H=>b a.l f H (Eo id k))
  (λ_ b a f H k=>CZ a f H (QE a (λf H k=>b a.l f H k) k rounds))
  (λg ps ca cb x y a f H k=>CZ a f H λf H=>I4 X call g ps.toList (Ev.n9 ca&&Ev.n9 cb) a (x .none) (y .none) f H k)
  (λid _ f H k=>k (.exit id) f H)
  (λc b a f H k=>CZ a f H λf H=>b a.l f H (Bx c J k))
  (λ_ _ f H k=>k .normal f H)
  (λl _ f H k=>k (.goto l) f H)
  (λ_ f H k=>k .ret f H)
  (λ_ _ _ _ _=>none) c
def OE (X:ij)(call:cI β)(tr:List Tmp)(ja:mY)(rounds:Nat)(n:Nat):tA β :=
 Nat.rec (motive:=λ_=>tA β) (λ_ _ _ _ _=>none)
  (λ_ go c rest f H k=>iD X call tr (λc rest f H k=>CZ ja f H λf H=>go c rest f H k) rounds rest ja.l f H (Bx c (λc rest f H k=>CZ ja f H λf H=>go c rest f H k) k)) n
def pN (X:ij)(call:cI β)(tr:List Tmp)(ja:mY)(rounds:Nat)(n:Nat):tA β :=
 λc rest f H k=>CZ ja f H λf H=>OE X call tr ja rounds n c rest f H k
def I5 (X:ij)(H:aG)(f:fJ)(r:ResultVar)(k:AV->Option β):Option β :=
 match r with
 |.tmp t=>k (f.get t)
 |.cell x t=>loadT X H t (f.get x) k
def wS (X:ij)(H:aG)(f:fJ)(k:List AV->Option β):List ResultVar->Option β
 |[]=>k []
 |r::l=>I5 X H f r λv=>wS X H f (λvs=>k (v::vs)) l
def rQ:List AV->AV
 |[v]=>v
 |l=>.fH l
def qz (X:ij)(fn:Func)(k:AV->aG->Option β):KT β:=λlv f H =>
 match lv with
 |.normal=>wS X H f (λvs=>k (rQ vs) H) fn.results.toList
 |.ret=>wS X H f (λvs=>k (rQ vs) H) fn.results.toList
 |_=>none
structure ei where
 I6:mY
 ja:mY
 tr:List Tmp
def aT (X:ij)(call:cI β)(an:ei)(rounds:Nat)(id:FuncId)(args:List AV)(H:aG)(k:AV->aG->Option β):Option β :=
 match X.P.funcs[id]? with
 |some fn=>match fn.body with
  |some c=>ah (Nat.ble args.length fn.ntmps)
   (iD X call an.tr (pN X call an.tr an.ja rounds rounds) rounds c an.I6 ((fJ.mk fn.ntmps .e).fill 0 args) H (qz X fn k)) none
  |none=>none
 |none=>none
end
end
end Go.Tv
namespace Go.Tv
open Go.Ev (Tr ah iL Mem jJ alive ax)
structure Wo where
 F:Nat->Option (List Value)
 ρ:Nat->Option (Nat×Nat×Nat)
 Γ:Nat->Nat->Option (Sigma λe:Ty=>List e.den)
structure Wo.le (S T:Wo):Prop where
 F:∀i x,S.F i=some x->T.F i=some x
 ρ:∀i x,S.ρ i=some x->T.ρ i=some x
 Γ:∀i v x,S.Γ i v=some x->T.Γ i v=some x
 -- a row that has none keeps none,so ash as it is told of
theorem Wo.le_refl (S:Wo):S.le S:=⟨λ_ _ h=>h,λ_ _ h=>h,λ_ _ _ h=>h⟩
theorem Wo.le_trans {a b c:Wo}(h:a.le b)(k:b.le c):a.le c:=⟨λi x hx=>k.F i x (h.F i x hx),λi x hx=>k.ρ i x (h.ρ i x hx),λi v x hx=>k.Γ i v x (h.Γ i v x hx)⟩
def mU {α:Type}(R:α->List Value->Prop):List α->List Value->Prop
 |[],cs=>cs=[]
 |x::l,cs=>∃c1 c2,cs=c1++c2/\R x c1/\mU R l c2
def SR {α:Type}(R:α->List Value->Prop)(F:Nat->Option (List Value))(l:List α)(v:Value):Prop :=
 (l=[]/\(v = .slice none 0 0\/v=Ev.vd))\/∃i pre mid post cap,v = .slice (some ⟨i,pre.length,none⟩) l.length cap/\F i=some (pre++(mid++post))/\mU R l mid/\l.length<=cap
def CR (F:Nat->Option (List Value)):(e:Ty)->e.den->List Value->Prop
 |.int k,n,cs=>cs=[.int k n]
 |.bool,b,cs=>cs=[.bool b]
 |.str,s,cs=>cs=[.string ⟨s.toArray⟩]
 |.qg,n,cs=>cs=[.float .f64 n]
 |.unit,_,cs=>cs=[]
 |.sl e,l,cs=>∃v,cs=[v]/\SR (CR F e) F l v
 |.pair a b,x,cs=>∃c1 c2,cs=c1++c2/\CR F a x.1 c1/\CR F b x.2 c2
theorem mU.mono {α:Type}{R R':α->List Value->Prop}(h:∀x c,R x c->R' x c):∀{l:List α} {cs:List Value},mU R l cs->mU R' l cs
 |[],_,hc=>hc
 |_::_,_,⟨c1,c2,e,h1,h2⟩=>⟨c1,c2,e,h _ _ h1,h2.mono h⟩
theorem CR.mono {F F':Nat->Option (List Value)}(hF:∀i x,F i=some x->F' i=some x):∀(e:Ty) (x:e.den) (cs:List Value),CR F e x cs->CR F' e x cs
 |.int _,_,_,h=>h
 |.bool,_,_,h=>h
 |.str,_,_,h=>h
 |.qg,_,_,h=>h
 |.unit,_,_,h=>h
 |.sl e,l,cs,⟨v,e1,h⟩=>⟨v,e1,by
  rcases h with h|⟨i,pre,mid,post,cap,h1,h2,h3,h4⟩
  .exact .inl h
  exact .inr ⟨i,pre,mid,post,cap,h1,hF _ _ h2,h3.mono λx c=>CR.mono hF e x c,h4⟩⟩
 |.pair a b,_,_,⟨c1,c2,e,h1,h2⟩=>⟨c1,c2,e,CR.mono hF a _ _ h1,CR.mono hF b _ _ h2⟩
theorem SR.mono {F F':Nat->Option (List Value)}(hF:∀i x,F i=some x->F' i=some x){e:Ty}{l:List e.den}{v:Value}(h:SR (CR F e) F l v):SR (CR F' e) F' l v:=by
 rcases h with h|⟨i,pre,mid,post,cap,h1,h2,h3,h4⟩
 .exact .inl h
 exact .inr ⟨i,pre,mid,post,cap,h1,hF _ _ h2,h3.mono λx c=>CR.mono hF e x c,h4⟩
theorem CR.length {F:Nat->Option (List Value)}:∀(e:Ty) (x:e.den) (cs:List Value),CR F e x cs->cs.length=e.size
 |.int _,_,_,h=>by rw[h];rfl
 |.bool,_,_,h=>by rw[h];rfl
 |.str,_,_,h=>by rw[h];rfl
 |.qg,_,_,h=>by rw[h];rfl
 |.unit,_,_,h=>by rw[h];rfl
 |.sl _,_,_,⟨v,h,_⟩=>by rw[h];rfl
 |.pair a b,_,_,⟨c1,c2,e,h1,h2⟩=>by rw[e,aA,CR.length a _ _ h1,CR.length b _ _ h2];rfl
theorem mU.length {α:Type}{R:α->List Value->Prop}{s:Nat}(hR:∀x c,R x c->c.length=s):∀{l:List α} {cs:List Value},mU R l cs->cs.length=l.length*s
 |[],_,h=>by rw[h];simp
 |x::l,_,⟨c1,c2,e,h1,h2⟩=>by rw[e,aA,hR _ _ h1,h2.length hR,aJ,oG,l8]
theorem mU.append {α:Type}{R:α->List Value->Prop}:∀{l m:List α} {cs ds:List Value},mU R l cs->mU R m ds->mU R (l++m) (cs++ds)
 |[],_,_,_,h,k=>by rw[h];simpa using k
 |x::l,m,_,ds,⟨c1,c2,e,h1,h2⟩,k=>⟨c1,c2++ds,by rw[e];simp,h1,h2.append k⟩
theorem mU.get {α:Type}{R:α->List Value->Prop}{s:Nat}(hR:∀x c,R x c->c.length=s):∀{l:List α} {cs:List Value} {j:Nat} {x:α},mU R l cs->l[j]? = some x->∃a c b,cs=a++(c++b)/\a.length=j*s/\R x c/\mU R (l.take j) a/\mU R (l.drop (j+1)) b
 |[],_,_,_,_,h=>by simp at h
 |y::l,_,0,x,⟨c1,c2,e,h1,h2⟩,h=>by
  simp at h;subst h;exact⟨[],c1,c2,by simpa using e,by simp,h1,rfl,by simpa using h2⟩
 |y::l,_,j+1,x,⟨c1,c2,e,h1,h2⟩,h=>by
  obtain⟨a,c,b,e1,e2,e3,e4,e5⟩:=h2.get hR (j:=j) (x:=x) (by simpa using h);exact⟨c1++a,c,b,by rw[e,e1];simp,by rw[aA,e2,hR _ _ h1,oG,l8],e3,⟨c1,a,rfl,h1,e4⟩,by simpa using e5⟩
theorem mU.split {α:Type}{R:α->List Value->Prop}{s:Nat}(hR:∀x c,R x c->c.length=s):∀{l:List α} {cs:List Value} (j:Nat),mU R l cs->∃a b,cs=a++b/\mU R (l.take j) a/\mU R (l.drop j) b
 |l,cs,0,h=>⟨[],cs,by simp,by simp[mU],by simpa using h⟩
 |[],cs,j+1,h=>⟨[],[],by rw[show cs=[] from h];rfl,by simp[mU],by simp[mU]⟩
 |x::l,_,j+1,⟨c1,c2,e,h1,h2⟩=>by
  obtain⟨a,b,e1,e2,e3⟩:=h2.split hR j;exact⟨c1++a,b,by rw[e,e1];simp,⟨c1,a,rfl,h1,e2⟩,by simpa using e3⟩
inductive VR (S:Wo):AV->Value->Prop where
 |int (k n):VR S (.int k n) (.int k n)
 |bool (b):VR S (.bool b) (.bool b)
 |str (s):VR S (.str s) (.string ⟨s.toArray⟩)
 |qg (n):VR S (.qg n) (.float .f64 n)
 |dH (e l v) (h:SR (CR S.F e) S.F l v):VR S (.dH e l) v
 |dG:VR S .dG (.slice none 0 0)
 |own (id n i cap s) (h:S.ρ id=some (i,cap,s)) (g) (hg:S.Γ id 0=some g) (hn:g.2.length=n):VR S (.own id n) (.slice (some ⟨i,0,none⟩) n cap)
 |gh (id g) (hg:S.Γ id 0=some g) (hn:g.2.length=0):VR S (.own id 0) (.slice none 0 0)
 |rO (id off len cap i c s) (h:S.ρ id=some (i,c,s)) (g) (hg:S.Γ id 0=some g) (hc:off+cap=g.2.length) (hl:len<=cap):VR S (.rO id off len cap) (.slice (some ⟨i,off*s,none⟩) len cap)
 |ptr (id off i c s) (h:S.ρ id=some (i,c,s)):VR S (.ptr id off) (.pointer (some ⟨i,off,none⟩))
 |Dk (id j fo gC cur i c) (e:Ty) (l:List e.den) (y:e.den) (h:S.ρ id=some (i,c,e.size)) (hg:S.Γ id gC=some ⟨e,l⟩) (hy:l[j]? = some y) (hc:cur=flat e y):VR S (.Dk id j fo gC cur) (.pointer (some ⟨i,j*e.size+fo,none⟩))
 |Ej (id n i c s) (h:S.ρ id=some (i,c,s)) (g) (hg:S.Γ id 0=some g) (hn:g.2.length=n):VR S (.Ej id n) (.pointer (some ⟨i,0,none⟩))
 |yG (id i c s) (h:S.ρ id=some (i,c,s)):VR S (.yG id) (.map (some i))
 |dat (id i c s) (h:S.ρ id=some (i,c,s)):VR S (.dat id) (.pointer (some ⟨i,0,none⟩))
 |y4 (cs:List AV) (i) (pre mid post:List Value) (h:S.F i=some (pre++(mid++post))) (hl:cs.length=mid.length) (hc:∀(j:Nat) x y,cs[j]? = some x->mid[j]? = some y->VR S x y):VR S (.y4 cs) (.pointer (some ⟨i,pre.length,none⟩))
 |oh:VR S .oh (.pointer none)
 |fn (f) (a b:List AV) (a' b':List Value) (ha:a.length=a'.length) (hb:b.length=b'.length) (va:∀(j:Nat) x y,a[j]? = some x->a'[j]? = some y->VR S x y) (vb:∀(j:Nat) x y,b[j]? = some x->b'[j]? = some y->VR S x y):VR S (.fn f a b) (.func (.func f) a'.toArray b'.toArray)
 |agg (l:List AV) (m:List Value) (hl:l.length=m.length) (hv:∀(j:Nat) x y,l[j]? = some x->m[j]? = some y->VR S x y):VR S (.agg l) (.agg m.toArray)
 |fH (l:List AV) (m:List Value) (hl:l.length=m.length) (hv:∀(j:Nat) x y,l[j]? = some x->m[j]? = some y->VR S x y):VR S (.fH l) (.tuple m.toArray)
 |Ad (v) (h:Ev.aZ v=true):VR S (.Ad v) v
 |fl (a v) (h:v=Ev.NN a):VR S (.fl a) v
 |cx (a b v) (h:v=Ev.cxV a b):VR S (.cx a b) v
 |j5 (v):VR S .j5 v
theorem VR.fT {S:Wo}{k:IntKind}{n:Int}{v:Value}(h:VR S (.int k n) v):v = .int k n:=by cases h;rfl
theorem VR.mq {S:Wo}{b:Bool}{v:Value}(h:VR S (.bool b) v):v = .bool b:=by cases h;rfl
theorem VR.jw {S:Wo}{s:List UInt8}{v:Value}(h:VR S (.str s) v):v = .string ⟨s.toArray⟩:=by cases h;rfl
def LV (S:Wo)(l:List AV)(m:List Value):Prop:=l.length=m.length/\∀(j:Nat) x y,l[j]? = some x->m[j]? = some y->VR S x y
theorem VR.mono {S T:Wo}(hle:S.le T){v:AV}{x:Value}(h:VR S v x):VR T v x:=by
 induction h with
 |int=>exact .int _ _
 |bool=>exact .bool _
 |str=>exact .str _
 |qg=>exact .qg _
 |dH e l v h=>exact .dH e l v (h.mono hle.F)
 |dG=>exact .dG
 |own id n i cap s h g hg hn=>exact .own id n i cap s (hle.ρ _ _ h) g (hle.Γ _ _ _ hg) hn
 |gh id g hg hn=>exact .gh id g (hle.Γ _ _ _ hg) hn
 |rO id off len cap i c s h g hg hc hl=>exact .rO id off len cap i c s (hle.ρ _ _ h) g (hle.Γ _ _ _ hg) hc hl
 |ptr id off i c s h=>exact .ptr id off i c s (hle.ρ _ _ h)
 |Dk id j fo gC cur i c e l y h hg hy hc=>exact .Dk id j fo gC cur i c e l y (hle.ρ _ _ h) (hle.Γ _ _ _ hg) hy hc
 |Ej id n i c s h g hg hn=>exact .Ej id n i c s (hle.ρ _ _ h) g (hle.Γ _ _ _ hg) hn
 |yG id i c s h=>exact .yG id i c s (hle.ρ _ _ h)
 |dat id i c s h=>exact .dat id i c s (hle.ρ _ _ h)
 |y4 cs i pre mid post h hl _ ih=>exact .y4 cs i pre mid post (hle.F _ _ h) hl ih
 |oh=>exact .oh
 |fn f a b a' b' ha hb _ _ Uw Ux=>exact .fn f a b a' b' ha hb Uw Ux
 |agg l m hl _ ih=>exact .agg l m hl ih
 |fH l m hl _ ih=>exact .fH l m hl ih
 |Ad v h=>exact .Ad v h
 |fl a v h=>exact .fl a v h
 |cx a b v h=>exact .cx a b v h
 |j5 v=>exact .j5 v
theorem LV.mono {S T:Wo}(hle:S.le T){l:List AV}{m:List Value}(h:LV S l m):LV T l m:=⟨h.1,λj x y hx hy=>(h.2 j x y hx hy).mono hle⟩
theorem LV.nil {S:Wo}:LV S [] []:=⟨rfl,λj x y hx=>by simp at hx⟩
theorem LV.cons {S:Wo}{v:AV}{x:Value}{l:List AV}{m:List Value}(h:VR S v x)(k:LV S l m):LV S (v::l) (x::m) :=
 ⟨by simp[k.1],λj a b ha hb=>by
  cases j with
  |zero=>simp at ha hb;subst ha;subst hb;exact h
  |succ j=>exact k.2 j a b (by simpa using ha) (by simpa using hb)⟩
theorem LV.jx {S:Wo}{m:List Value}(h:LV S [] m):m=[]:=by
 have:=h.1;simp at this;exact aQ.1 this.symm
theorem LV.cons_inv {S:Wo}{v:AV}{l:List AV}{m:List Value}(h:LV S (v::l) m):∃x m',m=x::m'/\VR S v x/\LV S l m':=by
 cases m with
 |nil=>have:=h.1;simp at this
 |cons x m'=>exact⟨x,m',rfl,h.2 0 v x rfl rfl,by have:=h.1;simpa using this,λj a b ha hb=>h.2 (j+1) a b (by simpa using ha) (by simpa using hb)⟩
theorem LV.append {S:Wo}:∀{l l':List AV} {m m':List Value},LV S l m->LV S l' m'->LV S (l++l') (m++m')
 |[],_,m,_,h,k=>by rw[h.jx];simpa using k
 |v::l,l',m,m',h,k=>by
  obtain⟨x,m1,rfl,h1,h2⟩:=h.cons_inv;exact LV.cons h1 (h2.append k)
theorem LV.drop {S:Wo}{l:List AV}{m:List Value}(h:LV S l m)(n:Nat):LV S (l.drop n) (m.drop n) :=
 ⟨by simp[h.1],λj x y hx hy=>h.2 (n+j) x y (by simpa using hx) (by simpa using hy)⟩
theorem LV.take {S:Wo}{l:List AV}{m:List Value}(h:LV S l m)(n:Nat):LV S (l.take n) (m.take n) :=
 ⟨by simp[h.1],λj x y hx hy=>by
  rw[dD]at hx hy;by_cases hj:j<n
  .rw[ag hj]at hx hy;exact h.2 j x y hx hy
  rw[aa hj]at hx;cases hx⟩
theorem LV.get {S:Wo}{l:List AV}{m:List Value}(h:LV S l m){j:Nat}{x:AV}(hx:l[j]? = some x):∃y,m[j]? = some y/\VR S x y:=by
 have hlt:j<l.length:=(bx.1 hx).1;have:j<m.length:=by rw[<-h.1];exact hlt
 exact⟨m[j],aP this,h.2 j x _ hx (aP this)⟩
theorem LV.map {S:Wo}{α:Type}{f:α->AV}{g:α->Value}:∀(l:List α),(∀x∈l,VR S (f x) (g x))->LV S (l.map f) (l.map g)
 |[],_=>LV.nil
 |x::l,h=>LV.cons (h x (by simp)) (LV.map l λy hy=>h y (by simp[hy]))
theorem LV.set {S:Wo}{l:List AV}{m:List Value}(h:LV S l m)(i:Nat){v:AV}{x:Value}(hv:VR S v x):LV S (l.set i v) (m.set i x) :=
 ⟨by simp[h.1],λj a b ha hb=>by
  rw[mZ]at ha hb;by_cases hj:i=j
  .subst hj;rw[ag rfl]at ha hb;split at ha
   .split at hb
    .cases ha;cases hb;exact hv
    cases hb
   cases ha
  rw[aa hj]at ha hb;exact h.2 j a b ha hb⟩
theorem LV.mj {S:Wo}:∀(vs:List AV) (xs:List Value) {l:List AV} {m:List Value} (off:Nat),LV S vs xs->LV S l m->LV S (mj l off vs) (Ev.ou m off xs)
 |[],xs,l,m,off,h,k=>by rw[h.jx];exact k
 |v::vs,xs,l,m,off,h,k=>by
  obtain⟨x,xs',rfl,h1,h2⟩:=h.cons_inv;exact LV.mj vs xs' (off+1) h2 (k.set off h1)
theorem CR.flat {S:Wo}:∀(e:Ty) (x:e.den) (cs:List Value),CR S.F e x cs->LV S (flat e x) cs
 |.int k,n,_,h=>by rw[h];exact LV.cons (.int k n) LV.nil
 |.bool,b,_,h=>by rw[h];exact LV.cons (.bool b) LV.nil
 |.str,s,_,h=>by rw[h];exact LV.cons (.str s) LV.nil
 |.qg,n,_,h=>by rw[h];exact LV.cons (.qg n) LV.nil
 |.unit,_,_,h=>by rw[h];exact LV.nil
 |.sl e,l,_,⟨v,h1,h2⟩=>by rw[h1];exact LV.cons (.dH e l v h2) LV.nil
 |.pair a b,x,_,⟨c1,c2,e,h1,h2⟩=>by rw[e];exact(CR.flat a _ _ h1).append (CR.flat b _ _ h2)
theorem bT {e e':Ty}{l:List e.den}{l':List e'.den}(h:iC e e' l=some l'):∃he:e=e',he ▸ l=l':=by
 unfold iC at h;split at h
 .rename_i he;exact⟨he,by simpa using h⟩
 cases h
theorem tB:∀(e:Ty) (x:e.den),(flat e x).length=e.size
 |.int _,_=>rfl
 |.bool,_=>rfl
 |.str,_=>rfl
 |.qg,_=>rfl
 |.unit,_=>rfl
 |.sl _,_=>rfl
 |.pair a b,x=>by show (flat a x.1++flat b x.2).length=_;rw[aA,tB a,tB b];rfl
theorem qN {S:Wo}:∀(e:Ty) {l r:List AV} {x:e.den} {m:List Value},y5 e l=some (x,r)->LV S l m->∃c m',m=c++m'/\CR S.F e x c/\LV S r m'
 |.int k,l,r,x,m,h,hl=>by
  have h:ae4 k l=some (x,r):=h;unfold ae4 at h;split at h
  .split at h
   .rename_i k' n r' _ hk;obtain⟨y,m',rfl,h1,h2⟩:=hl.cons_inv;have e1:n=x:=cr Prod.fst (bL h);have e2:r'=r:=cr Prod.snd (bL h);subst e1;subst e2;subst hk;cases h1;exact⟨[_],m',rfl,rfl,h2⟩
   cases h
  cases h
 |.bool,l,r,x,m,h,hl=>by
  have h:Va l=some (x,r):=h;unfold Va at h;split at h
  .cases h;obtain⟨y,m',rfl,h1,h2⟩:=hl.cons_inv;cases h1;exact⟨[_],m',rfl,rfl,h2⟩
  cases h
 |.str,l,r,x,m,h,hl=>by
  have h:ae5 l=some (x,r):=h;unfold ae5 at h;split at h
  .cases h;obtain⟨y,m',rfl,h1,h2⟩:=hl.cons_inv;cases h1;exact⟨[_],m',rfl,rfl,h2⟩
  cases h
 |.qg,l,r,x,m,h,hl=>by
  have h:ae6 l=some (x,r):=h;unfold ae6 at h;split at h
  .cases h;obtain⟨y,m',rfl,h1,h2⟩:=hl.cons_inv;cases h1;exact⟨[_],m',rfl,rfl,h2⟩
  cases h
 |.unit,l,r,x,m,h,hl=>by
  have h:some ((),l)=some (x,r):=h;cases h;exact⟨[],m,rfl,rfl,hl⟩
 |.sl e,l,r,x,m,h,hl=>by
  have h:hSl e l=some (x,r):=h;unfold hSl at h;split at h
  .split at h
   .rename_i l' hc;cases h;obtain⟨he,hc'⟩:=bT hc;subst he;obtain⟨y,m',rfl,h1,h2⟩:=hl.cons_inv;cases hc';cases h1;rename_i hs;exact⟨[_],m',rfl,⟨_,rfl,hs⟩,h2⟩
   cases h
  .cases h;obtain⟨y,m',rfl,h1,h2⟩:=hl.cons_inv;cases h1;exact⟨[_],m',rfl,⟨_,rfl,.inl ⟨rfl,.inl rfl⟩⟩,h2⟩
  cases h
 |.pair a b,l,r,x,m,h,hl=>by
  unfold y5 at h;split at h
  .rename_i x1 r1 h1;split at h
   .rename_i y1 r2 h2;cases h;obtain⟨c1,m1,rfl,k1,k2⟩:=qN a h1 hl;obtain⟨c2,m2,rfl,k3,k4⟩:=qN b h2 k2;exact⟨c1++c2,m2,by simp,⟨c1,c2,rfl,k1,k3⟩,k4⟩
   cases h
  cases h
theorem vn {S:Wo}(e:Ty):∀(n:Nat) {l:List AV} {xs:List e.den} {m:List Value},vl e n l=some xs->LV S l m->mU (CR S.F e) xs m/\xs.length=n
 |0,[],xs,m,h,hl=>by simp[vl]at h;subst h;exact⟨hl.jx,rfl⟩
 |0,_::_,xs,m,h,hl=>by simp[vl]at h
 |n+1,l,xs,m,h,hl=>by
  unfold vl at h;split at h
  .rename_i x r h1;split at h
   .rename_i l' h2;cases h;obtain⟨c,m',rfl,k1,k2⟩:=qN e h1 hl;obtain⟨k3,k4⟩:=vn e n h2 k2;exact⟨⟨c,m',rfl,k1,k3⟩,by simp[k4]⟩
   cases h
  cases h
theorem VR.oO {S:Wo}{v:AV}{x:Value}(h:VR S v x)(hp:sF v=true):Ev.pI x=false:=by
 cases h with
 |dH e l v hs=>rcases hs with⟨_,rfl|rfl⟩|⟨i,pre,mid,post,cap,rfl,_⟩<;>rfl
 |agg=>cases hp
 |fH=>cases hp
 |j5=>cases hp
 |fl=>cases hp
 |cx=>cases hp
 |Ad v hf=>cases x<;>first|rfl|cases hf
 |_=>rfl
theorem LV.oO {S:Wo}:∀{l:List AV} {m:List Value},LV S l m->l.all sF=true->m.any Ev.pI=false
 |[],m,h,_=>by rw[h.jx];rfl
 |v::l,m,h,hp=>by
  obtain⟨x,m',rfl,h1,h2⟩:=h.cons_inv;simp only[bY,ak]at hp;simp only[List.any_cons,h1.oO hp.1,h2.oO hp.2,Bool.or_self]
theorem CR.oO {F:Nat->Option (List Value)}:∀(e:Ty) (x:e.den) (cs:List Value),CR F e x cs->cs.any Ev.pI=false
 |.int _,_,_,h=>by rw[h];rfl
 |.bool,_,_,h=>by rw[h];rfl
 |.str,_,_,h=>by rw[h];rfl
 |.qg,_,_,h=>by rw[h];rfl
 |.unit,_,_,h=>by rw[h];rfl
 |.sl _,_,_,⟨v,h,hs⟩=>by
  rw[h];rcases hs with⟨_,rfl|rfl⟩|⟨i,pre,mid,post,cap,rfl,_⟩<;>rfl
 |.pair a b,_,_,⟨c1,c2,e,h1,h2⟩=>by rw[e,List.any_append,CR.oO a _ _ h1,CR.oO b _ _ h2];rfl
theorem mU.oO {F:Nat->Option (List Value)}{e:Ty}:∀{l:List e.den} {cs:List Value},mU (CR F e) l cs->cs.any Ev.pI=false
 |[],_,h=>by rw[h];rfl
 |x::l,_,⟨c1,c2,e',h1,h2⟩=>by rw[e',List.any_append,CR.oO e _ _ h1,h2.oO];rfl
end Go.Tv
namespace Go.Tv
open Go.Ev (Tr ah iL Mem jJ alive ax dF)
def Row.live:Row->Option Row
 |.dead=>none
 |r=>some r
theorem aG.get_eq (H:aG)(i:Nat):H.get i=if i<H.next then (H.t.get i).bind Row.live else none:=by
 unfold aG.get;split
 .rename_i h;rw[h];simp[Row.live]
 .rename_i r h1 h2;rw[ax,Ev.nj];simp only[aV];split
  .rw[h2];cases r<;>first|rfl|exact absurd rfl h1
  rfl
 rename_i h;rw[h];simp
theorem aG.I7 {H:aG}{i:Nat}:H.get i≠some .dead:=by
 rw[aG.get_eq];split
 .cases H.t.get i with
  |none=>intro h;cases h
  |some q=>cases q<;>intro h<;>cases h
 intro h;cases h
theorem aG.eL {H:aG}{i:Nat}{r:Row}(h:H.get i=some r):i<H.next:=by
 rw[aG.get_eq]at h;split at h
 .assumption
 cases h
theorem aG.gB (H:aG)(i:Nat)(r:Row):(H.put i r).next=H.next/\(H.put i r).lk=H.lk/\(H.put i r).par=H.par/\∀j,(H.put i r).get j=if j=i then (if i<H.next then r.live else none) else H.get j:=by
 obtain⟨t',ht⟩:=Tr.jc r H.t i;have e:H.put i r=⟨H.next,H.lk,H.par,t'⟩:=by unfold aG.put;rw[ht]
 rw[e];refine⟨rfl,rfl,rfl,λj=>?_⟩;rw[aG.get_eq,aG.get_eq];simp only[Tr.xT ht];by_cases hj:j=i
 .subst hj;rw[ag rfl,ag rfl];rfl
 rw[aa hj,aa hj]
theorem aG.dN (H:aG)(r:Row):(H.push r).next=H.next+1/\(H.push r).lk=H.lk/\(H.push r).par=H.par/\∀j,(H.push r).get j=if j=H.next then r.live else H.get j:=by
 obtain⟨t',ht⟩:=Tr.jc r H.t H.next
 have e:H.push r=⟨H.next+1,H.lk,H.par,t'⟩:=by unfold aG.push;rw[ht]
 rw[e];refine⟨rfl,rfl,rfl,λj=>?_⟩;rw[aG.get_eq,aG.get_eq];simp only[Tr.xT ht];by_cases hj:j=H.next
 .subst hj;rw[ag (by omega),ag rfl,ag rfl];cases r<;>rfl
 rw[aa hj,aa hj];by_cases h:j<H.next
 .rw[ag h,ag (by omega)]
 rw[aa h,aa (by omega)]
theorem sH {H:Mem}{i:Nat}{b:jJ}(h:H.get i=some b)(hl:b.live=true):alive H i=some b:=by
 unfold alive;rw[h];simp[hl]
theorem o5 {H H':Mem}{i:Nat}(h:H'.get i=H.get i):alive H' i=alive H i:=by
 unfold alive;rw[h]
theorem lq {H:Mem}{i:Nat}{b:jJ}(h:alive H i=some b):i<H.size:=Mem.eL (dF h).1
def Row.A8:Row->Bool
 |.list _ _ _ _ _ ro=>ro
 |_=>false
def jm:List (List UInt8×Int)->List Value
 |[]=>[]
 |q::l=>.string ⟨q.1.toArray⟩ :: .int .i64 q.2::jm l
def MC (S:Wo):List (AV×AV)->List Value->Prop
 |[],cs=>cs=[]
 |q::l,cs=>∃y x r,cs=y::x::r/\VR S q.1 y/\VR S q.2 x/\MC S l r
theorem MC.mono {S T:Wo}(hle:S.le T):∀{l:List (AV×AV)} {cs:List Value},MC S l cs->MC T l cs
 |[],cs,h=>h
 |q::l,cs,⟨y,x,r,h1,h0,h2,h3⟩=>⟨y,x,r,h1,h0.mono hle,h2.mono hle,MC.mono hle h3⟩
theorem MC.snoc {S:Wo}{s:AV}{v:AV}{y x:Value}(hs:VR S s y)(hv:VR S v x):∀{l:List (AV×AV)} {cs:List Value},MC S l cs->MC S (l++[(s,v)]) (cs++[y,x])
 |[],cs,h=>by
  have h:cs=[]:=h;subst h;exact⟨y,x,[],rfl,hs,hv,rfl⟩
 |q::l,cs,⟨y0,x0,r,h1,h0,h2,h3⟩=>by
  subst h1;exact⟨y0,x0,_,rfl,h0,h2,MC.snoc hs hv h3⟩
def o6 (S:Wo)(HE:Mem)(id:Nat):Row->Prop
 |.dead=>True
 |.cells t cs=>∃i c s b,S.ρ id=some (i,c,s)/\alive HE i=some b/\LV S cs b.cells/\b.elem=t/\b.fix=true
 |.list t e l gC ex ro=>S.Γ id gC=some ⟨e,l⟩/\((∀v,gC<v->S.Γ id v=none)/\∃g,S.Γ id 0=some g/\g.2.length=l.length) /\
  (
   (l=[]/\S.ρ id=none/\ex=false) \/
   ∃i cap b mid post,S.ρ id=some (i,cap,e.size)/\alive HE i=some b/\b.elem=t/\b.cells=mid++post/\mU (CR S.F e) l mid/\b.cells.length=cap*e.size/\l.length<=cap/\cap<=2000000 /\
    (ex=true->b.fix=true/\post=[]/\l.length=cap)/\(ro=true->S.F i=some b.cells)/\∃l2,mU (CR S.F e) l2 post)
 |.mp t ks=>∃i c s b,S.ρ id=some (i,c,s)/\HE.get i=some b/\Ev.iS b=true/\b.cells=jm ks/\b.elem=t
 |.mf t ks=>∃i c s b,S.ρ id=some (i,c,s)/\HE.get i=some b/\Ev.iS b=true/\MC S ks b.cells/\b.elem=t
structure Rel (S:Wo)(H:aG)(HE:Mem):Prop where
 fz:∀i cs,S.F i=some cs->∃b,alive HE i=some b/\b.cells=cs
 dom:∀id x,S.ρ id=some x->id<H.next
 C3:∀id v,H.next<=id->S.Γ id v=none
 row:∀id r,H.get id=some r->o6 S HE id r
 inj:∀id id' r r' x x',H.get id=some r->H.get id'=some r'->S.ρ id=some x->S.ρ id'=some x'->x.1=x'.1->id=id'
 sep:∀id r x,H.get id=some r->r.A8=false->S.ρ id=some x->S.F x.1=none
 lk:∀id r x,H.get id=some r->H.lk<=id->S.ρ id=some x->HE.lk<=x.1
 zF:H.lk<=H.next
 Lq:H.par<=H.next
 GL:HE.lk<=HE.size
theorem Rel.old {S:Wo}{H:aG}{E:Mem}(h:Rel S H E){id:Nat}{r:Row}{y:Nat×Nat×Nat}(hg:H.get id=some r)(hy:S.ρ id=some y):∃b,E.get y.1=some b:=by
 have hra:=h.row id r hg;cases r with
 |dead=>exact absurd hg aG.I7
 |cells t cs=>obtain⟨i,c,s,b,h1,h2,_⟩:=hra;rw[hy]at h1;cases h1;exact⟨b,(dF h2).1⟩
 |mp t ks=>obtain⟨i,c,s,b,h1,h2,_⟩:=hra;rw[hy]at h1;cases h1;exact⟨b,h2⟩
 |mf t ks=>obtain⟨i,c,s,b,h1,h2,_⟩:=hra;rw[hy]at h1;cases h1;exact⟨b,h2⟩
 |list t e l gC ex ro =>
  obtain⟨_,_,h3⟩:=hra;rcases h3 with⟨_,h4,_⟩|⟨i,cap,b,mid,post,k1,k2,_⟩
  .rw[hy]at h4;cases h4
  rw[hy]at k1;cases k1;exact⟨b,(dF k2).1⟩
def Own (S:Wo)(H:aG)(i:Nat):Prop:=∃id r x,H.get id=some r/\r.A8=false/\S.ρ id=some x/\x.1=i
structure St (S:Wo)(H:aG)(HE:Mem)(S':Wo)(H':aG)(HE':Mem):Prop where
 sz:HE.size<=HE'.size
 lk:HE'.lk=HE.lk
 Sm:H'.lk=H.lk
 y9:H'.par=H.par
 F:∀i x,S.F i=some x->S'.F i=some x
 own:∀i,Own S' H' i->i<HE.size->Own S H i
 Kl:∀i,S'.F i≠none->S.F i≠none\/Own S H i\/HE.size<=i
 keep:∀i,i<HE.size->¬Own S H i->HE'.get i=HE.get i
 par:∀id,id<H.par->S'.ρ id=S.ρ id
 nx:H.next<=H'.next
 live:∀id,id<H.next->H'.get id≠none->H.get id≠none
 rn:∀id,id<H.next->S.ρ id=none->S'.ρ id=none
theorem St.refl (S:Wo)(H:aG)(HE:Mem):St S H HE S H HE :=
 ⟨aC _,rfl,rfl,rfl,λ_ _ h=>h,λ_ h _=>h,λ_ h=>.inl h,λ_ _ _=>rfl,λ_ _=>rfl,aC _,λ_ _ h=>h,λ_ _ h=>h⟩
theorem St.trans {S S1 S2:Wo}{H H1 H2:aG}{E E1 E2:Mem}(h:St S H E S1 H1 E1)(k:St S1 H1 E1 S2 H2 E2):St S H E S2 H2 E2:=by
 refine⟨br h.sz k.sz,k.lk.trans h.lk,k.Sm.trans h.Sm,k.y9.trans h.y9,λi x hx=>k.F i x (h.F i x hx),λi ho hi=>h.own i (k.own i ho (cw hi h.sz)) hi,λi hf=>?_,λi hi ho=>?_,λid hid=>(k.par id (by rw[h.y9];exact hid)).trans (h.par id hid),br h.nx k.nx,λid hid hl=>h.live id hid (k.live id (cw hid h.nx) hl),λid hid hl=>k.rn id (cw hid h.nx) (h.rn id hid hl)⟩
 .rcases k.Kl i hf with h1|h1|h1
  .exact h.Kl i h1
  .by_cases hi:i<E.size
   .exact .inr (.inl (h.own i h1 hi))
   exact .inr (.inr (by omega))
  exact .inr (.inr (br h.sz h1))
 exact(k.keep i (cw hi h.sz) λh1=>ho (h.own i h1 hi)).trans (h.keep i hi ho)
theorem Mem.lY (H:Mem)(b:jJ):∃H',H.push b=some H':=by
 obtain⟨t',ht⟩:=Tr.jc b H.t H.size;exact⟨_,by unfold Mem.push;rw[ht]⟩
theorem Mem.jc {H:Mem}{i:Nat}{b:jJ}(hi:i<H.size)(hl:H.lk<=i):∃H',H.set i b=some H':=by
 obtain⟨t',ht⟩:=Tr.jc b H.t i;refine⟨⟨H.size,H.lk,t'⟩,?_⟩;unfold Mem.set;rw[ax,Ev.nj,ag (by simpa using hi),ax,Ev.zL,ag (by simpa using hl),ht]
theorem o6.keep {S S':Wo}{E E':Mem}{id:Nat}{r:Row}(hle:S.le S')(hρ:S.ρ id=none->S'.ρ id=none)(hΓ:∀v,S.Γ id v=none->S'.Γ id v=none)(hk:∀x,S.ρ id=some x->E'.get x.1=E.get x.1)(h:o6 S E id r):o6 S' E' id r:=by
 cases r with
 |dead=>trivial
 |cells t cs =>
  obtain⟨i,c,s,b,h1,h2,h3,h4⟩:=h;exact⟨i,c,s,b,hle.ρ _ _ h1,by rw[o5 (hk _ h1)];exact h2,h3.mono hle,h4⟩
 |mp t ks =>
  obtain⟨i,c,s,b,h1,h2,h3⟩:=h;exact⟨i,c,s,b,hle.ρ _ _ h1,by rw[hk _ h1];exact h2,h3⟩
 |mf t ks =>
  obtain⟨i,c,s,b,h1,h2,h3,h4,h5⟩:=h;exact⟨i,c,s,b,hle.ρ _ _ h1,by rw[hk _ h1];exact h2,h3,h4.mono hle,h5⟩
 |list t e l gC ex ro =>
  obtain⟨h1,h2,h3⟩:=h;obtain⟨h2,g,hg,hn⟩:=h2;refine⟨hle.Γ _ _ _ h1,⟨λv hv=>hΓ v (h2 v hv),g,hle.Γ _ _ _ hg,hn⟩,?_⟩;rcases h3 with⟨h3,h4,h5⟩|⟨i,cap,b,mid,post,k1,k2,k3,k4,k5,k6,k7,k8,k9,k10⟩
  .exact .inl ⟨h3,hρ h4,h5⟩
  exact .inr ⟨i,cap,b,mid,post,hle.ρ _ _ k1,by rw[o5 (hk _ k1)];exact k2,k3,k4,k5.mono λx c=>CR.mono hle.F e x c,k6,k7,k8,k9,λhr=>hle.F _ _ (k10.1 hr),k10.2.imp λl2 h=>h.mono λx c=>CR.mono hle.F e x c⟩
def Wo.new (S:Wo)(id:Nat)(x:Option (Nat×Nat×Nat))(g:Option (Sigma λe:Ty=>List e.den)):Wo :=
 ⟨S.F,λj=>if j=id then x else S.ρ j,λj v=>if j=id/\v=0 then g else S.Γ j v⟩
theorem Wo.I8 {S:Wo}{H:aG}{HE:Mem}(h:Rel S H HE)(x:Option (Nat×Nat×Nat))(g:Option (Sigma λe:Ty=>List e.den)):S.le (S.new H.next x g):=by
 refine⟨λ_ _ h=>h,λi y hy=>?_,λi v y hy=>?_⟩
 .have:=h.dom i y hy;show (if i=H.next then x else S.ρ i)=_;rw[aa (by omega)];exact hy
 show (if i=H.next/\v=0 then g else S.Γ i v)=_;by_cases hi:i=H.next
 .rw[h.C3 i v (by omega)]at hy;cases hy
 rw[aa (by omega)];exact hy
theorem Rel.add {S:Wo}{H:aG}{E E':Mem}(h:Rel S H E){r:Row}{x:Option (Nat×Nat×Nat)}{g:Option (Sigma λe:Ty=>List e.den)}
 (hs:E.size<=E'.size) (hlk:E'.lk=E.lk) (hk:∀i,i<E.size->E'.get i=E.get i) (hr:∀r',r.live=some r'->o6 (S.new H.next x g) E' H.next r')
 (hx:∀y,x=some y->E.size<=y.1) (hro:r.A8=false) :
 S.le (S.new H.next x g)/\Rel (S.new H.next x g) (H.push r) E'/\St S H E (S.new H.next x g) (H.push r) E':=by
 have hle:=Wo.I8 h x g;obtain⟨p1,p2,p3,p4⟩:=aG.dN H r;have ρne:∀id,id≠H.next->(S.new H.next x g).ρ id=S.ρ id:=λid hid=>aa hid
 have ρeq:(S.new H.next x g).ρ H.next=x:=ag rfl
 have Γne:∀id v,id≠H.next->(S.new H.next x g).Γ id v=S.Γ id v:=λid v hid=>aa (by omega)
 have oP:∀id r',(H.push r).get id=some r'->(id=H.next/\r.live=some r')\/(id≠H.next/\H.get id=some r'):=λid r' hid=>by
  rw[p4]at hid;by_cases e:id=H.next
  .rw[ag e]at hid;exact .inl ⟨e,hid⟩
  rw[aa e]at hid;exact .inr ⟨e,hid⟩
 have ro':∀r',r.live=some r'->r'.A8=false:=λr' h=>by
  cases r<;>simp[Row.live]at h<;>subst h<;>first|rfl|exact hro
 have old:∀id r' y,H.get id=some r'->S.ρ id=some y->y.1<E.size:=λid r' y hg hy=>(let ⟨_,hb⟩:=h.old hg hy;Mem.eL hb)
 refine⟨hle,⟨λi cs hi=>?_,λid y hy=>?_,λid v hv=>?_,λid r' hg=>?_,λid id' r1 r2 y y' hg hg' hy hy' he=>?_,λid r' y hg hb hy=>?_,λid r' y hg hl hy=>?_,by rw[p1,p2];have:=h.zF;omega,by rw[p1,p3];have:=h.Lq;omega,by rw[hlk];have:=h.GL;omega⟩,
  ⟨hs,hlk,p2,p3,λ_ _ h=>h,λi ho hi=>?_,λi hf=>.inl hf,λi hi _=>hk i hi,λid hid=>?_,by omega,λid hid hl=>(by rw[p4,aa (by omega)]at hl;exact hl),λid hid hl=>by rw[ρne id (by omega)];exact hl⟩⟩
 .obtain ⟨b,h1,h2⟩:=h.fz i cs hi;exact⟨b,by rw[o5 (hk i (lq h1))];exact h1,h2⟩
 .rw[p1];by_cases e:id=H.next
  .omega
  rw[ρne id e]at hy;have:=h.dom id y hy;omega
 .rw[p1]at hv;rw[Γne id v (by omega)];exact h.C3 id v (by omega)
 .rcases oP id r' hg with⟨rfl,hr'⟩|⟨e,hg'⟩
  .exact hr r' hr'
  refine(h.row id r' hg').keep hle (λhn=>by rw[ρne id e];exact hn) (λv hv=>by rw[Γne id v e];exact hv) λy hy=>hk _ (old id r' y hg' hy)
 .rcases oP id r1 hg with⟨rfl,h1⟩|⟨e1,h1⟩<;>rcases oP id' r2 hg' with⟨rfl,h2⟩|⟨e2,h2⟩
  .rfl
  .rw[ρeq]at hy;rw[ρne id' e2]at hy';have a1:=hx y hy;have a2:=old id' r2 y' h2 hy';omega
  .rw[ρeq]at hy';rw[ρne id e1]at hy;have a1:=hx y' hy';have a2:=old id r1 y h1 hy;omega
  rw[ρne id e1]at hy;rw[ρne id' e2]at hy';exact h.inj id id' r1 r2 y y' h1 h2 hy hy' he
 .rcases oP id r' hg with⟨rfl,h1⟩|⟨e1,h1⟩
  .rw[ρeq]at hy;have a1:=hx y hy;show S.F y.1=none;cases hF:S.F y.1 with
   |none=>rfl
   |some cs=>obtain⟨b,h3,_⟩:=h.fz _ _ hF;have:=lq h3;omega
  rw[ρne id e1]at hy;exact h.sep id r' y h1 hb hy
 .rw[p2]at hl;rw[hlk];rcases oP id r' hg with⟨rfl,h1⟩|⟨e1,h1⟩
  .rw[ρeq]at hy;have:=hx y hy;have:=h.GL;omega
  rw[ρne id e1]at hy;exact h.lk id r' y h1 hl hy
 .obtain ⟨id,r',y,hg,hb,hy,rfl⟩:=ho;rcases oP id r' hg with⟨rfl,h1⟩|⟨e1,h1⟩
  .rw[ρeq]at hy;have:=hx y hy;omega
  rw[ρne id e1]at hy;exact⟨id,r',y,h1,hb,hy,rfl⟩
 exact ρne id (by have:=h.Lq;omega)
theorem Rel.mod {S S':Wo}{H:aG}{E E':Mem}{id:Nat}{r r':Row}(h:Rel S H E)(hg:H.get id=some r)(hro:r.A8=false)
 (hle:S.le S') (hρ:S'.ρ=S.ρ) (hΓ:∀j v,j≠id->S'.Γ j v=S.Γ j v)
 (hs:E'.size=E.size) (hlk:E'.lk=E.lk) (hE:∀j,(∀y,S.ρ id=some y->j≠y.1)->E'.get j=E.get j)
 (hF:∀j cs,S'.F j=some cs->S.F j=some cs\/((r' = .dead\/r'.A8=true)/\(∃y,S.ρ id=some y/\y.1=j)/\∃b,alive E' j=some b/\b.cells=cs))
 (hr:∀q,r'.live=some q->o6 S' E' id q) :
 Rel S' (H.put id r') E'/\St S H E S' (H.put id r') E':=by
 obtain⟨p1,p2,p3,p4⟩:=aG.gB H id r';have hid:=aG.eL hg;have oP:∀j q,(H.put id r').get j=some q->(j=id/\r'.live=some q)\/(j≠id/\H.get j=some q):=λj q hj=>by
  rw[p4]at hj;by_cases e:j=id
  .rw[ag e,ag hid]at hj;exact .inl ⟨e,hj⟩
  rw[aa e]at hj;exact .inr ⟨e,hj⟩
 have far:∀j q y,j≠id->H.get j=some q->S.ρ j=some y->∀z,S.ρ id=some z->y.1≠z.1:=λj q y e hj hy z hz he=>e (h.inj j id q r y z hj hg hy hz he)
 have afg:∀j cs,S.F j=some cs->∀z,S.ρ id=some z->j≠z.1:=λj cs hj z hz he=>by
  rw[he,h.sep id r z hg hro hz]at hj;cases hj
 have akf:∀q,r'.live=some q->r'=q:=λq hq=>by cases r'<;>simp[Row.live]at hq<;>exact hq
 refine⟨⟨λi cs hi=>?_,λj y hy=>?_,λj v hv=>?_,λj q hj=>?_,λj j' q q' y y' hj hj' hy hy' he=>?_,λj q y hj hb hy=>?_,λj q y hj hl hy=>?_,by rw[p1,p2];exact h.zF,by rw[p1,p3];exact h.Lq,by rw[hlk,hs];exact h.GL⟩,
  ⟨by omega,hlk,p2,p3,hle.F,λi ho hi=>?_,λi hf=>?_,λi hi ho=>?_,λj _=>by rw[hρ],by omega,λj hj hl=>(by
   by_cases e:j=id
   .rw[e,hg];simp
   rw[p4,aa e]at hl;exact hl),λj _ hl=>by rw[hρ];exact hl⟩⟩
 .rcases hF i cs hi with h1|⟨_,_,h1⟩
  .obtain ⟨b,h2,h3⟩:=h.fz i cs h1;exact⟨b,by rw[o5 (hE i (afg i cs h1))];exact h2,h3⟩
  exact h1
 .rw[hρ]at hy;rw[p1];exact h.dom j y hy
 .rw[p1]at hv;rw[hΓ j v (by omega)];exact h.C3 j v hv
 .rcases oP j q hj with⟨rfl,h1⟩|⟨e,h1⟩
  .exact hr q h1
  exact(h.row j q h1).keep hle (λhn=>by rw[hρ];exact hn) (λv hv=>by rw[hΓ j v e];exact hv) λy hy=>hE _ λz hz=>far j q y e h1 hy z hz
 .have w1:∀j q,(H.put id r').get j=some q->∃q',H.get j=some q':=λj q hj=>by
   rcases oP j q hj with⟨rfl,_⟩|⟨_,h1⟩
   .exact ⟨r,hg⟩
   exact⟨q,h1⟩
  obtain⟨a,ha⟩:=w1 j q hj;obtain⟨a',ha'⟩:=w1 j' q' hj';rw[hρ]at hy hy';exact h.inj j j' a a' y y' ha ha' hy hy' he
 .rw[hρ]at hy;cases hq:S'.F y.1 with
  |none=>rfl
  |some cs =>
   exfalso;rcases oP j q hj with⟨rfl,h1⟩|⟨e,h1⟩
   .rcases hF _ _ hq with h2|⟨h2,_⟩
    .rw[h.sep j r y hg hro hy]at h2;cases h2
    rcases h2 with h2|h2
    .rw[h2]at h1;cases h1
    rw[akf q h1,hb]at h2;cases h2
   rcases hF _ _ hq with h2|⟨_,⟨z,hz,he⟩,_⟩
   .rw[h.sep j q y h1 hb hy]at h2;cases h2
   exact far j q y e h1 hy z hz he.symm
 .rw[p2]at hl;rw[hρ]at hy;rw[hlk];rcases oP j q hj with⟨rfl,h1⟩|⟨e,h1⟩
  .exact h.lk j r y hg hl hy
  exact h.lk j q y h1 hl hy
 .obtain ⟨j,q,y,hj,hb,hy,rfl⟩:=ho;rw[hρ]at hy;rcases oP j q hj with⟨rfl,h1⟩|⟨e,h1⟩
  .exact ⟨j,r,y,hg,hro,hy,rfl⟩
  exact⟨j,q,y,h1,hb,hy,rfl⟩
 .cases hq:S'.F i with
  |none=>exact absurd hq hf
  |some cs =>
   rcases hF _ _ hq with h2|⟨_,⟨z,hz,he⟩,_⟩
   .exact .inl (by rw[h2];simp)
   exact .inr (.inl ⟨id,r,z,hg,hro,hz,he⟩)
 exact hE i λy hy he=>ho ⟨id,r,y,hg,hro,hy,he.symm⟩
theorem Rel.same {S:Wo}{H H':aG}{E:Mem}(h:Rel S H E)(h1:H'.next=H.next)(h2:H'.lk=H.lk)(h3:H'.par=H.par)(h4:∀j,H'.get j=H.get j):Rel S H' E/\St S H E S H' E:=by
 refine⟨⟨h.fz,λj y hy=>by rw[h1];exact h.dom j y hy,λj v hv=>h.C3 j v (by omega),λj q hj=>h.row j q (by rw[<-h4];exact hj),λj j' q q' y y' hj hj'=>h.inj j j' q q' y y' (by rw[<-h4];exact hj) (by rw[<-h4];exact hj'),
  λj q y hj=>h.sep j q y (by rw[<-h4];exact hj),λj q y hj hl=>h.lk j q y (by rw[<-h4];exact hj) (by omega),by rw[h1,h2];exact h.zF,by rw[h1,h3];exact h.Lq,h.GL⟩,
  ⟨aC _,rfl,h2,h3,λ_ _ h=>h,λi ho _=>?_,λi hf=>.inl hf,λ_ _ _=>rfl,λ_ _=>rfl,by omega,λj _ hl=>(by rw[h4]at hl;exact hl),λ_ _ h=>h⟩⟩
 obtain⟨j,q,y,hj,r⟩:=ho;exact⟨j,q,y,by rw[<-h4];exact hj,r⟩
theorem Rel.move {S:Wo}{H:aG}{E E':Mem}{id:Nat}{r0 r:Row}{x:Option (Nat×Nat×Nat)}{g:Option (Sigma λe:Ty=>List e.den)}(h:Rel S H E)(hg:H.get id=some r0)(hro:r0.A8=false)
 (hs:E.size<=E'.size) (hlk:E'.lk=E.lk) (hE:∀j,j<E.size->(∀y,S.ρ id=some y->j≠y.1)->E'.get j=E.get j)
 (hx:∀y,x=some y->E.size<=y.1\/∃z,S.ρ id=some z/\z.1=y.1/\E.lk<=y.1)
 (hr:∀r',r.live=some r'->o6 (S.new H.next x g) E' H.next r') (hrr:r.A8=false) :
 S.le (S.new H.next x g)/\Rel (S.new H.next x g) ((H.put id .dead).push r) E'/\St S H E (S.new H.next x g) ((H.put id .dead).push r) E':=by
 have hle:=Wo.I8 h x g;obtain⟨u1,u2,u3,u4⟩:=aG.gB H id .dead;obtain⟨p1,p2,p3,p4⟩:=aG.dN (H.put id .dead) r;rw[u1]at p1;rw[u2]at p2;rw[u3]at p3;have hid:=aG.eL hg;have ρne:∀j,j≠H.next->(S.new H.next x g).ρ j=S.ρ j:=λj hj=>aa hj
 have ρeq:(S.new H.next x g).ρ H.next=x:=ag rfl
 have Γne:∀j v,j≠H.next->(S.new H.next x g).Γ j v=S.Γ j v:=λj v hj=>aa (by omega)
 have oP:∀j q,((H.put id .dead).push r).get j=some q->(j=H.next/\r.live=some q)\/(j≠H.next/\j≠id/\H.get j=some q):=λj q hj=>by
  rw[p4,u1]at hj;by_cases e:j=H.next
  .rw[ag e]at hj;exact .inl ⟨e,hj⟩
  rw[aa e,u4]at hj;by_cases e2:j=id
  .rw[ag e2,ag hid]at hj;cases hj
  rw[aa e2]at hj;exact .inr ⟨e,e2,hj⟩
 have ro':∀q,r.live=some q->q.A8=false:=λq h=>by
  cases r<;>simp[Row.live]at h<;>subst h<;>first|rfl|exact hrr
 have old:∀j q y,H.get j=some q->S.ρ j=some y->y.1<E.size:=λj q y hg hy=>(let ⟨_,hb⟩:=h.old hg hy;Mem.eL hb)
 have far:∀j q y,j≠id->H.get j=some q->S.ρ j=some y->∀z,S.ρ id=some z->y.1≠z.1:=λj q y e hj hy z hz he=>e (h.inj j id q r0 y z hj hg hy hz he)
 have afg:∀j cs,S.F j=some cs->∀z,S.ρ id=some z->j≠z.1:=λj cs hj z hz he=>by
  rw[he,h.sep id r0 z hg hro hz]at hj;cases hj
 have Vj:∀y,x=some y->∀j q z,j≠id->H.get j=some q->S.ρ j=some z->z.1≠y.1:=λy hy j q z e hj hz he=>by
  rcases hx y hy with h1|⟨z',hz',he',_⟩
  .have:=old j q z hj hz;omega
  exact far j q z e hj hz z' hz' (by omega)
 refine⟨hle,⟨λi cs hi=>?_,λj y hy=>?_,λj v hv=>?_,λj q hj=>?_,λj j' q1 q2 y y' hj hj' hy hy' he=>?_,λj q y hj hb hy=>?_,λj q y hj hl hy=>?_,by rw[p1,p2];have:=h.zF;omega,by rw[p1,p3];have:=h.Lq;omega,by rw[hlk];have:=h.GL;omega⟩,
  ⟨hs,hlk,p2,p3,λ_ _ h=>h,λi ho hi=>?_,λi hf=>.inl hf,λi hi ho=>hE i hi λy hy he=>ho ⟨id,r0,y,hg,hro,hy,he.symm⟩,λj hj=>ρne j (by have:=h.Lq;omega),by omega,λj hj hl=>(by
   rw[p4,u1,aa (by omega),u4]at hl;by_cases e:j=id
   .rw[e,hg];simp
   rw[aa e]at hl;exact hl),λj hj hl=>by rw[ρne j (by omega)];exact hl⟩⟩
 .obtain ⟨b,h1,h2⟩:=h.fz i cs hi;exact⟨b,by rw[o5 (hE i (lq h1) (afg i cs hi))];exact h1,h2⟩
 .rw[p1];by_cases e:j=H.next
  .omega
  rw[ρne j e]at hy;have:=h.dom j y hy;omega
 .rw[p1]at hv;rw[Γne j v (by omega)];exact h.C3 j v (by omega)
 .rcases oP j q hj with⟨rfl,hr'⟩|⟨e,e2,hg'⟩
  .exact hr q hr'
  exact(h.row j q hg').keep hle (λhn=>by rw[ρne j e];exact hn) (λv hv=>by rw[Γne j v e];exact hv) λy hy=>hE _ (old j q y hg' hy) λz hz=>far j q y e2 hg' hy z hz
 .rcases oP j q1 hj with⟨rfl,h1⟩|⟨e1,d1,h1⟩<;>rcases oP j' q2 hj' with⟨rfl,h2⟩|⟨e2,d2,h2⟩
  .rfl
  .rw[ρeq]at hy;rw[ρne j' e2]at hy';exact absurd he.symm (Vj y hy j' q2 y' d2 h2 hy')
  .rw[ρeq]at hy';rw[ρne j e1]at hy;exact absurd he (Vj y' hy' j q1 y d1 h1 hy)
  rw[ρne j e1]at hy;rw[ρne j' e2]at hy';exact h.inj j j' q1 q2 y y' h1 h2 hy hy' he
 .rcases oP j q hj with⟨rfl,h1⟩|⟨e1,d1,h1⟩
  .rw[ρeq]at hy;show S.F y.1=none;rcases hx y hy with h3|⟨z,hz,he,_⟩
   .cases hF:S.F y.1 with
    |none=>rfl
    |some cs=>obtain⟨b,h3,_⟩:=h.fz _ _ hF;have:=lq h3;omega
   rw[<-he];exact h.sep id r0 z hg hro hz
  rw[ρne j e1]at hy;exact h.sep j q y h1 hb hy
 .rw[p2]at hl;rw[hlk];rcases oP j q hj with⟨rfl,h1⟩|⟨e1,d1,h1⟩
  .rw[ρeq]at hy;rcases hx y hy with h3|⟨z,hz,he,h4⟩
   .have:=h.GL;omega
   exact h4
  rw[ρne j e1]at hy;exact h.lk j q y h1 hl hy
 obtain⟨j,q,y,hj,hb,hy,rfl⟩:=ho;rcases oP j q hj with⟨rfl,h1⟩|⟨e1,d1,h1⟩
 .rw[ρeq]at hy;rcases hx y hy with h3|⟨z,hz,he,_⟩
  .omega
  exact⟨id,r0,z,hg,hro,hz,he⟩
 rw[ρne j e1]at hy;exact⟨j,q,y,h1,hb,hy,rfl⟩
end Go.Tv
namespace Go.Tv
open Go.Ev (Tr ah iL Mem jJ alive ax dF bF gR jt aZ cE orElse)
section
variable {P:Program}
theorem bw {α β:Type}(f:α->Sem β):∀(s:Sem α),bF P (s >>= f)=(bF P s).bind λa=>bF P (f a)
 |.pure a=>rfl
 |.load _ _ _=>rfl
 |.store _ _ _ _=>rfl
 |.new _ _=>rfl
 |.shape _ _=>rfl
 |.freeze _ _ _=>rfl
 |.frozen _ _=>rfl
 |.getObj _ _=>rfl
 |.setObj _ _ _=>rfl
 |.choose _ _=>rfl
 |.sys _ _=>rfl
 |.program k=>bw f (k P)
 |.mark _ k=>bw f k
 |.halt _=>rfl
theorem pO {α:Type}(a:α):bF P (pure a:Sem α)=some a:=rfl
theorem bU {t:TypeId}{d:TypeDesc}(h:P.underlying t=some d):bF P (underlying t)=some d:=by
 have:underlying t=Sem.program λp=>match p.underlying t with|some d=>Sem.pure d|none=>stuck "no such type" := rfl
 first
  |(rw[this];show bF P (match P.underlying t with|some d=>Sem.pure d|none=>stuck "no such type")=_;rw[h];rfl)
theorem Af {call:Ev.cH}{o:Oper}{ev:Operand->Value}{E:Mem}{op:BinOp}{t yt:TypeId}{p q:Operand}{v:Value}(hop:o.op = .binOp op t p q yt)
 (Qn:aZ (ev p)=true) (hfy:aZ (ev q)=true) (hv:aZ v=true)
 (hn:∀u,Ev.ue P op t (ev p) (ev q)=some u->u=v) (h:bF P (do eqGuard op t p q (ev p) (ev q);binOp op t (ev p) (ev q):Sem Value)=some v) :
 jt P call ev o E=some (v,E):=by
 unfold jt;rw[hop];show Ev.wk P ev o op t (ev p) (ev q) E=_;unfold Ev.wk;have hp:gR P ev o=some v:=by
  unfold gR;rw[hop];have hf:Ev.dg ev (.binOp op t p q yt)=true:=by
   simp[Ev.dg,Op.operands,Qn,hfy]
  simp only[hf,fF];have:bF P (execOp ev o)=some (.value v):=by
   unfold execOp;rw[hop];show bF P ((do eqGuard op t p q (ev p) (ev q);binOp op t (ev p) (ev q):Sem Value) >>= λx=>pure (Next.value x))=_;rw[bw,h];rfl
  rw[this];simp[hv]
 cases hfa:Ev.DL op (ev p) (ev q) with
 |some u =>
  have hr:=(Ev.KM (P:=P) hfa t p q default).1;have Zs:=Ev.oY (P:=P) _ h default;rw[hr]at Zs;cases Zs;rfl
 |none =>
  cases hna:Ev.ue P op t (ev p) (ev q) with
  |some u=>rw[hn u hna];rfl
  |none=>show cE E (gR P ev o)=_;rw[hp];rfl
def Z6 (op:BinOp)(k k':IntKind)(a b:Int):Option Value :=
 match op with
 |.shl=>if b<0 then none else some (.int k (k.wrap (a*2 ^ (min b.toNat k.bits))))
 |.shr=>if b<0 then none else some (.int k (a.fdiv (2 ^ (min b.toNat k.bits))))
 |op=>if k=k' then (match op with
  |.add=>some (.int k (k.wrap (a+b)))
  |.sub=>some (.int k (k.wrap (a-b)))
  |.mul=>some (.int k (k.wrap (a*b)))
  |.quo=>if b=0 then none else some (.int k (k.wrap (a.tdiv b)))
  |.rem=>if b=0 then none else some (.int k (a.tmod b))
  |.and=>some (.int k (k.wrap (BitVec.ofInt k.bits a &&& BitVec.ofInt k.bits b).toNat))
  |.or=>some (.int k (k.wrap (BitVec.ofInt k.bits a ||| BitVec.ofInt k.bits b).toNat))
  |.xor=>some (.int k (k.wrap (BitVec.ofInt k.bits a ^^^ BitVec.ofInt k.bits b).toNat))
  |.andNot=>some (.int k (k.wrap (BitVec.ofInt k.bits a &&& ~~~(BitVec.ofInt k.bits b)).toNat))
  |.eql=>some (.bool (decide (a=b)))
  |.neq=>some (.bool (!decide (a=b)))
  |.lss=>some (.bool (decide (a<b)))
  |.leq=>some (.bool (decide (a<=b)))
  |.gtr=>some (.bool (decide (b<a)))
  |.geq=>some (.bool (decide (b<=a)))
  |_=>none) else none
theorem Sn {β:Type}{op:BinOp}{k k':IntKind}{a b:Int}{c:AV->Option β}{r:β}(h:ae9 op k k' a b c=some r):∃v vE,c v=some r/\Z6 op k k' a b=some vE/\aZ vE=true/\∀S,VR S v vE:=by
 unfold ae9 at h;unfold Z6;have n1:∀a b:Int,(!decide (b<a))=decide (a<=b):=λa b=>by rw[bO];simp
 have n2:∀a b:Int,(a==b)=decide (a=b):=λa b=>rfl
 cases op<;>simp only[ax,Ev.cD,Ev.eF,n1,n2,aV]at h ⊢;all_goals first
  |(
   split at h
   .cases h
   rename_i hb;exact⟨_,_,h,by rw[aa hb],rfl,λS=>.int _ _⟩)
  |(
   split at h
   .rename_i hk;rw[ag hk];first
     |exact⟨_,_,h,rfl,rfl,λS=>.int _ _⟩
     |exact⟨_,_,h,rfl,rfl,λS=>.bool _⟩
     |(
      split at h
      .cases h
      rename_i hb;exact⟨_,_,h,by rw[aa hb],rfl,λS=>.int _ _⟩)
     |cases h
   cases h)
theorem Sq (op:BinOp)(t:TypeId)(p q:Operand)(k k':IntKind)(a b:Int):bF P (eqGuard op t p q (.int k a) (.int k' b))=some ():=by
 unfold eqGuard;cases op<;>rfl
theorem Vk {op:BinOp}{k k':IntKind}{a b:Int}{v:Value}(h:Z6 op k k' a b=some v)(t:TypeId)(p q:Operand) :
 bF P (do eqGuard op t p q (.int k a) (.int k' b);binOp op t (.int k a) (.int k' b):Sem Value)=some v:=by
 rw[bw,Sq];show bF P (binOp op t (.int k a) (.int k' b))=some v;unfold Z6 at h;cases op<;>simp only at h;all_goals first
  |(
   split at h
   .cases h
   rename_i hb;cases h;simp only[binOp,Op.shift];rw[aa hb];rfl)
  |(
   split at h
   .rename_i hk;subst hk;first
     |(cases h;simp only[binOp,Op.intArith,ne_eq,not_true,ee];rfl)
     |(
      split at h
      .cases h
      rename_i hb;cases h;simp only[binOp,Op.intDiv,ne_eq,not_true,ee];rw[aa hb];rfl)
     |(cases h;simp only[binOp,Op.intBits,ne_eq,not_true,ee];rfl)
     |(cases h;simp only[binOp,Op.intCmp,ne_eq,not_true,ee];first|rfl|(show some (Value.bool (!(a==b)))=_;rfl))
     |cases h
   cases h)
theorem toList_mk (s:List UInt8):(⟨s.toArray⟩:ByteArray).toList=s:=by rw[ByteArray.toList_eq]
def Z7 (op:BinOp)(a b:List UInt8):Option Value :=
 match op with
 |.add=>if a.length+b.length<=9223372036854775807 then some (.string ⟨(a++b).toArray⟩) else none
 |.eql=>some (.bool (decide (a=b)))
 |.neq=>some (.bool (!decide (a=b)))
 |.lss=>some (.bool (Op.bytesLess a b))
 |.leq=>some (.bool (Op.bytesLess a b||decide (a=b)))
 |.gtr=>some (.bool (!(Op.bytesLess a b||decide (a=b))))
 |.geq=>some (.bool (!Op.bytesLess a b))
 |_=>none
theorem Sr {β:Type}{op:BinOp}{a b:List UInt8}{c:AV->Option β}{r:β}(h:afa op a b c=some r):∃v vE,c v=some r/\Z7 op a b=some vE/\aZ vE=true/\∀S,VR S v vE:=by
 unfold afa at h;unfold Z7;cases op<;>simp only[ax,Ev.zL,aV]at h ⊢;all_goals first
  |(
   split at h
   .rename_i hk;rw[ag hk];exact⟨_,_,h,rfl,rfl,λS=>.str _⟩
   cases h)
  |exact⟨_,_,h,rfl,rfl,λS=>.bool _⟩
  |cases h
theorem Ss (op:BinOp)(t:TypeId)(p q:Operand)(a b:ByteArray):bF P (eqGuard op t p q (.string a) (.string b))=some ():=by
 unfold eqGuard;cases op<;>rfl
theorem akg (a b:List UInt8):(a==b)=decide (a=b):=by
 rw[bO];simp
theorem Vl {op:BinOp}{a b:List UInt8}{v:Value}(h:Z7 op a b=some v)(t:TypeId)(p q:Operand) :
 bF P (do eqGuard op t p q (.string ⟨a.toArray⟩) (.string ⟨b.toArray⟩);binOp op t (.string ⟨a.toArray⟩) (.string ⟨b.toArray⟩):Sem Value)=some v:=by
 rw[bw,Ss];show bF P (binOp op t (.string ⟨a.toArray⟩) (.string ⟨b.toArray⟩))=some v;have hb:binOp op t (.string ⟨a.toArray⟩) (.string ⟨b.toArray⟩)=Op.stringOp op ⟨a.toArray⟩ ⟨b.toArray⟩:=by cases op<;>rfl
 rw[hb];unfold Op.stringOp;simp only[toList_mk,akg];unfold Z7 at h;cases op<;>simp only at h ⊢;case add =>
  split at h
  .rename_i hk;cases h;have h1:¬(((ByteArray.size ⟨a.toArray⟩+ByteArray.size ⟨b.toArray⟩:Nat):Int)>IntKind.i64.max):=by
    have e1:ByteArray.size ⟨a.toArray⟩=a.length:=by simp[ByteArray.size]
    have e2:ByteArray.size ⟨b.toArray⟩=b.length:=by simp[ByteArray.size]
    have e3:IntKind.i64.max=9223372036854775807:=by decide
    rw[e1,e2,e3];omega
   rw[aa h1];show some (Value.string _)=some (Value.string _);congr 2
  cases h
 all_goals first|(cases h;rfl)|cases h
theorem OH (op:BinOp)(t:TypeId)(p q:Operand)(a b:Bool):bF P (eqGuard op t p q (.bool a) (.bool b))=some ():=by
 unfold eqGuard;cases op<;>rfl
theorem za {t:TypeId}(hu:P.underlying t=some .bool)(d:Nat)(a b:Bool):bF P (Op.equalIn (d+1) t (.bool a) (.bool b))=some (a==b):=by
 unfold Op.equalIn;rw[bw,bU hu];rfl
theorem Su {t:TypeId}{k0:IntKind}(hu:P.underlying t=some (.int k0))(d:Nat)(k:IntKind)(a b:Int):bF P (Op.equalIn (d+1) t (.int k a) (.int k b))=some (decide (a=b)):=by
 unfold Op.equalIn;rw[bw,bU hu];show bF P (if k=k then pure (a==b) else stuck "==: kinds differ")=_;rw[ag rfl];rfl
theorem Sv {t:TypeId}(hu:P.underlying t=some .string)(d:Nat)(a b:List UInt8):bF P (Op.equalIn (d+1) t (.string ⟨a.toArray⟩) (.string ⟨b.toArray⟩))=some (decide (a=b)):=by
 unfold Op.equalIn;rw[bw,bU hu];show some ((⟨a.toArray⟩:ByteArray)==⟨b.toArray⟩)=_;rw[beq_toListBytes,toList_mk,toList_mk,akg]
theorem oJ {α:Type}(k:Program->Sem α):bF P (program >>= k)=bF P (k P):=rfl
theorem I9 {d:Nat}{t:TypeId}{fs:Array Field}{xs ys:Array Value}(ht:P.underlying t=some (.struct fs))(hp:P.stoodInHeld t=false) :
 bF P (Op.equalIn (d+1) t (.agg xs) (.agg ys))=bF P (Op.eqFields d xs ys fs.toList):=by
 simp only[Op.equalIn];rw[bw,bU ht];simp only[aW];rw[oJ];simp only[hp,cu,ee];rw[<-Array.forIn_toList];generalize fs.toList=l;induction l with
 |nil=>simp only[List.forIn_nil,Op.eqFields];rfl
 |cons f l ih =>
  simp only[List.forIn_cons,Op.eqFields];split
  .simp only[bw]at ih ⊢;cases bF P (part f.type xs f.offset) with
   |none=>rfl
   |some a =>
    simp only[aW];cases bF P (part f.type ys f.offset) with
    |none=>rfl
    |some b =>
     simp only[aW];cases bF P (Op.equalIn d f.type a b) with
     |none=>rfl
     |some r =>
      simp only[aW];cases r
      .rfl
      simp only[Bool.not_true,cu,ee,pO,aW];exact ih
  simp only[bw,pO,aW]at ih ⊢;exact ih
end
end Go.Tv
namespace Go.Tv
open Go.Ev (Tr ah iL Mem jJ alive ax dF bF gR jt aZ cE orElse)
section
variable {P:Program}
theorem x5 {k:Nat}{ks:List Nat}{l m:List AV}{b:Bool}(h:tX (k::ks) l m=some b):∃x l' y m' a c,l=x::l'/\m=y::m'/\eqK k x y=some a/\tX ks l' m'=some c/\b=(a&&c):=by
 cases l with
 |nil=>cases m<;>simp[tX]at h
 |cons x l =>
  cases m with
  |nil=>simp[tX]at h
  |cons y m =>
   unfold tX at h;split at h
   .rename_i a ha;split at h
    .split at h
     .cases h;exact⟨x,[],y,[],b,true,rfl,rfl,ha,rfl,by simp⟩
     cases h
    split at h
    .rename_i c hc;cases h;exact⟨x,l,y,m,a,c,rfl,rfl,ha,hc,rfl⟩
    cases h
   cases h
theorem Cz:∀{ks ls:List Nat} {l m:List AV} {b:Bool},tX (ks++ls) l m=some b->∃b1 b2,tX ks (l.take ks.length) (m.take ks.length)=some b1/\tX ls (l.drop ks.length) (m.drop ks.length)=some b2/\b=(b1&&b2)
 |[],ls,l,m,b,h=>⟨true,b,by simp[tX],by simpa using h,by simp⟩
 |k::ks,ls,l,m,b,h=>by
  obtain⟨x,l',y,m',a,c,rfl,rfl,h1,h2,rfl⟩:=x5 (ks:=ks++ls) h;obtain⟨b1,b2,e1,e2,rfl⟩:=Cz h2;refine⟨a&&b1,b2,?_,by simpa using e2,by simp[Bool.and_assoc]⟩;simp only[aJ,List.take_succ_cons];unfold tX;rw[h1];cases ks with
  |nil =>
   have:b1=true:=by simpa[tX] using e1.symm
   subst this;simp
  |cons k' ks'=>simp only at e1 ⊢;rw[e1]
theorem wT:∀{ks:List Nat} {l m:List AV} {b:Bool},tX ks l m=some b->l.length=ks.length/\m.length=ks.length
 |[],l,m,b,h=>by cases l<;>cases m<;>simp[tX]at h ⊢
 |k::ks,l,m,b,h=>by
  obtain⟨x,l',y,m',a,c,rfl,rfl,_,h2,_⟩:=x5 h;obtain⟨e1,e2⟩:=wT h2;simp[e1,e2]
theorem Vm {S:Wo}{l:List AV}{L:List Value}(h:LV S l L)(h1:l.length=1):∃x y,l=[x]/\L=[y]/\VR S x y:=by
 match l,h1 with
 |[x],_ =>
  obtain⟨y,m,rfl,h2,h3⟩:=h.cons_inv;rw[h3.jx];exact⟨x,y,rfl,rfl,h2⟩
def isStr (P:Program)(t:TypeId):Prop:=∃fs,P.underlying t=some (.struct fs)
theorem Lr {f:TypeId}{fs:Array Field}{n:Nat}(hu:P.underlying f=some (.struct fs))(hn:Ev.cR P f=some n)(cs:Array Value)(off:Nat):bF P (part f cs off)=some (.agg (cs.extract off (off+n))):=by
 unfold part;have h1:bF P (isAgg f)=some true:=by
  unfold isAgg;rw[bw,bU hu];rfl
 have h2:bF P (sizeOf f)=some n:=by
  unfold Ev.cR at hn;cases hi:P.info? f with
  |none=>rw[hi]at hn;cases hn
  |some i =>
   rw[hi]at hn;simp at hn;subst hn;unfold sizeOf typeInfo;rw[bw,oJ];simp only[hi];rfl
 rw[bw,h1];simp only[aW,fF];rw[bw,h2];rfl
theorem Lt {f:TypeId}{d:TypeDesc}(hu:P.underlying f=some d)(h1:∀fs,d ≠ .struct fs)(h2:∀n e,d ≠ .array n e)(cs:Array Value)(off:Nat){v:Value}(hv:cs[off]? = some v):bF P (part f cs off)=some v:=by
 unfold part;have h3:bF P (isAgg f)=some false:=by
  unfold isAgg;rw[bw,bU hu];cases d<;>first|rfl|exact absurd rfl (h1 _)|exact absurd rfl (h2 _ _)
 rw[bw,h3];simp only[aW,cu,ee,hv];rfl
theorem QF (S:Wo):∀d,(∀t ks,vm P d t=some ks->∀D,d<=D->∀l m b L M,tX ks l m=some b->LV S l L->LV S m M ->
 (isStr P t/\bF P (Op.equalIn D t (.agg L.toArray) (.agg M.toArray))=some b) \/
 (∃u,P.underlying t=some u/\(∀fs,u ≠ .struct fs)/\(∀n e,u ≠ .array n e)/\∃x y,L=[x]/\M=[y]/\bF P (Op.equalIn D t x y)=some b)) /\
 (∀off fs ks,vm.Bt P d off fs=some ks->∀D,d<=D->∀l m b L M,tX ks (l.drop off) (m.drop off)=some b->LV S l L->LV S m M->bF P (Op.eqFields D L.toArray M.toArray fs)=some b)
 |0=>⟨λt ks h=>by simp[vm]at h,λoff fs ks h=>by simp[vm.Bt]at h⟩
 |d+1=>by
  obtain⟨ih1,ih2⟩:=QF S d;refine⟨λt ks h D hD l m b L M he hl hm=>?_,λoff fs ks h D hD l m b L M he hl hm=>?_⟩
  .obtain ⟨D',rfl⟩:∃D',D=D'+1:=⟨D-1,by omega⟩;unfold vm at h;have afh:∀k,ks=[k]->∃x y x' y' ,l=[x]/\m=[y]/\L=[x']/\M=[y']/\VR S x x'/\VR S y y'/\eqK k x y=some b:=λk hk=>by
    subst hk;obtain⟨e1,e2⟩:=wT he;obtain⟨x,x',rfl,rfl,h1⟩:=Vm hl (by simpa using e1);obtain⟨y,y',rfl,rfl,h2⟩:=Vm hm (by simpa using e2);obtain⟨_,_,_,_,a,c,r1,r2,h3,h4,rfl⟩:=x5 he;cases r1;cases r2;have:c=true:=by simpa[tX] using h4.symm
    subst this;exact⟨x,y,x',y',rfl,rfl,rfl,rfl,h1,h2,by simpa using h3⟩
   split at h
   .rename_i k0 hu;cases h;obtain⟨x,y,x',y',rfl,rfl,rfl,rfl,h1,h2,h3⟩:=afh 0 rfl;refine .inr ⟨_,hu,λfs=>by simp,λn e=>by simp,x',y',rfl,rfl,?_⟩;unfold eqK at h3;split at h3<;>try (cases h3;done)
    .split at h3
     .rename_i hk;subst hk;cases h3;cases h1;cases h2;exact Su hu _ _ _ _
     cases h3
    .rename_i hh;cases hh
    rename_i hh;cases hh
   .rename_i hu;cases h;obtain⟨x,y,x',y',rfl,rfl,rfl,rfl,h1,h2,h3⟩:=afh 1 rfl;refine .inr ⟨_,hu,λfs=>by simp,λn e=>by simp,x',y',rfl,rfl,?_⟩;unfold eqK at h3;split at h3<;>try (cases h3;done)
    .rename_i hh;cases hh
    .cases h3;cases h1;cases h2;exact za hu _ _ _
    rename_i hh;cases hh
   .rename_i hu;cases h;obtain⟨x,y,x',y',rfl,rfl,rfl,rfl,h1,h2,h3⟩:=afh 2 rfl;refine .inr ⟨_,hu,λfs=>by simp,λn e=>by simp,x',y',rfl,rfl,?_⟩;unfold eqK at h3;split at h3<;>try (cases h3;done)
    .rename_i hh;cases hh
    .rename_i hh;cases hh
    cases h3;cases h1;cases h2;exact Sv hu _ _ _
   .rename_i fs hu;rw[ax]at h;split at h
    .cases h
    rename_i hsi;refine .inl ⟨⟨fs,hu⟩,?_⟩;rw[I9 hu (by simpa using hsi)];exact ih2 0 fs.toList ks h D' (by omega) l m b L M (by simpa using he) hl hm
   cases h
  cases fs with
  |nil =>
   simp only[vm.Bt,aq]at h;subst h;have hb:b=true:=by
    cases h1:l.drop off<;>cases h2:m.drop off<;>rw[h1,h2]at he<;>simp[tX]at he;exact he
   subst hb;rfl
  |cons f fs =>
   simp only[vm.Bt]at h;split at h
   .rename_i k1 n hk1 hn;rw[ax]at h;split at h
    .rename_i hc;simp only[ak,aV,aO]at hc;obtain⟨⟨hnm,ho⟩,hkl⟩:=hc;split at h
     .rename_i ls hls;cases h;subst ho;obtain⟨b1,b2,e1,e2,rfl⟩:=Cz he;rw[hkl]at e1 e2;have g2:=ih2 (f.offset+n) fs ls hls D (by omega) l m b2 L M (by rw[eJ]at e2;rw[eJ]at e2;exact e2) hl hm;have g1:=ih1 f.type k1 hk1 D (by omega) _ _ b1 _ _ e1 ((hl.drop f.offset).take n) ((hm.drop f.offset).take n);simp only[Op.eqFields];rw[ag hnm];have fin:∀a c,bF P (part f.type L.toArray f.offset)=some a->bF P (part f.type M.toArray f.offset)=some c->bF P (Op.equalIn D f.type a c)=some b1 ->
       bF P (do let a <- part f.type L.toArray f.offset;let b <- part f.type M.toArray f.offset;let r <- Op.equalIn D f.type a b;if (!r)=true then pure false else Op.eqFields D L.toArray M.toArray fs:Sem Bool)=some (b1&&b2):=λa c h1 h2 h3=>by
       rw[bw,h1];simp only[aW];rw[bw,h2];simp only[aW];rw[bw,h3];simp only[aW];cases b1
       .rfl
       simp only[Bool.not_true,cu,ee,dM];exact g2
      rcases g1 with⟨⟨fs',hu⟩,g1⟩|⟨u,hu,hu1,hu2,x,y,hx,hy,g1⟩
      .refine fin _ _ (Lr hu hn _ _) (Lr hu hn _ _) ?_;have ex:∀L:List Value,L.toArray.extract f.offset (f.offset+n)=((L.drop f.offset).take n).toArray:=λL=>by
        simp[jb,gm]
       rw[ex,ex];exact g1
      have ga:∀(L:List Value) x,(L.drop f.offset).take n=[x]->L.toArray[f.offset]? = some x:=λL x h=>by
       have h0:((L.drop f.offset).take n)[0]? = some x:=by rw[h];rfl
       rw[dD]at h0;split at h0
       .simpa using h0
       cases h0
      exact fin x y (Lt hu hu1 hu2 _ _ (ga L x hx)) (Lt hu hu1 hu2 _ _ (ga M y hy)) g1
     cases h
    cases h
   cases h
theorem GM {S:Wo}:∀{ks:List Nat} {l m:List AV} {b:Bool} {L M:List Value},tX ks l m=some b->LV S l L->LV S m M->Ev.cG L=true/\Ev.cG M=true
 |[],l,m,b,L,M,h,hl,hm=>by
  obtain⟨e1,e2⟩:=wT h;have h1:L=[]:=aQ.1 (by rw[<-hl.1];simpa using e1);have h2:M=[]:=aQ.1 (by rw[<-hm.1];simpa using e2);subst h1;subst h2;exact⟨rfl,rfl⟩
 |k::ks,l,m,b,L,M,h,hl,hm=>by
  obtain⟨x,l',y,m',a,c,rfl,rfl,h1,h2,_⟩:=x5 h;obtain⟨x',L',rfl,v1,hl'⟩:=hl.cons_inv;obtain⟨y',M',rfl,v2,hm'⟩:=hm.cons_inv;obtain⟨f1,f2⟩:=GM h2 hl' hm';have:aZ x'=true/\aZ y'=true:=by
   unfold eqK at h1;split at h1
   .cases v1;cases v2;exact⟨rfl,rfl⟩
   .cases v1;cases v2;exact⟨rfl,rfl⟩
   .cases v1;cases v2;exact⟨rfl,rfl⟩
   cases h1
  exact⟨by simp[Ev.cG,this.1,f1],by simp[Ev.cG,this.2,f2]⟩
theorem Sw {op:BinOp}{t:TypeId}(p q:Operand)(xs ys:Array Value)(hm:P.eqGuardType P.depth t=false):bF P (eqGuard op t p q (.agg xs) (.agg ys))=some ():=by
 unfold eqGuard;cases op<;>first
  |rfl
  |(
   show bF P (program >>= λP1=>program >>= λP2=>if (!P1.eqGuardType P2.depth t)=true then pure () else _)=_;rw[oJ,oJ,hm];rfl)
theorem Ja {X:ij}{op:BinOp}{t:TypeId}{S:Wo}{bz:Operand->Value}{call:Ev.cH}{E:Mem}{o:Oper}{p q:Operand}{yt:TypeId}{vx vy:Value}(w:Bool)(hop:o.op = .binOp op t p q yt)(hx:bz p=vx)(hy:bz q=vy)(hf:Ev.DL op vx vy=none)
 (hn:Ev.ue X.P op t vx vy=some (.bool w)):∃vE,jt X.P call bz o E=some (vE,E)/\VR S (.bool w) vE:=by
 refine⟨.bool w,?_,.bool w⟩;unfold jt;rw[hop];show Ev.wk X.P bz o op t (bz p) (bz q) E=_;unfold Ev.wk;rw[hx,hy,hf,hn];rfl
theorem Vn {X:ij}{β:Type}{op:BinOp}{t:TypeId}{x y:AV}{c:AV->Option β}{r:β}(h:Z3 X op t x y c=some r) :
 ∃v,c v=some r/\∀(S:Wo) (bz:Operand->Value) (call:Ev.cH) (E:Mem) (o:Oper) (p q:Operand) (yt:TypeId),o.op = .binOp op t p q yt->VR S x (bz p)->VR S y (bz q) ->
  ∃vE,jt X.P call bz o E=some (vE,E)/\VR S v vE:=by
 unfold Z3 at h;split at h
 .rename_i k a k' b;obtain⟨v,vE,h1,h2,h3,h4⟩:=Sn h;refine⟨v,h1,λS bz call E o p q yt hop hx hy=>⟨vE,?_,h4 S⟩⟩;have ex:bz p = .int k a:=hx.fT;have ey:bz q = .int k' b:=hy.fT;refine Af hop (by rw[ex];rfl) (by rw[ey];rfl) h3 (λu hu=>?_) (by rw[ex,ey];exact Vk h2 t p q);rw[ex,ey]at hu;unfold Ev.ue at hu;split at hu<;>first|(cases hu;done)|(rename_i h1 h2;cases h1)
 .rename_i a b;obtain⟨v,vE,h1,h2,h3,h4⟩:=Sr h;refine⟨v,h1,λS bz call E o p q yt hop hx hy=>⟨vE,?_,h4 S⟩⟩;have ex:bz p = .string ⟨a.toArray⟩:=hx.jw;have ey:bz q = .string ⟨b.toArray⟩:=hy.jw;refine Af hop (by rw[ex];rfl) (by rw[ey];rfl) h3 (λu hu=>?_) (by rw[ex,ey];exact Vl h2 t p q);rw[ex,ey]at hu;unfold Ev.ue at hu;split at hu<;>first|(cases hu;done)|(rename_i h1 h2;cases h1)
 .rename_i a b;have key:∀(op:BinOp) (w:Bool),(op = .eql/\w=(a==b))\/(op = .neq/\w = !(a==b))->X.P.underlying t=some .bool->∀(S:Wo) (bz:Operand->Value) (call:Ev.cH) (E:Mem) (o:Oper) (p q:Operand) (yt:TypeId),o.op = .binOp op t p q yt->VR S (.bool a) (bz p)->VR S (.bool b) (bz q) ->
   ∃vE,jt X.P call bz o E=some (vE,E)/\VR S (.bool w) vE:=by
   intro op w hw hu S bz call E o p q yt hop hx hy;have ex:bz p = .bool a:=hx.mq;have ey:bz q = .bool b:=hy.mq;refine⟨.bool w,Af hop (by rw[ex];rfl) (by rw[ey];rfl) rfl (λu hv=>?_) ?_,.bool w⟩
   .rw[ex,ey]at hv;unfold Ev.ue at hv;rw[hu]at hv;rcases hw with⟨rfl,rfl⟩|⟨rfl,rfl⟩
    .simp only[aq]at hv;subst hv;cases a<;>cases b<;>rfl
    simp only[aq]at hv;subst hv;cases a<;>cases b<;>rfl
   rw[ex,ey,bw,OH];rcases hw with⟨rfl,rfl⟩|⟨rfl,rfl⟩
   .show bF X.P (Op.equalIn (9999+1) t (.bool a) (.bool b) >>= λb=>pure (Value.bool b))=_;rw[bw,za hu];rfl
   show bF X.P (Op.equalIn (9999+1) t (.bool a) (.bool b) >>= λb=>pure (Value.bool (!b)))=_;rw[bw,za hu];rfl
  split at h
  .rename_i hu;exact⟨_,h,key _ _ (.inl ⟨rfl,rfl⟩) hu⟩
  .rename_i hu;exact⟨_,h,key _ _ (.inr ⟨rfl,rfl⟩) hu⟩
  cases h
 .rename_i l m;rw[ax]at h;split at h
  .cases h
  rename_i hg;have hg':X.P.eqGuardType X.P.depth t=false:=by simpa using hg
  split at h
  .rename_i fs0 ks hu0 hks;have key:∀(op:BinOp) (b w:Bool),tX ks l m=some b->(op = .eql/\w=b)\/(op = .neq/\w = !b)->∀(S:Wo) (bz:Operand->Value) (call:Ev.cH) (E:Mem) (o:Oper) (p q:Operand) (yt:TypeId),o.op = .binOp op t p q yt->VR S (.agg l) (bz p)->VR S (.agg m) (bz q) ->
    ∃vE,jt X.P call bz o E=some (vE,E)/\VR S (.bool w) vE:=by
    intro op b w hb hw S bz call E o p q yt hop hx hy;generalize hA:bz p=A at hx;generalize hB:bz q=B at hy;cases hx with
    |agg _ L hl hv =>
     cases hy with
     |agg _ M hl' hv' =>
      obtain⟨f1,f2⟩:=GM hb ⟨hl,hv⟩ ⟨hl',hv'⟩;have heq:bF X.P (Op.equalIn 10000 t (.agg L.toArray) (.agg M.toArray))=some b:=by
       rcases (QF (P:=X.P) S 40).1 t ks hks 10000 (by omega) l m b L M hb ⟨hl,hv⟩ ⟨hl',hv'⟩ with⟨_,h1⟩|⟨u,hu,hu1,hu2,x,y,rfl,rfl,h1⟩
       .exact h1
       rw[hu0]at hu;cases hu;exact absurd rfl (hu1 _)
      refine⟨.bool w,Af hop (by rw[hA];exact f1) (by rw[hB];exact f2) rfl (λu hv=>?_) ?_,.bool w⟩
      .rw[hA,hB]at hv;unfold Ev.ue at hv;split at hv<;>first|(cases hv;done)|(rename_i h1 h2;cases h1)
      rw[hA,hB,bw,Sw _ _ _ _ hg'];rcases hw with⟨rfl,rfl⟩|⟨rfl,rfl⟩
      .show bF X.P (Op.equalIn 10000 t (.agg L.toArray) (.agg M.toArray) >>= λb=>pure (Value.bool b))=_;rw[bw,heq];rfl
      show bF X.P (Op.equalIn 10000 t (.agg L.toArray) (.agg M.toArray) >>= λb=>pure (Value.bool (!b)))=_;rw[bw,heq];rfl
   split at h
   .rename_i b hb;exact⟨_,h,key _ _ _ hb (.inl ⟨rfl,rfl⟩)⟩
   .rename_i b hb;exact⟨_,h,key _ _ _ hb (.inr ⟨rfl,rfl⟩)⟩
   cases h
  cases h
 .have key:=@Ja X op t;split at h
  .rename_i hu;exact⟨_,h,λS bz call E o p q yt hop hx hy=>by
    cases hx':bz p<;>rw[hx']at hx<;>cases hx;cases hy':bz q<;>rw[hy']at hy<;>cases hy;exact key true hop hx' hy' rfl (by unfold Ev.ue;rw[hu])⟩
  .rename_i hu;exact⟨_,h,λS bz call E o p q yt hop hx hy=>by
    cases hx':bz p<;>rw[hx']at hx<;>cases hx;cases hy':bz q<;>rw[hy']at hy<;>cases hy;exact key false hop hx' hy' rfl (by unfold Ev.ue;rw[hu])⟩
  cases h
 .have key:=@Ja X op t;split at h
  .rename_i hu;exact⟨_,h,λS bz call E o p q yt hop hx hy=>by
    cases hx':bz p<;>rw[hx']at hx<;>cases hx;cases hy':bz q<;>rw[hy']at hy<;>cases hy;exact key false hop hx' hy' rfl (by unfold Ev.ue;rw[hu])⟩
  .rename_i hu;exact⟨_,h,λS bz call E o p q yt hop hx hy=>by
    cases hx':bz p<;>rw[hx']at hx<;>cases hx;cases hy':bz q<;>rw[hy']at hy<;>cases hy;exact key true hop hx' hy' rfl (by unfold Ev.ue;rw[hu])⟩
  cases h
 .have key:=@Ja X op t;have both:∀(w:Bool) (e:TypeId) {i a j b:Nat},X.P.underlying t=some (.pointer e)->(op = .eql/\w=true)\/(op = .neq/\w=false)->(Nat.beq i j&&Nat.beq a b&&(Ev.cR X.P e).isSome)=true ->
   ∀(S:Wo) (bz:Operand->Value) (call:Ev.cH) (E:Mem) (o:Oper) (p q:Operand) (yt:TypeId),o.op = .binOp op t p q yt->VR S (.ptr i a) (bz p)->VR S (.ptr j b) (bz q)->∃vE,jt X.P call bz o E=some (vE,E)/\VR S (.bool w) vE:=by
   intro w e i a j b hu hw hc S bz call E o p q yt hop hx hy;simp only[ak,aO]at hc;obtain⟨⟨rfl,rfl⟩,hsz⟩:=hc;generalize hx':bz p=A at hx;generalize hy':bz q=B at hy;cases hx with
   |ptr _ _ i1 c1 s1 h1 =>
    cases hy with
    |ptr _ _ i2 c2 s2 h2 =>
     rw[h1]at h2;cases h2;refine key w hop hx' hy' rfl ?_;unfold Ev.ue;rw[hu];simp only;have e1:(Nat.beq i1 i1&&Nat.beq a a&&(Ev.cR X.P e).isSome)=true:=by simp[aO,hsz]
     rw[e1];rcases hw with⟨rfl,rfl⟩|⟨rfl,rfl⟩<;>rfl
  split at h
  .rename_i e hu;rw[ax]at h;split at h
   .rename_i hc;exact⟨_,h,both true e hu (.inl ⟨rfl,rfl⟩) hc⟩
   cases h
  .rename_i e hu;rw[ax]at h;split at h
   .rename_i hc;exact⟨_,h,both false e hu (.inr ⟨rfl,rfl⟩) hc⟩
   cases h
  cases h
 cases h
end
end Go.Tv
namespace Go.Tv
open Go.Ev (Tr ah iL Mem jJ alive ax dF bF gR jt aZ cE orElse)
def eO (X:ij)(cf:Nat×Nat->Ev.cH)(o:Oper)(ev:Operand->AV)(H:aG)(v:AV)(H':aG):Prop :=
 ∀(S:Wo) (E:Mem) (bz:Operand->Value),Rel S H E->(∀x∈o.op.operands,VR S (ev x) (bz x)) ->
  ∃S' vE E',(∃N,∀n:Nat×Nat,N<=n.1/\N<=n.2->jt X.P (cf n) bz o E=some (vE,E'))/\S.le S'/\VR S' v vE/\Rel S' H' E'/\St S H E S' H' E'
section
variable {X:ij} {cf:Nat×Nat->Ev.cH} {o:Oper} {ev:Operand->AV} {H:aG} {β:Type} {r:β}
theorem eO.quiet {v:AV}(h:∀(S:Wo) (E:Mem) (bz:Operand->Value),Rel S H E->(∀x∈o.op.operands,VR S (ev x) (bz x))->∃vE,(∀call,jt X.P call bz o E=some (vE,E))/\VR S v vE):eO X cf o ev H v H :=
 λS E bz hr ck=>let ⟨vE,h1,h2⟩:=h S E bz hr ck;⟨S,vE,E,⟨0,λn _=>h1 (cf n)⟩,S.le_refl,h2,hr,St.refl _ _ _⟩
theorem wU {P:Program}{o:Oper}{ev:Operand->Value}{v:Value}(hs:∀a b,o.op ≠ .select a b)(hf:Ev.dg ev o.op=true)(h:bF P (execOp ev o)=some (.value v))(hv:aZ v=true):gR P ev o=some v:=by
 unfold gR;split
 .rename_i a b h1;exact absurd h1 (hs a b)
 rw[ag hf,h];simp[hv]
theorem Sx {op:BinOp}{t yt:TypeId}{p q:Operand}(hop:o.op = .binOp op t p q yt){k:AV->Option β}(h:Z3 X op t (ev p) (ev q) k=some r):∃v,k v=some r/\eO X cf o ev H v H:=by
 obtain⟨v,h1,h2⟩:=Vn h;refine⟨v,h1,.quiet λS E bz hr ck=>?_⟩;rw[hop]at ck;obtain⟨vE,_,h4⟩:=h2 S bz (λ_ _ _=>none) E o p q yt hop (ck p (by simp[Op.operands])) (ck q (by simp[Op.operands]));refine⟨vE,λcall=>?_,h4⟩;obtain⟨vE',h5,h6⟩:=h2 S bz call E o p q yt hop (ck p (by simp[Op.operands])) (ck q (by simp[Op.operands]));rename_i h3;have e1:∀c1 c2,jt X.P c1 bz o E=jt X.P c2 bz o E:=λc1 c2=>by unfold jt;rw[hop]
 rw[e1 call (λ_ _ _=>none)];exact h3
theorem afj {op:UnOp}{t:TypeId}{p:Operand}(hop:o.op = .unOp op t p){k:AV->Option β}(h:unT op (ev p) k=some r):∃v,k v=some r/\eO X cf o ev H v H:=by
 have key:∀(v:AV) (vE:Value) (x:Value),(∀S,VR S v vE)->aZ vE=true->aZ x=true->(∀S y,VR S (ev p) y->y=x)->bF X.P (Op.unary op x)=some vE->eO X cf o ev H v H:=by
  intro v vE x hv hf hx hy hs;refine .quiet λS E bz hr ck=>⟨vE,λcall=>?_,hv S⟩
  rw[hop]at ck;have e:=hy S _ (ck p (by simp[Op.operands]));unfold jt;rw[hop];show cE E (gR X.P bz o)=_;rw[wU (v:=vE) (λa b=>by rw[hop];simp) (by rw[hop];simp[Ev.dg,Op.operands,e,hx]) ?_ hf]
  .rfl
  unfold execOp;rw[hop];show bF X.P (Op.unary op (bz p) >>= λx=>pure (Next.value x))=_;rw[bw,e,hs];rfl
 unfold unT at h;split at h
 .rename_i k0 n hp;exact⟨_,h,key _ (.int k0 (k0.wrap (0-n))) (.int k0 n) (λS=>.int _ _) rfl rfl (λS y hy=>by rw[hp]at hy;exact hy.fT) rfl⟩
 .rename_i k0 n hp;exact⟨_,h,key _ (.int k0 _) (.int k0 n) (λS=>.int _ _) rfl rfl (λS y hy=>by rw[hp]at hy;exact hy.fT) rfl⟩
 .rename_i b hp;exact⟨_,h,key _ (.bool (!b)) (.bool b) (λS=>.bool _) rfl rfl (λS y hy=>by rw[hp]at hy;exact hy.mq) rfl⟩
 cases h
theorem Sz {P:Program}{E:Mem}{t:TypeId}{n:Nat}(ha:Ev.yP P t=some true)(hn:Ev.cR P t=some n)(i off:Nat):Ev.rB P E t (.pointer (some ⟨i,off,none⟩))=(Ev.fW E i off n).map λl=>.agg l.toArray:=by
 simp only[Ev.rB,ha,hn]
theorem SA {P:Program}{E:Mem}{t:TypeId}{b:jJ}(ha:Ev.yP P t=some false){i:Nat}(hb:alive E i=some b)(off:Nat):Ev.rB P E t (.pointer (some ⟨i,off,none⟩))=Ev.DI b.cells[off]? := by
 simp only[Ev.rB,ha,hb]
theorem GN {t:TypeId}{k:AV->Option β}:sG X t [] k=none:=by
 unfold sG;split
 .rename_i n _ _;rw[ax];split
  .rename_i h;cases n<;>simp[bu,aO]at h
  rfl
 .rfl
 rfl
theorem wV {t:TypeId}{cs:List AV}{k:AV->Option β}(h:sG X t cs k=some r):∃v,k v=some r /\
 (∀(S:Wo) (E:Mem) (i off:Nat) (b:jJ) (mid post:List Value),alive E i=some b->off<=b.cells.length->b.cells.drop off=mid++post->LV S cs mid->∃vE,Ev.rB X.P E t (.pointer (some ⟨i,off,none⟩))=some vE/\VR S v vE) /\
 (∀(S:Wo) (L:List Value) (off:Nat),LV S cs (L.drop off)->∃vE,Ev.DJ X.P t L.toArray off=some vE/\VR S v vE):=by
 unfold sG at h;split at h
 .rename_i n ha hn;rw[ax]at h;split at h
  .rename_i hle;have hle':n<=cs.length:=by
    simp only[ak,bu]at hle;exact hle.1.1
   have hpl:(cs.take n).all sF=true:=by
    simp only[ak]at hle;exact hle.2
   refine⟨_,h,λS E i off b mid post hb ho hd hl=>?_,λS L off hl=>?_⟩
   .have hlen:b.cells.length=off+(mid.length+post.length):=by
     have:=cr List.length hd;simp at this;omega
    refine⟨.agg (mid.take n).toArray,?_,.agg _ _ (hl.take n).1 (hl.take n).2⟩;rw[Sz ha hn];unfold Ev.fW;rw[hb];have:off+n<=b.cells.length:=by rw[hlen,<-hl.1];omega
    have htk:(mid++post).take n=mid.take n:=fk (by rw[<-hl.1];exact hle');simp only[this,fF,hd,htk];rw[(hl.take n).oO hpl];rfl
   refine⟨.agg ((L.drop off).take n).toArray,?_,.agg _ _ (hl.take n).1 (hl.take n).2⟩;unfold Ev.DJ;rw[ha,hn];simp[jb,gm]
  cases h
 .rename_i ha;split at h
  .rename_i c cs';rw[ax]at h;split at h;case isFalse=>cases h
   rename_i hpc;refine⟨_,h,λS E i off b mid post hb ho hd hl=>?_,λS L off hl=>?_⟩
   .obtain ⟨y,m',rfl,h1,h2⟩:=hl.cons_inv;refine⟨y,?_,h1⟩;rw[SA ha hb];have h0:(b.cells.drop off)[0]? = some y:=by rw[hd];rfl
    have h0:b.cells[off]? = some y:=by simpa using h0
    rw[h0];simp only[Ev.DI,h1.oO hpc]
   obtain⟨y,m',hm,h1,h2⟩:=hl.cons_inv;refine⟨y,?_,h1⟩;unfold Ev.DJ;rw[ha];have h0:(L.drop off)[0]? = some y:=by rw[hm];rfl
   simp at h0;cases Ev.cR X.P t<;>simpa using h0
  cases h
 cases h
theorem Lu {t:TypeId}{a:AV}{k:AV->Option β}(h:loadT X H t a k=some r):∃v,k v=some r/\∀S E y,Rel S H E->VR S a y->∃vE,Ev.rB X.P E t y=some vE/\VR S v vE:=by
 unfold loadT at h;split at h
 .rename_i id off;split at h
  .rename_i cs hg;obtain⟨v,h1,h2,_⟩:=wV h;refine⟨v,h1,λS E y hr hy=>?_⟩;cases hy with
   |ptr _ _ i c s hρ =>
    obtain⟨i',c',s',b,k1,k2,k3,_⟩:=hr.row id _ hg;rw[hρ]at k1;cases k1;by_cases ho:off<=b.cells.length
    .exact h2 S E i off b (b.cells.drop off) [] k2 ho (by simp) (k3.drop off)
    exfalso;have:cs.drop off=[]:=iz (by rw[k3.1];omega);rw[this]at h;rw[GN]at h;cases h
  cases h
 .rename_i cs;obtain⟨v,h1,h2,_⟩:=wV h;refine⟨v,h1,λS E y hr hy=>?_⟩;cases hy with
  |y4 _ i pre mid post hF hl hc =>
   obtain⟨b,k1,k2⟩:=hr.fz i _ hF;exact h2 S E i pre.length b mid post k1 (by rw[k2];simp) (by rw[k2];simp) ⟨hl,hc⟩
 .rename_i id j fo gC cur;split at h
  .rename_i t' e l ver' ex ro hg;rw[ax]at h;split at h
   .rename_i hv;have hv':gC=ver':=by simpa[aO] using hv
    subst hv';obtain⟨v,h1,h2,_⟩:=wV h;refine⟨v,h1,λS E y hr hy=>?_⟩;cases hy with
    |Dk _ _ _ _ _ i c e' l' y' hρ hΓ hy' hc =>
     obtain⟨g1,_,g3⟩:=hr.row id _ hg;rw[g1]at hΓ;cases hΓ;rcases g3 with⟨_,g4,_⟩|⟨i',cap,b,mid,post,q1,q2,q3,q4,q5,q6,q7,q8,q9,yq⟩
     .rw[hρ]at g4;cases g4
     rw[hρ]at q1;cases q1;obtain⟨a,cc,bb,w1,w2,w3,w4,w5⟩:=q5.get (λx c=>CR.length e x c) hy';subst hc;have hcc:=CR.length e _ _ w3;have hfl:=tB e y';have hfo:fo<=e.size:=by
      by_cases hh:fo<=e.size
      .exact hh
      rw[iz (by omega),GN]at h;cases h
     have hbc:b.cells=a++(cc++(bb++post)):=by rw[q4,w1];simp
     refine h2 S E i (j*e.size+fo) b (cc.drop fo) (bb++post) q2 ?_ ?_ ((CR.flat e _ _ w3).drop fo)
     .rw[hbc];simp;omega
     rw[hbc,<-w2,<-eJ,mQ,fj (by omega)]
   cases h
  cases h
 cases h
theorem Vo {t:TypeId}{p:Operand}(hop:o.op = .load t p){k:AV->Option β}(h:loadT X H t (ev p) k=some r):∃v,k v=some r/\eO X cf o ev H v H:=by
 obtain⟨v,h1,hv⟩:=Lu h;refine⟨v,h1,.quiet λS E bz hr ck=>?_⟩;rw[hop]at ck;obtain⟨vE,h1,h2⟩:=hv S E _ hr (ck p (by simp[Op.operands]));exact⟨vE,λcall=>by unfold jt;rw[hop];show cE E (Ev.rB X.P E t (bz p))=_;rw[h1];rfl,h2⟩
theorem uv {α:Type}{l:List α}{i:Int}{y:α}(h:dQ l i=some y):∃n:Nat,i=(n:Int)/\l[n]? = some y:=by
 unfold dQ at h;split at h
 .rename_i n;exact⟨n,rfl,h⟩
 cases h
theorem r9 {α:Type}{m:Option α}{k:α->Option β} (h:Option.rec (motive:=λ_=>Option β) none k m=some r):∃y,m=some y/\k y=some r:=by
 cases m with
 |none=>cases h
 |some y=>exact⟨y,rfl,h⟩
theorem Ai {i:Int}{k:Nat->Option β}:∀(n j:Nat),Oy i k n j=some r->∃m,j<=m/\m<j+n/\i=(m:Int)/\k m=some r
 |0,j,h=>by cases h
 |n+1,j,h=>by
  unfold Oy at h;rw[ax]at h;split at h
  .rename_i hi;exact⟨j,aC _,by omega,by rw[Ev.eF]at hi;simpa using hi,h⟩
  obtain⟨m,h1,h2,h3,h4⟩:=Ai n (j+1) h;exact⟨m,by omega,by omega,h3,h4⟩
theorem Jb {i:Int}{n m:Nat}(hi:i=(m:Int))(hm:m<n):Ev.R6 i n=some m:=by
 subst hi;show ah (Nat.ble (Nat.succ m) n) (some m) none=some m;rw[ax,Ev.nj,ag (by simpa using hm)]
theorem eL {α:Type}{l:List α}{n:Nat}{y:α}(h:l[n]? = some y):n<l.length:=(bx.1 h).1
theorem zb {P:Program}{t te:TypeId}{s:Nat}(hu:P.underlying t=some (.slice te))(hs:Ev.cR P te=some s)(b off len cap:Nat)(k:IntKind)(m:Nat)(hm:m<len) :
 Ev.Ii P t (.slice (some ⟨b,off,none⟩) len cap) (.int k (m:Int))=some (.pointer (some ⟨b,off+m*s,none⟩)):=by
 simp only[Ev.Ii,hu,hs,Jb rfl hm];rfl
theorem zc {P:Program}{t te:TypeId}{s n:Nat}(hu:P.underlying t=some (.array n te))(hs:Ev.cR P te=some s)(b off:Nat)(k:IntKind)(m:Nat)(hm:m<n) :
 Ev.Ii P t (.pointer (some ⟨b,off,none⟩)) (.int k (m:Int))=some (.pointer (some ⟨b,off+m*s,none⟩)):=by
 simp only[Ev.Ii,hu,hs,Jb rfl hm];rfl
theorem Z8 {t:TypeId}{p q:Operand}(hop:o.op = .indexAddr t p q){k:AV->Option β}(h:ae7 X H t (ev p) (ev q) k=some r):∃v,k v=some r/\eO X cf o ev H v H:=by
 have fin:∀v,(∀S E x y,Rel S H E->VR S (ev p) x->VR S (ev q) y->∃vE,Ev.Ii X.P t x y=some vE/\VR S v vE)->eO X cf o ev H v H:=λv hv=>.quiet λS E bz hr ck=>by
  rw[hop]at ck;obtain⟨vE,h1,h2⟩:=hv S E _ _ hr (ck p (by simp[Op.operands])) (ck q (by simp[Op.operands]));exact⟨vE,λcall=>by unfold jt;rw[hop];show cE E (Ev.Ii X.P t (bz p) (bz q))=_;rw[h1];rfl,h2⟩
 unfold ae7 at h;split at h
 .rename_i te ki i hu hq;split at h
  .rename_i s hs;split at h
   .rename_i e l hp;rw[ax]at h;split at h
    .rename_i Zz;have hse':s=e.size:=by simpa[aO] using Zz
     obtain⟨y,hy,h1⟩:=r9 h;obtain⟨n,rfl,hn⟩:=uv hy;refine⟨_,h1,fin _ λS E x z hr hx hz=>?_⟩;rw[hp]at hx;rw[hq]at hz;rw[hz.fT];cases hx with
     |dH _ _ _ hS =>
      rcases hS with⟨hl,_⟩|⟨i0,pre,mid,post,cap,rfl,hF,hC,hcap⟩
      .subst hl;simp at hn
      rw[zb hu hs _ _ _ _ _ _ (eL hn)];obtain⟨a,cc,bb,w1,w2,w3,w4,w5⟩:=hC.get (λx c=>CR.length e x c) hn;refine⟨_,rfl,?_⟩;have:=VR.y4 (S:=S) (flat e y) i0 (pre++a) cc (bb++post) (by rw[hF,w1];simp) (CR.flat e _ _ w3).1 (CR.flat e _ _ w3).2;rw[aA,w2,<-hse']at this;exact this
    cases h
   .rename_i id n0 hp;split at h
    .rename_i t' e l gC ex ro hg;rw[ax]at h;split at h
     .rename_i Zz;have hse':s=e.size:=by simpa[aO] using Zz
      obtain⟨y,hy,h1⟩:=r9 h;obtain⟨n,rfl,hn⟩:=uv hy;refine⟨_,h1,fin _ λS E x z hr hx hz=>?_⟩;rw[hp]at hx;rw[hq]at hz;rw[hz.fT];obtain⟨g1,⟨_,g,g2,g2'⟩,g3⟩:=hr.row id _ hg;cases hx with
      |own _ _ i0 qh s0 hρ g' hg' hn' =>
       rw[g2]at hg';cases hg';rcases g3 with⟨_,g5,_⟩|⟨i',cap,b,mid,post,q1,q2,q3,q4,q5,q6,q7,q8,q9,yq⟩
       .rw[hρ]at g5;cases g5
       rw[hρ]at q1;cases q1;rw[zb hu hs _ _ _ _ _ _ (by have:=eL hn;omega)];refine⟨_,rfl,?_⟩;have:=VR.Dk (S:=S) id n 0 gC (flat e y) i0 qh e l y hρ g1 hn rfl;rw[<-hse']at this;simpa using this
      |gh _ g' hg' hn' =>
       rw[g2]at hg';cases hg';have:=eL hn;omega
     cases h
    cases h
   .rename_i id off len qh hp;split at h
    .rename_i t' e l gC ex ro hg;rw[ax]at h;split at h
     .rename_i Zz;have hse':s=e.size:=by simpa[aO] using Zz
      obtain⟨y,hy,h1⟩:=r9 h;obtain⟨n,rfl,hn⟩:=uv hy;refine⟨_,h1,fin _ λS E x z hr hx hz=>?_⟩;rw[hp]at hx;rw[hq]at hz;rw[hz.fT];obtain⟨g1,_,g3⟩:=hr.row id _ hg;rw[dD]at hn;split at hn
      .rename_i hlt;cases hx with
       |rO _ _ _ _ i0 c0 s0 hρ g' hg' hc hl =>
        rcases g3 with⟨_,g5,_⟩|⟨i',cap,b,mid,post,q1,q2,q3,q4,q5,q6,q7,q8,q9,yq⟩
        .rw[hρ]at g5;cases g5
        rw[hρ]at q1;cases q1;rw[zb hu hs _ _ _ _ _ _ hlt];refine⟨_,rfl,?_⟩;have:=VR.Dk (S:=S) id (off+n) 0 gC (flat e y) i0 c0 e l y hρ g1 (by simpa using hn) rfl;rw[<-hse',dm]at this;rw[<-hse'];simpa using this
      cases hn
     cases h
    cases h
   cases h
  cases h
 .rename_i n te ki i hu hq;split at h
  .rename_i s hs;split at h
   .rename_i id off hp;obtain⟨m,_,hm,rfl,h1⟩:=Ai _ _ h;refine⟨_,h1,fin _ λS E x z hr hx hz=>?_⟩;rw[hp]at hx;rw[hq]at hz;rw[hz.fT];cases hx with
    |ptr _ _ i0 c s0 hρ =>
     rw[zc hu hs _ _ _ _ (by omega)];exact⟨_,rfl,.ptr _ _ _ _ _ hρ⟩
   .rename_i cs hp;obtain⟨m,_,hm,rfl,h1⟩:=Ai _ _ h;rw[ax]at h1;split at h1
    .rename_i hle;have hle':m*s<=cs.length:=by simpa[bu] using hle
     refine⟨_,h1,fin _ λS E x z hr hx hz=>?_⟩;rw[hp]at hx;rw[hq]at hz;rw[hz.fT];cases hx with
     |y4 _ i0 pre mid post hF hl hc =>
      rw[zc hu hs _ _ _ _ (by omega)];refine⟨_,rfl,?_⟩;have hd:=LV.drop (S:=S) ⟨hl,hc⟩ (m*s);have:=VR.y4 (S:=S) (cs.drop (m*s)) i0 (pre++mid.take (m*s)) (mid.drop (m*s)) post (by rw[hF,bM,<-bM (mid.take (m*s)),eY]) hd.1 hd.2;rw[aA,bR,gx (by omega)]at this;exact this
    cases h1
   .rename_i id n' hp;split at h
    .rename_i t' e l gC ex ro hg;rw[ax]at h;split at h
     .rename_i Zz;simp only[ak,aO]at Zz;obtain⟨hse',rfl⟩:=Zz;obtain⟨y,hy,h1⟩:=r9 h;obtain⟨m,rfl,hn⟩:=uv hy;refine⟨_,h1,fin _ λS E x z hr hx hz=>?_⟩;rw[hp]at hx;rw[hq]at hz;rw[hz.fT];obtain⟨g1,⟨_,g,g2,g2'⟩,g3⟩:=hr.row id _ hg;cases hx with
      |Ej _ _ i0 qh s0 hρ g' hg' hn' =>
       rw[g2]at hg';cases hg';rcases g3 with⟨_,g5,_⟩|⟨i',cap,b,mid,post,q1,q2,q3,q4,q5,q6,q7,q8,q9,yq⟩
       .rw[hρ]at g5;cases g5
       rw[hρ]at q1;cases q1;rw[zc hu hs _ _ _ _ (by have:=eL hn;omega)];refine⟨_,rfl,?_⟩;have:=VR.Dk (S:=S) id m 0 gC (flat e y) i0 qh e l y hρ g1 hn rfl;rw[<-hse']at this;simpa using this
     cases h
    cases h
   cases h
  cases h
 cases h
theorem SB {s:TypeId}{p:Operand}{f:Nat}(hop:o.op = .fieldAddr s p f){k:AV->Option β}(h:Oz X s (ev p) f k=some r):∃v,k v=some r/\eO X cf o ev H v H:=by
 have fin:∀v,(∀S x,VR S (ev p) x->∃vE,Ev.yQ X.P s x f=some vE/\VR S v vE)->eO X cf o ev H v H:=λv hv=>.quiet λS E bz hr ck=>by
  rw[hop]at ck;obtain⟨vE,h1,h2⟩:=hv S _ (ck p (by simp[Op.operands]));exact⟨vE,λcall=>by unfold jt;rw[hop];show cE E (Ev.yQ X.P s (bz p) f)=_;rw[h1];rfl,h2⟩
 unfold Oz at h;split at h
 .rename_i fs hu;split at h
  .rename_i fd UH;split at h
   .rename_i n hn;rw[ax]at h;split at h
    .cases h
    rename_i hz;have hz':¬n=0:=by simpa[aO] using hz
    have hA:∀b off,Ev.yQ X.P s (.pointer (some ⟨b,off,none⟩)) f=some (.pointer (some ⟨b,off+fd.offset,none⟩)):=λb off=>by
     simp only[Ev.yQ,hu,UH,hn,aa hz']
    split at h
    .rename_i id off hp;refine⟨_,h,fin _ λS x hx=>?_⟩;rw[hp]at hx;cases hx with
     |ptr _ _ i c s0 hρ=>rw[hA];exact⟨_,rfl,.ptr _ _ _ _ _ hρ⟩
    .rename_i cs hp;rw[ax]at h;split at h
     .rename_i hle;have hle':fd.offset<=cs.length:=by simpa[bu] using hle
      refine⟨_,h,fin _ λS x hx=>?_⟩;rw[hp]at hx;cases hx with
      |y4 _ i0 pre mid post hF hl hc =>
       rw[hA];refine⟨_,rfl,?_⟩;have hd:=LV.drop (S:=S) ⟨hl,hc⟩ fd.offset;have:=VR.y4 (S:=S) (cs.drop fd.offset) i0 (pre++mid.take fd.offset) (mid.drop fd.offset) post (by rw[hF,bM,<-bM (mid.take fd.offset),eY]) hd.1 hd.2;rw[aA,bR,gx (by omega)]at this;exact this
     cases h
    .rename_i id j fo gC cur hp;refine⟨_,h,fin _ λS x hx=>?_⟩;rw[hp]at hx;cases hx with
     |Dk _ _ _ _ _ i c e l y hρ hΓ hy hc =>
      rw[hA];refine⟨_,rfl,?_⟩;have:=VR.Dk (S:=S) id j (fo+fd.offset) gC cur i c e l y hρ hΓ hy hc;rw[<-Nat.add_assoc]at this;exact this
    cases h
   cases h
  cases h
 cases h
theorem OI {t:TypeId}{p:Operand}{f:Nat}{fs:Array Field}{cs:List AV}{fd:Field}(hop:o.op = .field t p f)(hu:X.P.underlying t=some (.struct fs))(hp:ev p = .agg cs)(UH:fs[f]? = some fd){k:AV->Option β}
 (h:sG X fd.type (cs.drop fd.offset) k=some r):∃v,k v=some r/\eO X cf o ev H v H:=by
 obtain⟨v,h1,_,h2⟩:=wV h;refine⟨v,h1,.quiet λS E bz hr ck=>?_⟩;rw[hop]at ck;have hx:=ck p (by simp[Op.operands]);rw[hp]at hx;generalize hA:bz p=A at hx;cases hx with
 |agg _ L hl hv =>
  obtain⟨vE,h3,h4⟩:=h2 S L fd.offset (LV.drop ⟨hl,hv⟩ _);refine⟨vE,λcall=>?_,h4⟩;unfold jt;rw[hop];show cE E (Ev.zH X.P t (bz p) f)=_;rw[hA];simp only[Ev.zH,hu,UH,h3];rfl
theorem SC {t:TypeId}{p q:Operand}(hop:o.op = .index t p q){k:AV->aG->Option β}
 (h:(match X.P.underlying t,ev p,ev q with
 |some .string,.str s,.int _ i=>Option.rec (motive:=λ_=>Option β) none (λc=>k (.int .u8 (cY c)) H) (dQ s i)
 |some (.array n te),.agg cs,.int _ i=>match Ev.cR X.P te with
  |some s=>Oy i (λj=>sG X te (cs.drop (Nat.mul j s)) λv=>k v H) n 0
  |none=>none
 |_,_,_=>none)=some r):∃v,k v H=some r/\eO X cf o ev H v H:=by
 split at h
 .rename_i s ki i hu hp hq;obtain⟨c,hc,h1⟩:=r9 h;obtain⟨n,rfl,hn⟩:=uv hc;refine⟨_,h1,.quiet λS E bz hr ck=>⟨.int .u8 (cY c),λcall=>?_,.int _ _⟩⟩;rw[hop]at ck;have hx:=ck p (by simp[Op.operands]);have hy:=ck q (by simp[Op.operands]);rw[hp]at hx;rw[hq]at hy;unfold jt;rw[hop];show cE E (orElse (Ev.qE X.P t (bz p) (bz q)) _)=_;rw[hx.jw,hy.fT];have e:Ev.qE X.P t (.string ⟨s.toArray⟩) (.int ki (n:Int))=some (.int .u8 (cY c)):=by
   show (match X.P.underlying t,Value.string ⟨s.toArray⟩,Value.int ki (Int.ofNat n) with
    |some .string,.string s,.int _ (.ofNat i)=>match s.data.toList[i]? with
     |some b=>some (Value.int .u8 (.ofNat b.toNat))
     |none=>none
    |_,_,_=>none)=_
   rw[hu];simp[hn,cY]
  rw[e];rfl
 .rename_i n te cs ki i hu hp hq;split at h
  .rename_i s hs;obtain⟨m,_,hm,rfl,h1⟩:=Ai _ _ h;obtain⟨v,h2,_,h3⟩:=wV h1;refine⟨v,h2,.quiet λS E bz hr ck=>?_⟩;rw[hop]at ck;have hx:=ck p (by simp[Op.operands]);have hy:=ck q (by simp[Op.operands]);rw[hp]at hx;rw[hq]at hy;generalize hA:bz p=A at hx;cases hx with
   |agg _ L hl hv =>
    obtain⟨vE,h4,h5⟩:=h3 S L (m*s) (LV.drop ⟨hl,hv⟩ _);refine⟨vE,λcall=>?_,h5⟩;unfold jt;rw[hop];show cE E (orElse (Ev.qE X.P t (bz p) (bz q)) (orElse (Ev.xR X.P t (bz p) (bz q)) _))=_;rw[hA,hy.fT];have e1:Ev.qE X.P t (.agg L.toArray) (.int ki (m:Int))=none:=by simp only[Ev.qE,hu]
    have e2:Ev.xR X.P t (.agg L.toArray) (.int ki (m:Int))=some vE:=by
     simp only[Ev.xR,hu,hs,Jb rfl (show m<n by omega)];exact h4
    rw[e1,e2];rfl
  cases h
 cases h
theorem Z9 {c:Call}{x:Operand}{t:TypeId}(hop:o.op = .call c)(hc:c.callee = .builtin .len)(h0:c.args[0]? = some x)(h1:c.argTypes[0]? = some t){k:AV->Option β}(h:afc X t (ev x) k=some r):∃v,k v=some r/\eO X cf o ev H v H:=by
 have fin:∀n:Nat,(∀S y,VR S (ev x) y->Ev.tQ X.P t y=some (goInt n))->eO X cf o ev H (.int .i64 n) H:=λn hn=>.quiet λS E bz hr ck=>by
  refine⟨goInt n,λcall=>?_,.int _ _⟩;rw[hop]at ck;have hx:=ck x (by
   have:=aY h0;simp only[Op.operands,Call.operands,hc];simpa using this)
  unfold jt;rw[hop];show Ev.ez X.P call bz o c E=_;unfold Ev.ez;rw[hc];show Ev.zI X.P bz o c.args c.argTypes E=_;unfold Ev.zI;rw[h0,h1];simp only[hn S _ hx];rfl
 unfold afc at h;split at h
 .rename_i hu hp;refine⟨_,h,fin _ λS y hy=>?_⟩;rw[hp]at hy;cases hy with
  |dH _ _ _ hS =>
   rcases hS with⟨rfl,rfl|rfl⟩|⟨i0,pre,mid,post,cap,rfl,_⟩
   .simp only[Ev.tQ,hu];rfl
   .simp only[Ev.tQ,Ev.vd,hu];rfl
   simp only[Ev.tQ,hu]
 .rename_i hu hp;refine⟨_,h,fin 0 λS y hy=>?_⟩;rw[hp]at hy;cases hy;simp only[Ev.tQ,hu]
 .rename_i hu hp;refine⟨_,h,fin _ λS y hy=>?_⟩;rw[hp]at hy;cases hy<;>simp only[Ev.tQ,hu]
 .rename_i hu hp;refine⟨_,h,fin _ λS y hy=>?_⟩;rw[hp]at hy;cases hy;simp only[Ev.tQ,hu]
 .rename_i s hu hp;refine⟨_,h,fin _ λS y hy=>?_⟩;rw[hp]at hy;rw[hy.jw];simp[Ev.tQ,hu,ByteArray.size]
 cases h
end
end Go.Tv

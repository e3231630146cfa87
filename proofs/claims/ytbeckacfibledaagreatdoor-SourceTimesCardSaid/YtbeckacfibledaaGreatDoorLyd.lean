/- A layer above the evaluator: values that may be known by terms alone (numbers, texts, lists); definitions. -/
import Derived.Test.YtbeckacfibledaaGreatDoorLyc
import Derived.Laws.StructEq
set_option linter.unusedVariables false
set_option linter.unusedSimpArgs false

namespace Go.Tv
open Go.Ev (Tr ah jx)
noncomputable section
inductive Ty where
 |int (k:IntKind)
 |bool
 |str
 |rL
 |unit
 |sl (e:Ty)
 |pair (a b:Ty)
 deriving DecidableEq
@[reducible] def Ty.den (t:Ty):Type :=
 Ty.rec (motive:=λ_=>Type) (λ_=>Int) Bool au Nat Unit (λ_ d=>List d) (λ_ _ a b=>a×b) t
def Ty.size:Ty->Nat
 |.int _=>1
 |.bool=>1
 |.str=>1
 |.rL=>1
 |.unit=>0
 |.sl _=>1
 |.pair a b=>a.size+b.size
def Ty.BA:Ty->Bool
 |.sl _=>false
 |.pair a b=>a.BA&&b.BA
 |_=>true
def jl (e a:Ty)(l:List e.den):Option (List a.den) :=
 if h:e=a then some (h ▸ l) else none
inductive AV where
 |int (k:IntKind) (n:Int)
 |bool (b:Bool)
 |str (s:au)
 |rL (n:Nat)
 |eC (e:Ty) (l:List e.den)
 |eB
 |own (id n:Nat)
 |tc (id off len cap:Nat)
 |ptr (id off:Nat)
 |Er (id j fo iL:Nat) (cur:List AV)
 |FB (id n:Nat)
 |zN (id:Nat)
 |dat (id:Nat)
 |Ad (cs:List AV)
 |pU
 |fn (f:FuncId) (a b:List AV)
 |agg (l:List AV)
 |gI (l:List AV)
 |BB (v:Value)
 |fl (a:cu)
 |cx (a b:cu)
 |lG
abbrev bx:=Option AV
abbrev aI:=List AV
inductive Row where
 |dead
 |cells (t:TypeId) (cs:aI)
 |list (t:TypeId) (e:Ty) (l:List e.den) (iL:Nat) (ex ro:Bool)
 |mp (t:TypeId) (ks:List (au×Int))
 |mf (t:TypeId) (ks:List (AV×AV))
abbrev cQ:=List Row
structure aH where
 next:Nat
 lk:Nat
 par:Nat
 t:Tr Row
def aH.get (H:aH)(i:Nat):Option Row :=
 match H.t.get i with
 |some .dead=>none
 |some r=>ah (Nat.ble (Nat.succ i) H.next) (some r) none
 |none=>none
def aH.put (H:aH)(i:Nat)(r:Row):aH :=
 Option.rec (motive:=λ_=>aH) H (λt=>⟨H.next,H.lk,H.par,t⟩) (H.t.set i r)
def aH.push (H:aH)(r:Row):aH :=
 Option.rec (motive:=λ_=>aH) H (λt=>⟨Nat.add H.next 1,H.lk,H.par,t⟩) (H.t.set H.next r)
def aH.empty:aH:=⟨0,0,0,.e⟩
structure gJ where
 n:Nat
 t:Tr AV
def gJ.get (f:gJ)(i:Nat):AV:=Option.rec (motive:=λ_=>AV) .lG (λv=>v) (f.t.get i)
def gJ.put (f:gJ)(dst:Option Tmp)(v:AV):gJ :=
 Option.rec (motive:=λ_=>gJ) f (λd=>ah (Nat.ble (Nat.succ d) f.n) (Option.rec (motive:=λ_=>gJ) f (λt=>⟨f.n,t⟩) (f.t.set d v)) f) dst
def gJ.fill (f:gJ):Nat->aI->gJ
 |_,[]=>f
 |i,v::l=>(f.put (some i) v).fill (i+1) l
structure ji where
 P:Program
 G:Nat
 gv:Nat->aI
 ar:TypeId->Bool:=λ_=>false
 trs:FuncId->List Tmp:=λ_=>[]
 rm:Bool:=false
 kl:FuncId->Bool:=λ_=>false
 fl:Bool:=false
def Qs:Value->AV
 |.int k n=>.int k n
 |.bool b=>.bool b
 |.string s=>.str s.data.toList
 |.float .f64 n=>.rL n
 |.pointer none=>.pU
 |.slice none 0 0=>.eB
 |v=>.BB v
def ofV:Value->AV
 |.agg cs=>.agg (cs.toList.map Qs)
 |v=>Qs v
def af6:aI->AV
 |[]=>.lG
 |c::cs=>.Ad (c::cs)
def gJ.eval (X:ji)(f:gJ):Operand->AV
 |.tmp t=>f.get t
 |.const v=>ofV v
 |.global g=>af6 (X.gv g)
 |.func f=>.fn f [] []
def flat:(e:Ty)->e.den->aI
 |.int k,n=>[.int k n]
 |.bool,b=>[.bool b]
 |.str,s=>[.str s]
 |.rL,n=>[.rL n]
 |.unit,_=>[]
 |.sl e,l=>[.eC e l]
 |.pair a b,x=>flat a x.1++flat b x.2
def ahQ (k:IntKind):aI->Option (Int×aI)
 |.int a n::r=>if k=a then some (n,r) else none
 |_=>none
def Xl:aI->Option (Bool×aI)
 |.bool b::r=>some (b,r)
 |_=>none
def ahR:aI->Option (au×aI)
 |.str s::r=>some (s,r)
 |_=>none
def ahS:aI->Option (Nat×aI)
 |.rL n::r=>some (n,r)
 |_=>none
def hSl (e:Ty):aI->Option (List e.den×aI)
 |.eC a l::r=>match jl a e l with
  |some b=>some (b,r)
  |none=>none
 |.eB::r=>some ([],r)
 |_=>none
def Ae:(e:Ty)->aI->Option (e.den×aI)
 |.int k,r=>ahQ k r
 |.bool,r=>Xl r
 |.str,r=>ahR r
 |.rL,r=>ahS r
 |.unit,r=>some ((),r)
 |.sl e,r=>hSl e r
 |.pair a b,r=>match Ae a r with
  |some (x,r1)=>match Ae b r1 with
   |some (y,c)=>some ((x,y),c)
   |none=>none
  |none=>none
def wG (e:Ty):Nat->aI->Option (List e.den)
 |0,[]=>some []
 |0,_::_=>none
 |n+1,r=>match Ae e r with
  |some (x,r1)=>match wG e n r1 with
   |some l=>some (x::l)
   |none=>none
  |none=>none
def Qt (P:Program):Nat->TypeId->Option Ty
 |0,_=>none
 |d+1,t=>match P.underlying t with
  |some (.int k)=>some (.int k)
  |some .bool=>some .bool
  |some .string=>some .str
  |some (.float .f64)=>some .rL
  |some (.slice e)=>match Qt P d e with
   |some x=>some (.sl x)
   |none=>none
  |some (.struct c)=>Nb P d c.toList
  |_=>none
where Nb (P:Program):Nat->List Field->Option Ty
 |0,_=>none
 |_+1,[]=>some .unit
 |d+1,[f]=>Qt P d f.type
 |d+1,f::c=>match Qt P d f.type,Nb P d c with
  |some a,some b=>some (.pair a b)
  |_,_=>none
def eL {α:Type}(l:List α)(i:Int):Option α :=
 match i with
 |.ofNat n=>l[n]?
 |.negSucc _=>none
def cS (c:UInt8):Int:=Int.ofNat c.toNat
def iU8 (n:Int):UInt8:=UInt8.ofNat n.toNat
def DB (H:aH)(e:Ty):AV->Option (List e.den)
 |.eC a l=>jl a e l
 |.eB=>some []
 |.own id _=>match H.get id with
  |some (.list _ a l _ _ _)=>jl a e l
  |_=>none
 |.tc id off len _=>match H.get id with
  |some (.list _ a l _ _ _)=>match jl a e l with
   |some b=>some ((b.drop off).take len)
   |none=>none
  |_=>none
 |.str s=>jl (.int .u8) e (s.map cS)
 |_=>none
def FC:AV->Option aI
 |.agg l=>some l
 |.gI _=>none
 |.lG=>none
 |.fl _=>none
 |.cx _ _=>none
 |.BB v=>ah (Ev.plainCell v) (some [.BB v]) none
 |v=>some [v]
def tX:AV->Bool
 |.agg _=>false
 |.gI _=>false
 |.lG=>false
 |.fl _=>false
 |.cx _ _=>false
 |.BB v=>Ev.plainCell v
 |_=>true
def nM {α:Type}(l:List α)(off:Nat):List α->List α
 |[]=>l
 |v::vs=>nM (l.set off v) (off+1) vs
def aH.o7 (H:aH)(id:Nat):Bool:=Nat.ble H.lk id
section
variable {β:Type}
def tY (X:ji)(t:TypeId)(cs:aI)(k:AV->Option β):Option β :=
 match Ev.zY X.P t,Ev.dJ X.P t with
 |some true,some n=>ah (Nat.ble n cs.length && !(Nat.beq n 0)&&(cs.take n).all tX) (k (.agg (cs.take n))) none
 |some false,_=>match cs with
  |c::_=>ah (tX c) (k c) none
  |[]=>none
 |_,_=>none
def loadT (X:ji)(H:aH)(t:TypeId)(a:AV)(k:AV->Option β):Option β :=
 match a with
 |.ptr id off=>match H.get id with
  |some (.cells _ cs)=>tY X t (cs.drop off) k
  |_=>none
 |.Ad cs=>tY X t cs k
 |.Er id _ d iL c=>match H.get id with
  |some (.list _ _ _ b _ _)=>ah (Nat.beq iL b) (tY X t (c.drop d) k) none
  |_=>none
 |_=>none
def storeT (X:ji)(H:aH)(t:TypeId)(a x:AV)(k:aH->Option β):Option β :=
 match a,Ev.dJ X.P t,FC x with
 |.ptr id off,some n,some vs=>match H.get id with
  |some (.cells d cs)=>ah (H.o7 id&&Nat.beq vs.length n&&vs.all tX&&Nat.ble (Nat.add off n) cs.length) (k (H.put id (.cells d (nM cs off vs)))) none
  |_=>none
 |.Er id j f iL b,some n,some vs=>match H.get id with
  |some (.list d e l c ex g)=>ah (H.o7 id&&Nat.beq vs.length n&&vs.all tX&&Nat.ble (Nat.add f n) b.length&&Nat.beq iL c && !g)
   (match Ae e (nM b f vs) with
    |some (y,[])=>k (H.put id (.list d e (l.set j y) (iL+1) ex g))
    |_=>none) none
  |_=>none
 |_,_,_=>none
def Qu (i:Int)(k:Nat->Option β):Nat->Nat->Option β
 |0,_=>none
 |n+1,j=>ah (Ev.bS i (Int.ofNat j)) (k j) (Qu i k n (j+1))
def ahT (X:ji)(H:aH)(t:TypeId)(x ix:AV)(k:AV->Option β):Option β :=
 match X.P.underlying t,ix with
 |some (.slice te),.int _ i=>match Ev.dJ X.P te with
  |some s=>match x with
   |.eC e l=>ah (Nat.beq s e.size) (Option.rec (motive:=λ_=>Option β) none (λy=>k (.Ad (flat e y))) (eL l i)) none
   |.own id _=>match H.get id with
    |some (.list _ e l iL _ _)=>ah (Nat.beq s e.size) (Option.rec (motive:=λ_=>Option β) none (λy=>k (.Er id i.toNat 0 iL (flat e y))) (eL l i)) none
    |_=>none
   |.tc id off len _=>match H.get id with
    |some (.list _ e l iL _ _)=>ah (Nat.beq s e.size) (Option.rec (motive:=λ_=>Option β) none (λy=>k (.Er id (off+i.toNat) 0 iL (flat e y))) (eL ((l.drop off).take len) i)) none
    |_=>none
   |_=>none
  |none=>none
 |some (.array n te),.int _ i=>match Ev.dJ X.P te with
  |some s=>match x with
   |.ptr id off=>Qu i (λj=>k (.ptr id (Nat.add off (Nat.mul j s)))) n 0
   |.Ad cs=>Qu i (λj=>ah (Nat.ble (Nat.mul j s) cs.length) (k (.Ad (cs.drop (Nat.mul j s)))) none) n 0
   |.FB id n'=>match H.get id with
    |some (.list _ e l iL _ _)=>ah (Nat.beq s e.size&&Nat.beq n' n) (Option.rec (motive:=λ_=>Option β) none (λy=>k (.Er id i.toNat 0 iL (flat e y))) (eL l i)) none
    |_=>none
   |_=>none
  |none=>none
 |_,_=>none
def Qv (X:ji)(s:TypeId)(x:AV)(f:Nat)(k:AV->Option β):Option β :=
 match X.P.underlying s with
 |some (.struct c)=>match c[f]? with
  |some a=>match Ev.dJ X.P a.type with
   |some n=>ah (Nat.beq n 0) none (match x with
    |.ptr id off=>k (.ptr id (Nat.add off a.offset))
    |.Ad cs=>ah (Nat.ble a.offset cs.length) (k (.Ad (cs.drop a.offset))) none
    |.Er id j d iL b=>k (.Er id j (Nat.add d a.offset) iL b)
    |_=>none)
   |none=>none
  |none=>none
 |_=>none
def r7 (len cap:Nat)(lo hi:bx)(k:Int->Int->Option β):Option β :=
 match lo,hi with
 |none,none=>k 0 len
 |some (.int _ a),none=>ah (!Ev.bN a 0 && !Ev.bN (Int.ofNat len) a) (k a len) none
 |none,some (.int _ b)=>ah (!Ev.bN b 0 && !Ev.bN (Int.ofNat cap) b) (k 0 b) none
 |some (.int _ a),some (.int _ b)=>ah (!Ev.bN a 0 && !Ev.bN b a && !Ev.bN (Int.ofNat cap) b) (k a b) none
 |_,_=>none
def dZ {α:Type}(l:List α)(a b:Int):List α:=(l.drop a.toNat).take (b.toNat-a.toNat)
def FD (X:ji)(H:aH)(t:TypeId)(x:AV)(lo hi:bx)(k:AV->aH->Option β):Option β :=
 match X.P.underlying t,x with
 |some .string,.str s=>r7 s.length s.length lo hi λa b=>k (.str (dZ s a b)) H
 |some (.slice te),.eC e l=>ah (Ev.dJ X.P te==some e.size) (r7 l.length l.length lo hi λa b=>ah (Ev.bS a 0||Ev.bN a (Int.ofNat l.length)) (k (.eC e (dZ l a b)) H) none) none
 |some (.slice te),.tc id off len cap=>match H.get id with
  |some (.list _ e _ _ true _)=>ah (Ev.dJ X.P te==some e.size) (r7 len cap lo hi λa b=>ah (Ev.bS a 0||Ev.bN a (Int.ofNat cap)) (k (.tc id (off+a.toNat) (b.toNat-a.toNat) (cap-a.toNat)) H) none) none
  |_=>none
 |some (.slice te),.own id n=>match H.get id with
  |some (.list c e l iL ex _)=>ah (Ev.dJ X.P te==some e.size&&H.o7 id) (r7 l.length l.length lo hi λa b=>ah (Ev.bS a 0||Ev.bN a (Int.ofNat l.length)) (k (.eC e (dZ l a b)) (H.put id (.list c e l iL ex true))) none) none
  |_=>none
 |some (.slice te),.eB=>ah (Ev.dJ X.P te).isSome (r7 0 0 lo hi λ_ _=>k .eB H) none
 |some (.array n te),.FB id n'=>match H.get id with
  |some (.list _ e _ _ true _)=>ah (Ev.dJ X.P te==some e.size&&Nat.beq n' n) (r7 n n lo hi λa b=>ah (Ev.bS a 0||Ev.bN a (Int.ofNat n)) (k (.tc id a.toNat (b.toNat-a.toNat) (n-a.toNat)) H) none) none
  |_=>none
 |_,_=>none
def Qw (X:ji)(H:aH)(t:TypeId)(x:AV)(hi:AV)(k:AV->aH->Option β):Option β :=
 match X.P.underlying t,x,hi with
 |some (.slice te),.own id _,.int _ b=>match H.get id with
  |some (.list a e l _ _ false)=>ah (Ev.dJ X.P te==some e.size&&H.o7 id)
   (ah (!Ev.bN b 0 && !Ev.bN (Int.ofNat l.length) b) (k (.own H.next b.toNat) ((H.put id .dead).push (.list a e (l.take b.toNat) 0 false false))) none) none
  |_=>none
 |some (.slice _),.eB,.int kb b=>FD X H t .eB none (some (.int kb b)) k
 |_,_,_=>none
def xW (ev:Operand->AV)(ps:Array (Nat×Operand)):List (Nat×AV):=ps.toList.map λq=>(q.1,ev q.2)
def FE (place:Nat->Option (Nat×Nat))(cells:aI):List (Nat×AV)->Option aI
 |[]=>some cells
 |(i,v)::rest=>match place i,FC v with
  |some (off,size),some vs=>ah (Nat.beq vs.length size&&Nat.ble (Nat.add off vs.length) cells.length) (FE place (nM cells off vs) rest) none
  |_,_=>none
def placesOf (P:Program):List Field->Option (List (Nat×Nat))
 |[]=>some []
 |f::a=>match P.info? f.type,placesOf P a with
  |some i,some l=>some ((f.offset,i.size)::l)
  |_,_=>none
def DC (X:ji)(t:TypeId):Option aI :=
 match Ev.nI X.P t with
 |some z=>some (z.cells.toList.map Qs)
 |none=>none
def Qx (X:ji)(H:aH)(t:TypeId)(k:AV->aH->Option β):Option β :=
 match DC X t,X.P.underlying t with
 |some z,some (.array n te)=>match Qt X.P 40 te with
  |some e=>match wG e n z with
   |some l=>ah (Nat.ble n 2000000) (k (.FB H.next n) (H.push (.list t e l 0 true false))) none
   |none=>none
  |none=>none
 |_,_=>none
def Qy (X:ji)(t:TypeId)(parts:List (Nat×AV))(k:AV->Option β):Option β :=
 match DC X t,X.P.underlying t with
 |some z,some (.array _ e)=>match X.P.info? e with
  |some a=>match FE (λi=>some (i*a.size,a.size)) z parts with
   |some cs=>k (.agg cs)
   |none=>none
  |none=>none
 |some z,some (.struct b)=>match placesOf X.P b.toList with
  |some c=>match FE (λi=>c[i]?) z parts with
   |some cs=>k (.agg cs)
   |none=>none
  |none=>none
 |_,_=>none
def kG (H:aH):aI->Option (aI×aH)
 |[]=>some ([],H)
 |.own id _::r=>match H.get id with
  |some (.list t e l iL ex _)=>match kG (H.put id (.list t e l iL ex true)) r with
   |some (r',a)=>some (.eC e l::r',a)
   |none=>none
  |_=>none
 |.tc id off len _::r=>match H.get id with
  |some (.list t e l iL ex _)=>match kG (H.put id (.list t e l iL ex true)) r with
   |some (r',a)=>some (.eC e ((l.drop off).take len)::r',a)
   |none=>none
  |_=>none
 |v::r=>match kG H r with
  |some (r',a)=>some (v::r',a)
  |none=>none
def ahU (n:Nat)(cs:aI):aI:=Nat.rec (motive:=λ_=>aI) [] (λ_ r=>cs++r) n
def xX (X:ji)(H:aH)(t:TypeId)(len:Nat)(parts:List (Nat×AV))(k:AV->aH->Option β):Option β :=
 match X.P.underlying t with
 |some (.slice te)=>match Ev.dJ X.P te,DC X te,Qt X.P 40 te with
  |some s,some z,some e=>ah (Nat.ble (Nat.mul len s) 16777216&&Nat.ble len 2000000&&Nat.beq s e.size&&Nat.beq z.length s)
   (match FE (λi=>some (i*s,s)) (ahU len z) parts with
    |some cs=>match kG H cs with
     |some (a,b)=>match wG e len a with
      |some l=>k (.own b.next len) (b.push (.list te e l 0 X.rm false))
      |none=>none
     |none=>none
    |none=>none) none
  |_,_,_=>none
 |_=>none
def Af (X:ji)(H:aH)(t:TypeId)(len cap:AV)(k:AV->aH->Option β):Option β :=
 match X.P.underlying t,len,cap with
 |some (.slice te),.int _ l,.int _ c=>match X.P.info? te,DC X te,Qt X.P 40 te with
  |some a,some z,some e=>match Ae e z with
   |some (x,[])=>ah (Nat.ble a.bytes 2000000&&Nat.beq a.size e.size&&Nat.beq z.length a.size)
    (ah (!Ev.bN l 0 && !Ev.bN c l && !Ev.bN 2000000 c) (k (.tc H.next 0 l.toNat c.toNat) (H.push (.list te e (List.replicate c.toNat x) 0 true false))) none) none
   |_=>none
  |_,_,_=>none
 |_,_,_=>none
def Xm (H:aH)(te:TypeId)(e:Ty):AV->Option (List e.den×aH)
 |.eB=>some ([],H)
 |.own id _=>match H.get id with
  |some (.list a b l _ _ false)=>ah (H.o7 id&&Nat.beq a te) (match jl b e l with
   |some c=>some (c,H.put id .dead)
   |none=>none) none
  |_=>none
 |.tc id 0 len _=>match H.get id with
  |some (.list a b l _ true false)=>ah (H.o7 id&&Nat.beq a te) (match jl b e l with
   |some c=>some (c.take len,H.put id .dead)
   |none=>none) none
  |_=>none
 |_=>none
def Ks (X:ji)(H:aH)(st c:TypeId)(s x:AV)(k:AV->aH->Option β):Option β :=
 match X.P.underlying st,Ev.mP X.P c with
 |some (.slice te),true=>match X.P.info? te,Ev.nI X.P te,Qt X.P 40 te with
  |some a,some z,some e=>ah (Nat.beq a.size e.size && !(Nat.beq a.size 0) && !(Nat.beq a.bytes 0)&&Nat.ble a.bytes 100000&&Nat.beq z.cells.size a.size)
   (match DB H e x,Xm H te e s with
    |some new,some (old,b)=>ah (Nat.ble (old.length+new.length) 2000000) (k (.own b.next (old.length+new.length)) (b.push (.list te e (old++new) 0 false false))) none
    |_,_=>none) none
  |_,_,_=>none
 |_,_=>none
def Xn (X:ji)(H:aH)(dt:TypeId)(d x:AV)(k:AV->aH->Option β):Option β :=
 match X.P.underlying dt,d with
 |some (.slice te),.tc id off len _=>match H.get id,Ev.dJ X.P te with
  |some (.list t e l iL true false),some s=>ah (H.o7 id&&Nat.beq s e.size)
   (match DB H e x with
    |some new=>k (.int .i64 (Int.ofNat (Nat.min new.length len))) (H.put id (.list t e (nM l off (new.take (Nat.min new.length len))) (iL+1) true false))
    |none=>none) none
  |_,_=>none
 |_,_=>none
def ahV (op:BinOp)(k d:IntKind)(a b:Int)(c:AV->Option β):Option β :=
 match op with
 |.shl=>ah (Ev.bN b 0) none (c (.int k (k.wrap (a*2 ^ (min b.toNat k.bits)))))
 |.shr=>ah (Ev.bN b 0) none (c (.int k (a.fdiv (2 ^ (min b.toNat k.bits)))))
 |op=>ah (decide (k=d)) (match op with
  |.add=>c (.int k (k.wrap (a+b)))
  |.sub=>c (.int k (k.wrap (a-b)))
  |.mul=>c (.int k (k.wrap (a*b)))
  |.quo=>ah (Ev.bS b 0) none (c (.int k (k.wrap (a.tdiv b))))
  |.rem=>ah (Ev.bS b 0) none (c (.int k (a.tmod b)))
  |.and=>c (.int k (k.wrap (BitVec.ofInt k.bits a &&& BitVec.ofInt k.bits b).toNat))
  |.or=>c (.int k (k.wrap (BitVec.ofInt k.bits a ||| BitVec.ofInt k.bits b).toNat))
  |.xor=>c (.int k (k.wrap (BitVec.ofInt k.bits a ^^^ BitVec.ofInt k.bits b).toNat))
  |.andNot=>c (.int k (k.wrap (BitVec.ofInt k.bits a &&& ~~~(BitVec.ofInt k.bits b)).toNat))
  |.eql=>c (.bool (Ev.bS a b))
  |.neq=>c (.bool (!Ev.bS a b))
  |.lss=>c (.bool (Ev.bN a b))
  |.leq=>c (.bool (!Ev.bN b a))
  |.gtr=>c (.bool (Ev.bN b a))
  |.geq=>c (.bool (!Ev.bN a b))
  |_=>none) none
def ahW (op:BinOp)(a b:au)(c:AV->Option β):Option β :=
 match op with
 |.add=>ah (Nat.ble (a.length+b.length) 9223372036854775807) (c (.str (a++b))) none
 |.eql=>c (.bool (decide (a=b)))
 |.neq=>c (.bool (!decide (a=b)))
 |.lss=>c (.bool (Op.bytesLess a b))
 |.leq=>c (.bool (Op.bytesLess a b||decide (a=b)))
 |.gtr=>c (.bool (!(Op.bytesLess a b||decide (a=b))))
 |.geq=>c (.bool (!Op.bytesLess a b))
 |_=>none
def wH (P:Program):Nat->TypeId->gS
 |0,_=>none
 |d+1,t=>match P.underlying t with
  |some (.int _)=>some [0]
  |some .bool=>some [1]
  |some .string=>some [2]
  |some (.struct a)=>ah (P.stoodInHeld t) none (CF P d 0 a.toList)
  |_=>none
where CF (P:Program):Nat->Nat->List Field->gS
 |0,_,_=>none
 |_+1,_,[]=>some []
 |d+1,off,f::a=>match wH P d f.type,Ev.dJ P f.type with
  |some ks,some n=>ah (decide (f.name ≠ "_")&&Nat.beq f.offset off&&Nat.beq ks.length n)
   (match CF P d (off+n) a with
    |some b=>some (ks++b)
    |none=>none) none
  |_,_=>none
def eqK:Nat->AV->AV->Option Bool
 |0,.int k a,.int c b=>if k=c then some (decide (a=b)) else none
 |1,.bool a,.bool b=>some (a==b)
 |2,.str a,.str b=>some (decide (a=b))
 |_,_,_=>none
def vg:cY->aI->aI->Option Bool
 |[],[],[]=>some true
 |k::ks,x::l,y::m=>match eqK k x y with
  |some a=>match ks with
   |[]=>match l,m with
    |[],[]=>some a
    |_,_=>none
   |_::_=>match vg ks l m with
    |some b=>some (a&&b)
    |none=>none
  |none=>none
 |_,_,_=>none
def acD (X:ji)(op:BinOp)(t:TypeId)(x y:AV)(c:AV->Option β):Option β :=
 match x,y with
 |.int k a,.int d b=>ahV op k d a b c
 |.str a,.str b=>ahW op a b c
 |.bool a,.bool b=>match X.P.underlying t,op with
  |some .bool,.eql=>c (.bool (a==b))
  |some .bool,.neq=>c (.bool (!(a==b)))
  |_,_=>none
 |.agg l,.agg m=>ah (X.P.eqGuardType X.P.depth t) none (match X.P.underlying t,wH X.P 40 t with
  |some (.struct _),some ks=>match vg ks l m,op with
   |some b,.eql=>c (.bool b)
   |some b,.neq=>c (.bool (!b))
   |_,_=>none
  |_,_=>none)
 |.pU,.pU=>match X.P.underlying t,op with
  |some (.pointer _),.eql=>c (.bool true)
  |some (.pointer _),.neq=>c (.bool false)
  |_,_=>none
 |.ptr _ _,.pU=>match X.P.underlying t,op with
  |some (.pointer _),.eql=>c (.bool false)
  |some (.pointer _),.neq=>c (.bool true)
  |_,_=>none
 |.ptr i a,.ptr j b=>match X.P.underlying t,op with
  |some (.pointer e),.eql=>ah (Nat.beq i j&&Nat.beq a b&&(Ev.dJ X.P e).isSome) (c (.bool true)) none
  |some (.pointer e),.neq=>ah (Nat.beq i j&&Nat.beq a b&&(Ev.dJ X.P e).isSome) (c (.bool false)) none
  |_,_=>none
 |_,_=>none
def unT (op:UnOp)(x:AV)(c:AV->Option β):Option β :=
 match op,x with
 |.neg,.int k n=>c (.int k (k.wrap (0-n)))
 |.xor,.int k n=>c (.int k (k.wrap (BitVec.ofInt k.bits (if k.signed then -1 else k.max) ^^^ BitVec.ofInt k.bits n).toNat))
 |.not,.bool b=>c (.bool (!b))
 |_,_=>none
def FF (X:ji)(H:aH)(a dst:TypeId)(x:AV)(c:AV->aH->Option β):Option β :=
 match X.P.underlying a,X.P.underlying dst,x with
 |some (.int _),some (.int k),.int _ n=>c (.int k (k.wrap n)) H
 |some .string,some .string,.str s=>c (.str s) H
 |some .string,some (.slice te),.str s=>match X.P.underlying te,Ev.dJ X.P te with
  |some (.int .u8),some 1=>ah (Nat.ble s.length 2000000) (c (.own H.next s.length) (H.push (.list te (.int .u8) (s.map cS) 0 false false))) none
  |_,_=>none
 |some (.slice _),some .string,.str _=>none
 |some (.slice te),some .string,x=>match X.P.underlying te with
  |some (.int .u8)=>match DB H (.int .u8) x with
   |some l=>c (.str (l.map iU8)) H
   |none=>none
  |_=>none
 |some (.slice te),some (.slice _),.own id n=>match H.get id,X.P.underlying te with
  |some (.list _ _ _ _ _ _),some (.int .u8)=>ah (H.o7 id&&Nat.beq a dst&&Nat.ble 1 n) (c (.own id n) H) none
  |_,_=>none
 |some (.pointer t),some .unsafePointer,.ptr id 0=>match H.get id,Ev.dJ X.P t with
  |some (.cells _ (_::_)),some n=>ah (Nat.ble 1 n) (c (.ptr id 0) H) none
  |_,_=>none
 |some .unsafePointer,some (.pointer u),.ptr id 0=>match H.get id,Ev.dJ X.P u with
  |some (.cells t cs),some _=>ah (liesAt X.P X.P.depth t (cs.length/X.P.cellsOf t) 0 u 1) (c (.ptr id 0) H) none
  |_,_=>none
 |_,_,_=>none
def Xo (n:Int):Bool :=
 match n with
 |.ofNat m=>Nat.ble m 255
 |.negSucc _=>false
def Ai (H:aH)(x:AV)(c:AV->Option β):Option β :=
 match x with
 |.eB=>c .pU
 |.own id n=>match H.get id with
  |some (.list _ _ _ _ _ _)=>ah (Nat.ble 1 n) (c (.dat id)) none
  |_=>none
 |_=>none
def Xp (X:ji)(H:aH)(a:TypeId)(p n:AV)(c:AV->aH->Option β):Option β :=
 match p,n,X.P.underlying a with
 |.pU,.int .i64 m,_=>ah (Ev.bS m 0) (c (.str []) H) none
 |.dat id,.int .i64 m,some (.pointer e)=>match H.get id with
  |some (.list t (.int .u8) l _ _ false)=>ah (H.o7 id&&Nat.beq t e&&Nat.beq (X.P.cellsOf e) 1&&Nat.ble 1 l.length&&Nat.ble l.length 2000000&&Ev.bS m l.length&&l.all Xo) (c (.str (l.map iU8)) (H.put id .dead)) none
  |_=>none
 |_,_,_=>none
def ahY (X:ji)(t:TypeId)(x:AV)(c:AV->Option β):Option β :=
 match X.P.underlying t,x with
 |some (.slice _),.eC _ l=>c (.int .i64 l.length)
 |some (.slice _),.eB=>c (.int .i64 0)
 |some (.slice _),.own _ n=>c (.int .i64 n)
 |some (.slice _),.tc _ _ n _=>c (.int .i64 n)
 |some .string,.str s=>c (.int .i64 s.length)
 |_,_=>none
abbrev dz (β:Type):=FuncId->aI->aH->(AV->aH->Option β)->Option β
def uL (P:Program)(id:FuncId):Bool :=
 match P.funcs[id]? with
 |some fn=>fn.body.isSome
 |none=>false
def toV:AV->fS
 |.int k n=>some (.int k n)
 |.bool b=>some (.bool b)
 |.str s=>some (.string ⟨s.toArray⟩)
 |.rL n=>some (.float .f64 n)
 |.fn f [] []=>some (.func (.func f) #[] #[])
 |.BB v=>ah (Ev.br v) (some v) none
 |_=>none
def anr:AV->Bool
 |.rL _=>true
 |_=>false
def ahZ (P:Program)(d:TypeId):Bool :=
 match P.underlying d with
 |some (.float _)=>true
 |_=>false
def ofR:Value->AV
 |.tuple cs=>.gI (cs.toList.map Qs)
 |v=>ofV v
def SD:fS->Value
 |some v=>v
 |none=>undef
def D3 (X:ji)(ev:Operand->AV)(o:Oper)(k:AV->Option β):Option β :=
 ah (o.op.operands.toList.all λx=>(toV (ev x)).isSome)
  (match Ev.bQ X.P (execOp (λx=>SD (toV (ev x))) o) with
   |some (.value v)=>ah (Ev.br v) (k (ofR v)) none
   |_=>none) none
def Kt (P:Program)(id:FuncId):Bool :=
 match P.funcs[id]? with
 |some fn=>ah fn.body.isSome false (fn.name == "internal/abi.NoEscape" && fn.origin == "")
 |none=>false
def UG (P:Program)(t:TypeId):Bool :=
 match P.underlying t with
 |some (.map a e)=>match P.underlying a,P.underlying e,Ev.nI P e with
  |some .string,some (.int .i64),some (.int .i64 (.ofNat 0))=>true
  |_,_,_=>false
 |_=>false
def ju:List (au×Int)->au->Int
 |[],_=>0
 |q::l,s=>ah (decide (s=q.1)) q.2 (ju l s)
def sN:List (au×Int)->au->Bool
 |[],_=>false
 |q::l,s=>ah (decide (s=q.1)) true (sN l s)
def jv:List (au×Int)->au->Int->List (au×Int)
 |[],s,n=>[(s,n)]
 |q::l,s,n=>ah (decide (s=q.1)) ((q.1,n)::l) (q::jv l s n)
def DD (P:Program)(t:TypeId):Option (TypeDesc×Value) :=
 match P.underlying t with
 |some (.map a e)=>match P.underlying a,Ev.nI P e with
  |some d,some z=>ah (Ev.uH d&&(Ev.br z&&Ev.plainCell z)) (some (d,z)) none
  |_,_=>none
 |_=>none
def CG:TypeDesc->AV->Bool
 |.string,.str _=>true
 |.int k,.int a _=>decide (k=a)
 |_,_=>false
def IC:TypeDesc->AV->AV->Option Bool
 |.string,.str a,.str b=>some (decide (a=b))
 |.int k,.int c a,.int k2 b=>ah (decide (c=k)&&decide (c=k2)) (some (Ev.bS a b)) none
 |_,_,_=>none
def Xq (d:TypeDesc)(s:AV)(z:AV)(k:AV->Bool->Option β):List (AV×AV)->Option β
 |[]=>k z false
 |q::l=>match IC d s q.1 with
  |some b=>ah b (k q.2 true) (Xq d s z k l)
  |none=>none
def Xr (X:ji)(H:aH)(t:TypeId)(x q:AV)(ok:Bool)(k:AV->Option β):Option β :=
 match x with
 |.zN id=>match H.get id with
  |some (.mp a ks)=>match q with
   |.str s=>ah (UG X.P t&&Nat.beq a t) (ah ok (k (.gI [.int .i64 (ju ks s),.bool (sN ks s)])) (k (.int .i64 (ju ks s)))) none
   |_=>none
  |some (.mf a ks)=>match DD X.P t with
   |some (d,z)=>ah (Nat.beq a t&&ok&&CG d q) (Xq d q (.BB z) (λv b=>k (.gI [v,.bool b])) ks) none
   |none=>none
  |_=>none
 |_=>none
def Es (X:ji)(H:aH)(t:TypeId)(m q x:AV)(k:aH->Option β):Option β :=
 match m with
 |.zN id=>match H.get id with
  |some (.mp a ks)=>match q,x with
   |.str s,.int .i64 n=>ah (UG X.P t&&Nat.beq a t&&H.o7 id) (k (H.put id (.mp a (jv ks s n)))) none
   |_,_=>none
  |some (.mf a ks)=>match DD X.P t with
   |some (d,_)=>ah (Nat.beq a t&&H.o7 id&&tX x&&CG d q&&ks.all λp=>IC d q p.1==some false) (k (H.put id (.mf a (ks++[(q,x)])))) none
   |none=>none
  |_=>none
 |_=>none
def Ws (X:ji)(call:dz β)(tr:List Tmp)(ev:Operand->AV)(o:Oper)(H:aH)(k:AV->aH->Option β):Option β :=
 match o.op with
 |.move x=>k (ev x) H
 |.assign x=>k (ev x) H
 |.pick c a b=>match ev c with
  |.bool t=>ah t (k (ev a) H) (k (ev b) H)
  |_=>none
 |.binOp op t x y _=>ah (anr (ev x)) (D3 X ev o λv=>k v H) (acD X op t (ev x) (ev y) λv=>k v H)
 |.unOp op _ x=>unT op (ev x) λv=>k v H
 |.alloc t=>ah (X.ar t) (Qx X H t k) (match DC X t with
  |some z=>k (.ptr H.next 0) (H.push (.cells t z))
  |none=>none)
 |.box t x=>match Ev.dJ X.P t,FC (ev x) with
  |some _,some cs=>k (.ptr H.next 0) (H.push (.cells t cs))
  |_,_=>none
 |.build t ps=>Qy X t (xW ev ps) λv=>k v H
 |.buildSlice t len ps=>xX X H t len (xW ev ps) k
 |.load t a=>loadT X H t (ev a) λv=>k v H
 |.store t a x=>storeT X H t (ev a) (ev x) λe=>k .lG e
 |.nilCheck x=>match ev x with
  |.ptr id off=>k (.ptr id off) H
  |.FB id n=>k (.FB id n) H
  |.Ad cs=>k (.Ad cs) H
  |.fn f a b=>k (.fn f a b) H
  |_=>none
 |.fieldAddr s x f=>Qv X s (ev x) f λv=>k v H
 |.indexAddr t x ix=>ahT X H t (ev x) (ev ix) λv=>k v H
 |.extract x i=>match ev x with
  |.gI vs=>match vs[i]? with
   |some v=>k v H
   |none=>none
  |_=>none
 |.makeSlice t l c=>Af X H t (ev l) (ev c) k
 |.makeFunc (.func f) first captured=>k (.fn f (first.toList.map ev) (captured.toList.map ev)) H
 |.slice t x lo hi none=>match o.dst,lo,hi with
  |some d,none,some h=>ah (tr.any (Nat.beq d)) (Qw X H t (ev x) (ev h) k) (FD X H t (ev x) (lo.map ev) (hi.map ev) k)
  |_,_,_=>FD X H t (ev x) (lo.map ev) (hi.map ev) k
 |.field t x f=>match X.P.underlying t,ev x with
  |some (.struct r),.agg cs=>match r[f]? with
   |some g=>tY X g.type (cs.drop g.offset) λv=>k v H
   |none=>none
  |_,_=>none
 |.index t x ix=>match X.P.underlying t,ev x,ev ix with
  |some .string,.str s,.int _ i=>Option.rec (motive:=λ_=>Option β) none (λc=>k (.int .u8 (cS c)) H) (eL s i)
  |some (.array n te),.agg cs,.int _ i=>match Ev.dJ X.P te with
   |some s=>Qu i (λj=>tY X te (cs.drop (Nat.mul j s)) λv=>k v H) n 0
   |none=>none
  |_,_,_=>none
 |.convert s d x=>ah (ahZ X.P d) (D3 X ev o λv=>k v H) (FF X H s d (ev x) k)
 |.call c=>match c.callee with
  |.value f=>match ev f with
   |.fn id a b=>ah (uL X.P id) (call id (a++(c.args.toList.map ev++b)) H k)
    (ah (Kt X.P id)
     (match a,b,c.args.toList with
      |[],[],[x]=>k (ev x) H
      |_,_,_=>none)
     (D3 X ev o λv=>k v H))
   |_=>none
  |.builtin .len=>match c.args[0]?,c.argTypes[0]? with
   |some x,some t=>ahY X t (ev x) λv=>k v H
   |_,_=>none
  |.builtin .append=>match c.args[0]?,c.args[1]?,c.argTypes[0]?,c.argTypes[1]? with
   |some s,some x,some st,some u=>Ks X H st u (ev s) (ev x) k
   |_,_,_,_=>none
  |.builtin .copy=>match c.args[0]?,c.args[1]?,c.argTypes[0]? with
   |some d,some x,some dt=>Xn X H dt (ev d) (ev x) k
   |_,_,_=>none
  |.builtin .unsafeSliceData=>match c.args.toList with
   |[x]=>Ai H (ev x) λv=>k v H
   |_=>none
  |.builtin .unsafeString=>match c.args.toList,c.argTypes.toList with
   |[p,n],[w,_]=>Xp X H w (ev p) (ev n) k
   |_,_=>none
  |.builtin .max=>match c.args.toList with
   |[x,y]=>match ev x,ev y with
    |.int A a,.int _ b=>k (.int A (ah (Ev.bN a b) b a)) H
    |_,_=>none
   |_=>none
  |.builtin .cap=>match c.args[0]?,c.argTypes[0]? with
   |some x,some t=>match X.P.underlying t,ev x with
    |some (.slice _),.tc id off len cap=>match H.get id with
     |some (.list _ _ _ _ true _)=>k (.int .i64 cap) H
     |_=>none
    |some (.slice _),.own id n=>match H.get id with
     |some (.list _ _ _ _ true _)=>k (.int .i64 n) H
     |_=>none
    |some (.slice _),.eB=>k (.int .i64 0) H
    |_,_=>none
   |_,_=>none
  |.builtin .complex=>D3 X ev o λv=>k v H
  |.builtin .real=>D3 X ev o λv=>k v H
  |.builtin .imag=>D3 X ev o λv=>k v H
  |_=>none
 |.makeMap t none=>ah (UG X.P t) (k (.zN H.next) (H.push (.mp t []))) (ah (DD X.P t).isSome (k (.zN H.next) (H.push (.mf t []))) none)
 |.lookup t x q ok=>Xr X H t (ev x) (ev q) ok λv=>k v H
 |.mapUpdate t m q x=>Es X H t (ev m) (ev q) (ev x) λe=>k .lG e
 |.insert t m q x=>Es X H t (ev m) (ev q) (ev x) λe=>k .lG e
 |_=>none
def Qz (ops:List Oper)(j:Nat):Option Tmp :=
 match ops[j]? with
 |some o=>o.dst
 |none=>none
def stepT (X:ji)(call:dz β)(tr:List Tmp)(ops:List Oper)(o:Oper)(f:gJ)(H:aH)(k:gJ->aH->Option β):Option β :=
 match o.guard with
 |none=>Ws X call tr (f.eval X) o H λv a=>k (f.put o.dst v) a
 |some (j,want)=>match Qz ops j with
  |some d=>match f.get d with
   |.bool b=>ah b
    (ah want (Ws X call tr ((f.put (some d) (.bool true)).eval X) o H λv a=>k ((f.put (some d) (.bool true)).put o.dst v) a) (k ((f.put (some d) (.bool true)).put o.dst (.gI [])) H))
    (ah want (k ((f.put (some d) (.bool false)).put o.dst (.gI [])) H) (Ws X call tr ((f.put (some d) (.bool false)).eval X) o H λv a=>k ((f.put (some d) (.bool false)).put o.dst v) a))
   |.gI _=>k (f.put o.dst (.gI [])) H
   |_=>none
  |none=>none
def toF:AV->Option cu
 |.rL n=>some (some n)
 |.fl a=>some a
 |_=>none
def PM:AV->Option (cu×cu)
 |.BB (.complex .f64 a b)=>some (some a,some b)
 |.cx a b=>some (a,b)
 |_=>none
def acE (P:Program)(id:FuncId):Bool :=
 match P.funcs[id]? with
 |some fn=>ah fn.body.isSome false (fn.name == "math.Float64bits" && fn.origin == "")
 |none=>false
def SE (op:BinOp)(x y:AV):bx :=
 match toF x,toF y with
 |some a,some b=>match op with
  |.add=>some (.fl (Ev.PV .add a b))
  |.sub=>some (.fl (Ev.PV .sub a b))
  |.mul=>some (.fl (Ev.PV .mul a b))
  |.neq=>match a,b with
   |some _,some _=>none
   |_,_=>some (.bool true)
  |_=>none
 |_,_=>none
def ah0 (X:ji)(ev:Operand->AV)(o:Oper):bx :=
 ah X.fl (match o.op with
 |.binOp op _ x y _=>SE op (ev x) (ev y)
 |.call c=>match c.callee,c.args.toList.map ev with
  |.builtin .complex,[x,y]=>match toF x,toF y with
   |some a,some b=>some (.cx a b)
   |_,_=>none
  |.builtin .real,[x]=>match PM x with
   |some q=>some (.fl q.1)
   |none=>none
  |.builtin .imag,[x]=>match PM x with
   |some q=>some (.fl q.2)
   |none=>none
  |.value f,[x]=>match ev f with
   |.fn id [] []=>ah (acE X.P id) (match x with
    |.fl none=>some .lG
    |_=>none) none
   |_=>none
  |_,_=>none
 |_=>none) none
def Ku (X:ji)(call:dz β)(tr:List Tmp)(ops:List Oper)(o:Oper)(f:gJ)(H:aH)(k:gJ->aH->Option β):Option β :=
 match ah0 X (f.eval X) o,o.guard with
 |some v,none=>k (f.put o.dst v) H
 |_,_=>stepT X call tr ops o f H k
def ah1 (X:ji)(call:dz β)(tr:List Tmp)(ops:List Oper)(l:List Oper)(k:gJ->aH->Option β):gJ->aH->Option β :=
 List.rec (motive:=λ_=>gJ->aH->Option β) k (λo _ go f H=>Ku X call tr ops o f H go) l
def Kv (ev:Operand->AV)(o:Oper)(R:gS):gS :=
 match o.op with
 |.load _ x=>match R,ev x with
  |some l,.ptr id _=>some (id::l)
  |some l,.Er id _ _ _ _=>some (id::l)
  |some l,.Ad _=>some l
  |_,_=>none
 |op=>ah (Ev.mD op) none R
def CH (H:aH)(R:gS)(s:AV):Bool :=
 match s,R with
 |.eB,_=>true
 |.own id _,some l=>(match H.get id with|some (.list _ _ _ _ _ false)=>true|_=>false)&&l.all λj => !Nat.beq j id&&(H.get j).isSome
 |.tc id _ _ _,some l=>(match H.get id with|some (.list _ _ _ _ _ false)=>true|_=>false)&&l.all λj => !Nat.beq j id&&(H.get j).isSome
 |.ptr id _,some l=>(match H.get id with|some (.cells _ _)=>true|_=>false)&&l.all λj => !Nat.beq j id&&(H.get j).isSome
 |_,_=>false
def sy (H:aH)(R:gS)(ev:Operand->AV)(o:Oper):Bool :=
 match Ev.nV o.op with
 |some s=>CH H R (ev s)
 |none=>false
def Kw (X:ji)(call:dz β)(tr:List Tmp)(ops:List Oper)(R:gS)(lk:Bool)(o:Oper)(f:gJ)(H:aH)(k:gJ->aH->Option β):Option β :=
 ah lk
  (match Ev.mb o.op with
   |some s=>ah (CH H R (f.eval X s)) (stepT X call tr ops o f H k) none
   |none=>ah (sy H R (f.eval X) o) (stepT X call tr ops o f H k) (stepT X call tr ops o f { H with lk:=H.next } λa b=>k a { b with lk:=H.lk }))
  (stepT X call tr ops o f H k)
def acF (X:ji)(call:dz β)(tr:List Tmp)(ops:List Oper)(l:List (Oper×Bool))(k:gJ->aH->Option β):gS->gJ->aH->Option β :=
 List.rec (motive:=λ_=>gS->gJ->aH->Option β) (λ_=>k) (λq _ go R f H=>Kw X call tr ops R q.2 q.1 f H (go (Kv (f.eval X) q.1 R))) l
def BC (X:ji)(call:dz β)(tr:List Tmp)(ops:Array Oper)(draw:Bool)(f:gJ)(H:aH)(k:gJ->aH->Option β):Option β :=
 ah (Ev.WA X.G ops.toList)
  (ah draw
   (Option.rec (motive:=λ_=>Option β) none (λl=>acF X call tr ops.toList l k (some []) f H) (Ev.plan X.P ops))
   (ah1 X call tr ops.toList ops.toList k f H))
  none
inductive oz where
 |none
 |node (keep:Option (List Tmp)) (a b:oz)
def oz.keep:oz->Option (List Tmp)
 |.none=>Option.none
 |.node k _ _=>k
def oz.l:oz->oz
 |.none=>.none
 |.node _ a _=>a
def oz.r:oz->oz
 |.none=>.none
 |.node _ _ b=>b
def placeOf (id:Nat):cY->Nat->cu
 |[],_=>none
 |x::l,n=>ah (Nat.beq x id) (some n) (placeOf id l (n+1))
mutual
def nN (ids:cY):AV->AV
 |.own id n=>match placeOf id ids 0 with
  |some i=>.own i n
  |none=>.lG
 |.tc id a b c=>match placeOf id ids 0 with
  |some i=>.tc i a b c
  |none=>.lG
 |.ptr id off=>match placeOf id ids 0 with
  |some i=>.ptr i off
  |none=>.lG
 |.FB id n=>match placeOf id ids 0 with
  |some i=>.FB i n
  |none=>.lG
 |.zN id=>match placeOf id ids 0 with
  |some i=>.zN i
  |none=>.lG
 |.Er _ _ _ _ _=>.lG
 |.dat _=>.lG
 |.fn f a b=>.fn f (zu ids a) (zu ids b)
 |.agg l=>.agg (zu ids l)
 |.gI l=>.gI (zu ids l)
 |.int k n=>.int k n
 |.bool b=>.bool b
 |.str s=>.str s
 |.rL n=>.rL n
 |.eC e l=>.eC e l
 |.eB=>.eB
 |.Ad cs=>.Ad (zu ids cs)
 |.pU=>.pU
 |.BB v=>.BB v
 |.fl a=>.fl a
 |.cx a b=>.cx a b
 |.lG=>.lG
def zu (ids:cY):aI->aI
 |[]=>[]
 |v::l=>nN ids v::zu ids l
end
def Kx (ids:cY):Row->Row
 |.dead=>.dead
 |.cells t cs=>.cells t (zu ids cs)
 |.list t e l _ ex a=>.list t e l 0 ex a
 |.mp t ks=>.mp t ks
 |.mf t ks=>.mf t (ks.map λq=>(nN ids q.1,nN ids q.2))
def Xs (a:cY):AV->cY
 |.own id _=>ah (a.any (Nat.beq id)) a (a++[id])
 |.tc id _ _ _=>ah (a.any (Nat.beq id)) a (a++[id])
 |.ptr id _=>ah (a.any (Nat.beq id)) a (a++[id])
 |.FB id _=>ah (a.any (Nat.beq id)) a (a++[id])
 |.zN id=>ah (a.any (Nat.beq id)) a (a++[id])
 |_=>a
def Nc (c:cY):AV->cY
 |.fn _ a b=>b.foldl Xs (a.foldl Xs c)
 |v=>Xs c v
def Ky (H:aH)(a:cY)(id:Nat):cY :=
 match H.get id with
 |some (.cells _ cs)=>cs.foldl Nc a
 |_=>a
def xY (H:aH):Nat->cY->cY
 |0,ids=>ids
 |n+1,ids=>xY H n (ids.foldl (Ky H) ids)
def nodupB:cY->Bool
 |[]=>true
 |x::l => !l.any (Nat.beq x)&&nodupB l
def td (H:aH)(ids:cY)(id:Nat):Row :=
 match H.get id with
 |some r=>Kx ids r
 |none=>.dead
def Xt (keep:List Tmp)(f:gJ)(H:aH)(k:gJ->aH->Option β):Option β :=
 let roots:=keep.foldl (λa t=>Nc a (f.get t)) (List.range H.par)
 let ids:=xY H 3 roots
 ah (nodupB ids&&(ids.take H.par==List.range H.par)&&Nat.beq H.lk 0)
  (k (keep.foldl (λg t=>g.put (some t) (nN ids (f.get t))) ⟨f.n,.e⟩)
   (ids.foldl (λM id=>M.push (td H ids id)) ⟨0,0,H.par,.e⟩)) none
def D4 (a:oz)(f:gJ)(H:aH)(k:gJ->aH->Option β):Option β :=
 match a.keep with
 |none=>k f H
 |some l=>Xt l f H k
abbrev KT (β:Type):=jx->gJ->aH->Option β
def Aj (y:gJ->aH->Option β)(k:KT β):KT β:=λa f H =>
 match a with
 |.normal=>y f H
 |.exit id=>k (.exit id) f H
 |.ret=>k .ret f H
 |.goto l=>k (.goto l) f H
def FG (id:Nat)(k:KT β):KT β:=λb f H =>
 match b with
 |.exit a=>ah (Nat.beq a id) (k .normal f H) (k (.exit a) f H)
 |.normal=>k .normal f H
 |.ret=>k .ret f H
 |.goto l=>k (.goto l) f H
def SF (a:oz)(body:gJ->aH->KT β->Option β)(k:KT β)(n:Nat):gJ->aH->Option β :=
 Nat.rec (motive:=λ_=>gJ->aH->Option β) (λ_ _=>none) (λ_ go f H=>body f H (Aj (λf H=>D4 a f H go) k)) n
abbrev uM (β:Type):=Code->Code->gJ->aH->KT β->Option β
def CI (c:Code)(J:uM β)(k:KT β):KT β:=λa f H =>
 match a with
 |.goto l=>match findLabel c l with
  |some rest=>J c rest f H k
  |none=>k (.goto l) f H
 |.normal=>k .normal f H
 |.exit id=>k (.exit id) f H
 |.ret=>k .ret f H
def Et (a:oz)(p:Tmp)(x y:gJ->aH->KT β->Option β)(k:KT β)(l:aI):gJ->aH->Option β :=
 List.rec (motive:=λ_=>gJ->aH->Option β) (λf H=>k .normal f H)
  (λv _ go f H=>match v with
   |.str s=>x (f.put (some p) (.str s)) H λb d e=>match b with
    |.normal=>y d e λb _ c=>match b with
     |.normal=>D4 a f c go
     |.ret=>k .ret f c
     |_=>none
    |_=>none
   |_=>none) l
def Kz (X:ji)(call:dz β)(g:Operand)(ps:List Tmp)(plain:Bool)(a:oz)(x y:gJ->aH->KT β->Option β)(f:gJ)(H:aH)(k:KT β):Option β :=
 ah (Ev.eU X.G g&&plain) (match ps,f.eval X g with
  |[p],.fn b [] [.ptr id 0]=>match X.P.funcs[Ev.sL b]? with
   |none=>call (Ev.sL b) [.ptr id 0] H λv c=>match v with
    |.gI (_::l)=>Et a p x y k l f c
    |_=>none
   |some _=>none
  |_,_=>none) none
def jm (X:ji)(call:dz β)(tr:List Tmp)(J:uM β)(rounds:Nat)(c:Code):oz->gJ->aH->KT β->Option β :=
 Code.rec (motive:=λ_=>oz->gJ->aH->KT β->Option β)
  (λ_ f H k=>k .normal f H)
  (λ_ ops draw a f H k=>D4 a f H λf H=>BC X call tr ops draw f H λf H=>k .normal f H)
  (λ_ _ x y a f H k=>D4 a f H λf H=>x a.l f H (Aj (λf H=>y a.r f H k) k))
  (λc _ _ x y a f H k=>D4 a f H λf H=>ah (Ev.eU X.G c) (match f.eval X c with
   |.bool b=>ah b (x a.l f H k) (y a.r f H k)
   |_=>none) none)
  (λid _ b a f H k=>D4 a f H λf H=>b a.l f H (FG id k))
  (λ_ b a f H k=>D4 a f H (SF a (λf H k=>b a.l f H k) k rounds))
  (λg ps d e x y a f H k=>D4 a f H λf H=>Kz X call g ps.toList (Ev.pM d&&Ev.pM e) a (x .none) (y .none) f H k)
  (λid _ f H k=>k (.exit id) f H)
  (λc b a f H k=>D4 a f H λf H=>b a.l f H (CI c J k))
  (λ_ _ f H k=>k .normal f H)
  (λl _ f H k=>k (.goto l) f H)
  (λ_ f H k=>k .ret f H)
  (λ_ _ _ _ _=>none) c
def QA (X:ji)(call:dz β)(tr:List Tmp)(ja:oz)(rounds:Nat)(n:Nat):uM β :=
 Nat.rec (motive:=λ_=>uM β) (λ_ _ _ _ _=>none)
  (λ_ go c rest f H k=>jm X call tr (λc rest f H k=>D4 ja f H λf H=>go c rest f H k) rounds rest ja.l f H (CI c (λc rest f H k=>D4 ja f H λf H=>go c rest f H k) k)) n
def qY (X:ji)(call:dz β)(tr:List Tmp)(ja:oz)(rounds:Nat)(n:Nat):uM β :=
 λc rest f H k=>D4 ja f H λf H=>QA X call tr ja rounds n c rest f H k
def KA (X:ji)(H:aH)(f:gJ)(r:ResultVar)(k:AV->Option β):Option β :=
 match r with
 |.tmp t=>k (f.get t)
 |.cell x t=>loadT X H t (f.get x) k
def xZ (X:ji)(H:aH)(f:gJ)(k:aI->Option β):List ResultVar->Option β
 |[]=>k []
 |r::l=>KA X H f r λv=>xZ X H f (λvs=>k (v::vs)) l
def tf:aI->AV
 |[v]=>v
 |l=>.gI l
def r8 (X:ji)(fn:Func)(k:AV->aH->Option β):KT β:=λa f H =>
 match a with
 |.normal=>xZ X H f (λvs=>k (tf vs) H) fn.results.toList
 |.ret=>xZ X H f (λvs=>k (tf vs) H) fn.results.toList
 |_=>none
structure fe where
 KB:oz
 ja:oz
 tr:List Tmp
def aT (X:ji)(call:dz β)(an:fe)(rounds:Nat)(id:FuncId)(args:aI)(H:aH)(k:AV->aH->Option β):Option β :=
 match X.P.funcs[id]? with
 |some fn=>match fn.body with
  |some c=>ah (Nat.ble args.length fn.ntmps)
   (jm X call an.tr (qY X call an.tr an.ja rounds rounds) rounds c an.KB ((gJ.mk fn.ntmps .e).fill 0 args) H (r8 X fn k)) none
  |none=>none
 |none=>none
end
end
end Go.Tv
namespace Go.Tv
open Go.Ev (Tr ah jx Mem kV alive ay)
structure Wo where
 F:Nat->Option aW
 ρ:Nat->Option (Nat×Nat×Nat)
 Γ:Nat->Nat->Option (Sigma λe:Ty=>List e.den)
structure Wo.le (S T:Wo):Prop where
 F:∀i x,S.F i=some x->T.F i=some x
 ρ:∀i x,S.ρ i=some x->T.ρ i=some x
 Γ:∀i v x,S.Γ i v=some x->T.Γ i v=some x
 -- a row that has none keeps none,so awa as it is told of
theorem Wo.le_refl (S:Wo):S.le S:=⟨λ_ _ h=>h,λ_ _ h=>h,λ_ _ _ h=>h⟩
theorem Wo.le_trans {a b c:Wo}(h:a.le b)(k:b.le c):a.le c:=⟨λi x d=>k.F i x (h.F i x d),λi x d=>k.ρ i x (h.ρ i x d),λi v x d=>k.Γ i v x (h.Γ i v x d)⟩
def ow {α:Type}(R:α->aW->Prop):List α->aW->Prop
 |[],cs=>cs=[]
 |x::l,cs=>∃c1 c2,cs=c1++c2/\R x c1/\ow R l c2
def SR {α:Type}(R:α->aW->Prop)(F:Nat->Option aW)(l:List α)(v:Value):Prop :=
 (l=[]/\(v = .slice none 0 0\/v=Ev.vd))\/∃i pre mid post cap,v = .slice (some ⟨i,pre.length,none⟩) l.length cap/\F i=some (pre++(mid++post))/\ow R l mid/\l.length<=cap
def CR (F:Nat->Option aW):(e:Ty)->e.den->aW->Prop
 |.int k,n,cs=>cs=[.int k n]
 |.bool,b,cs=>cs=[.bool b]
 |.str,s,cs=>cs=[.string ⟨s.toArray⟩]
 |.rL,n,cs=>cs=[.float .f64 n]
 |.unit,_,cs=>cs=[]
 |.sl e,l,cs=>∃v,cs=[v]/\SR (CR F e) F l v
 |.pair a b,x,cs=>∃c1 c2,cs=c1++c2/\CR F a x.1 c1/\CR F b x.2 c2
theorem ow.mono {α:Type}{R a:α->aW->Prop}(h:∀x c,R x c->a x c):∀{l:List α} {cs:aW},ow R l cs->ow a l cs
 |[],_,b=>b
 |_::_,_,⟨c1,c2,e,d,f⟩=>⟨c1,c2,e,h _ _ d,f.mono h⟩
theorem CR.mono {F j:Nat->Option aW}(d:∀i x,F i=some x->j i=some x):∀(e:Ty) (x:e.den) (cs:aW),CR F e x cs->CR j e x cs
 |.int _,_,_,h=>h
 |.bool,_,_,h=>h
 |.str,_,_,h=>h
 |.rL,_,_,h=>h
 |.unit,_,_,h=>h
 |.sl e,l,cs,⟨v,k,h⟩=>⟨v,k,by
  rcases h with h|⟨i,pre,mid,post,cap,f,g,m,n⟩
  .exact .inl h
  exact .inr ⟨i,pre,mid,post,cap,f,d _ _ g,m.mono λx c=>CR.mono d e x c,n⟩⟩
 |.pair a b,_,_,⟨c1,c2,e,f,g⟩=>⟨c1,c2,e,CR.mono d a _ _ f,CR.mono d b _ _ g⟩
theorem SR.mono {F a:Nat->Option aW}(b:∀i x,F i=some x->a i=some x){e:Ty}{l:List e.den}{v:Value}(h:SR (CR F e) F l v):SR (CR a e) a l v:=by
 rcases h with h|⟨i,pre,mid,post,cap,d,f,g,j⟩
 .exact .inl h
 exact .inr ⟨i,pre,mid,post,cap,d,b _ _ f,g.mono λx c=>CR.mono b e x c,j⟩
theorem CR.length {F:Nat->Option aW}:∀(e:Ty) (x:e.den) (cs:aW),CR F e x cs->cs.length=e.size
 |.int _,_,_,h=>by rw[h];rfl
 |.bool,_,_,h=>by rw[h];rfl
 |.str,_,_,h=>by rw[h];rfl
 |.rL,_,_,h=>by rw[h];rfl
 |.unit,_,_,h=>by rw[h];rfl
 |.sl _,_,_,⟨v,h,_⟩=>by rw[h];rfl
 |.pair a b,_,_,⟨c1,c2,e,c,d⟩=>by rw[e,aA,CR.length a _ _ c,CR.length b _ _ d];rfl
theorem ow.length {α:Type}{R:α->aW->Prop}{s:Nat}(a:∀x c,R x c->c.length=s):∀{l:List α} {cs:aW},ow R l cs->cs.length=l.length*s
 |[],_,h=>by rw[h];simp
 |x::l,_,⟨c1,c2,e,b,d⟩=>by rw[e,aA,a _ _ b,d.length a,aJ,qh,nD]
theorem ow.append {α:Type}{R:α->aW->Prop}:∀{l m:List α} {cs ds:aW},ow R l cs->ow R m ds->ow R (l++m) (cs++ds)
 |[],_,_,_,h,k=>by rw[h];simpa using k
 |x::l,m,_,ds,⟨c1,c2,e,a,b⟩,k=>⟨c1,c2++ds,by rw[e];simp,a,b.append k⟩
theorem ow.get {α:Type}{R:α->aW->Prop}{s:Nat}(g:∀x c,R x c->c.length=s):∀{l:List α} {cs:aW} {j:Nat} {x:α},ow R l cs->l[j]? = some x->∃a c b,cs=a++(c++b)/\a.length=j*s/\R x c/\ow R (l.take j) a/\ow R (l.drop (j+1)) b
 |[],_,_,_,_,h=>by simp at h
 |y::l,_,0,x,⟨c1,c2,e,d,f⟩,h=>by
  simp at h;subst h;exact⟨[],c1,c2,by simpa using e,by simp,d,rfl,by simpa using f⟩
 |y::l,_,j+1,x,⟨c1,c2,e,d,f⟩,h=>by
  obtain⟨a,c,b,i,e2,k,m,n⟩:=f.get g (j:=j) (x:=x) (by simpa using h);exact⟨c1++a,c,b,by rw[e,i];simp,by rw[aA,e2,g _ _ d,qh,nD],k,⟨c1,a,rfl,d,m⟩,by simpa using n⟩
theorem ow.split {α:Type}{R:α->aW->Prop}{s:Nat}(d:∀x c,R x c->c.length=s):∀{l:List α} {cs:aW} (j:Nat),ow R l cs->∃a b,cs=a++b/\ow R (l.take j) a/\ow R (l.drop j) b
 |l,cs,0,h=>⟨[],cs,by simp,by simp[ow],by simpa using h⟩
 |[],cs,j+1,h=>⟨[],[],by rw[show cs=[] from h];rfl,by simp[ow],by simp[ow]⟩
 |x::l,_,j+1,⟨c1,c2,e,f,g⟩=>by
  obtain⟨a,b,i,e2,k⟩:=g.split d j;exact⟨c1++a,b,by rw[e,i];simp,⟨c1,a,rfl,f,e2⟩,by simpa using k⟩
inductive VR (S:Wo):AV->Value->Prop where
 |int (k n):VR S (.int k n) (.int k n)
 |bool (b):VR S (.bool b) (.bool b)
 |str (s):VR S (.str s) (.string ⟨s.toArray⟩)
 |rL (n):VR S (.rL n) (.float .f64 n)
 |eC (e l v) (h:SR (CR S.F e) S.F l v):VR S (.eC e l) v
 |eB:VR S .eB (.slice none 0 0)
 |own (id n i cap s) (h:S.ρ id=some (i,cap,s)) (g) (hg:S.Γ id 0=some g) (hn:g.2.length=n):VR S (.own id n) (.slice (some ⟨i,0,none⟩) n cap)
 |iw (id g) (hg:S.Γ id 0=some g) (hn:g.2.length=0):VR S (.own id 0) (.slice none 0 0)
 |tc (id off len cap i c s) (h:S.ρ id=some (i,c,s)) (g) (hg:S.Γ id 0=some g) (hc:off+cap=g.2.length) (hl:len<=cap):VR S (.tc id off len cap) (.slice (some ⟨i,off*s,none⟩) len cap)
 |ptr (id off i c s) (h:S.ρ id=some (i,c,s)):VR S (.ptr id off) (.pointer (some ⟨i,off,none⟩))
 |Er (id j fo iL cur i c) (e:Ty) (l:List e.den) (y:e.den) (h:S.ρ id=some (i,c,e.size)) (hg:S.Γ id iL=some ⟨e,l⟩) (hy:l[j]? = some y) (hc:cur=flat e y):VR S (.Er id j fo iL cur) (.pointer (some ⟨i,j*e.size+fo,none⟩))
 |FB (id n i c s) (h:S.ρ id=some (i,c,s)) (g) (hg:S.Γ id 0=some g) (hn:g.2.length=n):VR S (.FB id n) (.pointer (some ⟨i,0,none⟩))
 |zN (id i c s) (h:S.ρ id=some (i,c,s)):VR S (.zN id) (.map (some i))
 |dat (id i c s) (h:S.ρ id=some (i,c,s)):VR S (.dat id) (.pointer (some ⟨i,0,none⟩))
 |Ad (cs:aI) (i) (pre mid post:aW) (h:S.F i=some (pre++(mid++post))) (hl:cs.length=mid.length) (hc:∀(j:Nat) x y,cs[j]? = some x->mid[j]? = some y->VR S x y):VR S (.Ad cs) (.pointer (some ⟨i,pre.length,none⟩))
 |pU:VR S .pU (.pointer none)
 |fn (f) (a b:aI) (a' b':aW) (ha:a.length=a'.length) (hb:b.length=b'.length) (va:∀(j:Nat) x y,a[j]? = some x->a'[j]? = some y->VR S x y) (vb:∀(j:Nat) x y,b[j]? = some x->b'[j]? = some y->VR S x y):VR S (.fn f a b) (.func (.func f) a'.toArray b'.toArray)
 |agg (l:aI) (m:aW) (hl:l.length=m.length) (hv:∀(j:Nat) x y,l[j]? = some x->m[j]? = some y->VR S x y):VR S (.agg l) (.agg m.toArray)
 |gI (l:aI) (m:aW) (hl:l.length=m.length) (hv:∀(j:Nat) x y,l[j]? = some x->m[j]? = some y->VR S x y):VR S (.gI l) (.tuple m.toArray)
 |BB (v) (h:Ev.br v=true):VR S (.BB v) v
 |fl (a v) (h:v=Ev.PU a):VR S (.fl a) v
 |cx (a b v) (h:v=Ev.cxV a b):VR S (.cx a b) v
 |lG (v):VR S .lG v
theorem VR.gW {S:Wo}{k:IntKind}{n:Int}{v:Value}(h:VR S (.int k n) v):v = .int k n:=by cases h;rfl
theorem VR.nO {S:Wo}{b:Bool}{v:Value}(h:VR S (.bool b) v):v = .bool b:=by cases h;rfl
theorem VR.kH {S:Wo}{s:au}{v:Value}(h:VR S (.str s) v):v = .string ⟨s.toArray⟩:=by cases h;rfl
def LV (S:Wo)(l:aI)(m:aW):Prop:=l.length=m.length/\∀(j:Nat) x y,l[j]? = some x->m[j]? = some y->VR S x y
theorem VR.mono {S T:Wo}(d:S.le T){v:AV}{x:Value}(h:VR S v x):VR T v x:=by
 induction h with
 |int=>exact .int _ _
 |bool=>exact .bool _
 |str=>exact .str _
 |rL=>exact .rL _
 |eC e l v h=>exact .eC e l v (h.mono d.F)
 |eB=>exact .eB
 |own id n i cap s h g k p=>exact .own id n i cap s (d.ρ _ _ h) g (d.Γ _ _ _ k) p
 |iw id g k p=>exact .iw id g (d.Γ _ _ _ k) p
 |tc id off len cap i c s h g k r o=>exact .tc id off len cap i c s (d.ρ _ _ h) g (d.Γ _ _ _ k) r o
 |ptr id off i c s h=>exact .ptr id off i c s (d.ρ _ _ h)
 |Er id j u iL t i c e l y h k hy r=>exact .Er id j u iL t i c e l y (d.ρ _ _ h) (d.Γ _ _ _ k) hy r
 |FB id n i c s h g k p=>exact .FB id n i c s (d.ρ _ _ h) g (d.Γ _ _ _ k) p
 |zN id i c s h=>exact .zN id i c s (d.ρ _ _ h)
 |dat id i c s h=>exact .dat id i c s (d.ρ _ _ h)
 |Ad cs i pre mid post h o _ q=>exact .Ad cs i pre mid post (d.F _ _ h) o q
 |pU=>exact .pU
 |fn f a b w z A B _ _ C D=>exact .fn f a b w z A B C D
 |agg l m o _ q=>exact .agg l m o q
 |gI l m o _ q=>exact .gI l m o q
 |BB v h=>exact .BB v h
 |fl a v h=>exact .fl a v h
 |cx a b v h=>exact .cx a b v h
 |lG v=>exact .lG v
theorem LV.mono {S T:Wo}(a:S.le T){l:aI}{m:aW}(h:LV S l m):LV T l m:=⟨h.1,λj x y b hy=>(h.2 j x y b hy).mono a⟩
theorem LV.nil {S:Wo}:LV S [] []:=⟨rfl,λj x y a=>by simp at a⟩
theorem LV.cons {S:Wo}{v:AV}{x:Value}{l:aI}{m:aW}(h:VR S v x)(k:LV S l m):LV S (v::l) (x::m) :=
 ⟨by simp[k.1],λj a b c d=>by
  cases j with
  |zero=>simp at c d;subst c;subst d;exact h
  |succ j=>exact k.2 j a b (by simpa using c) (by simpa using d)⟩
theorem LV.kI {S:Wo}{m:aW}(h:LV S [] m):m=[]:=by
 have:=h.1;simp at this;exact aS.1 this.symm
theorem LV.cons_inv {S:Wo}{v:AV}{l:aI}{m:aW}(h:LV S (v::l) m):∃x c,m=x::c/\VR S v x/\LV S l c:=by
 cases m with
 |nil=>have:=h.1;simp at this
 |cons x c=>exact⟨x,c,rfl,h.2 0 v x rfl rfl,by have:=h.1;simpa using this,λj a b d e=>h.2 (j+1) a b (by simpa using d) (by simpa using e)⟩
theorem LV.append {S:Wo}:∀{l a:aI} {m b:aW},LV S l m->LV S a b->LV S (l++a) (m++b)
 |[],_,m,_,h,k=>by rw[h.kI];simpa using k
 |v::l,a,m,b,h,k=>by
  obtain⟨x,m1,rfl,c,d⟩:=h.cons_inv;exact LV.cons c (d.append k)
theorem LV.drop {S:Wo}{l:aI}{m:aW}(h:LV S l m)(n:Nat):LV S (l.drop n) (m.drop n) :=
 ⟨by simp[h.1],λj x y a hy=>h.2 (n+j) x y (by simpa using a) (by simpa using hy)⟩
theorem LV.take {S:Wo}{l:aI}{m:aW}(h:LV S l m)(n:Nat):LV S (l.take n) (m.take n) :=
 ⟨by simp[h.1],λj x y a hy=>by
  rw[ez]at a hy;by_cases b:j<n
  .rw[ag b]at a hy;exact h.2 j x y a hy
  rw[aa b]at a;cases a⟩
theorem LV.get {S:Wo}{l:aI}{m:aW}(h:LV S l m){j:Nat}{x:AV}(b:l[j]? = some x):∃y,m[j]? = some y/\VR S x y:=by
 have a:j<l.length:=(bH.1 b).1;have:j<m.length:=by rw[<-h.1];exact a
 exact⟨m[j],aR this,h.2 j x _ b (aR this)⟩
theorem LV.map {S:Wo}{α:Type}{f:α->AV}{g:α->Value}:∀(l:List α),(∀x∈l,VR S (f x) (g x))->LV S (l.map f) (l.map g)
 |[],_=>LV.nil
 |x::l,h=>LV.cons (h x (by simp)) (LV.map l λy hy=>h y (by simp[hy]))
theorem LV.set {S:Wo}{l:aI}{m:aW}(h:LV S l m)(i:Nat){v:AV}{x:Value}(f:VR S v x):LV S (l.set i v) (m.set i x) :=
 ⟨by simp[h.1],λj a b c d=>by
  rw[oC]at c d;by_cases e:i=j
  .subst e;rw[ag rfl]at c d;split at c
   .split at d
    .cases c;cases d;exact f
    cases d
   cases c
  rw[aa e]at c d;exact h.2 j a b c d⟩
theorem LV.nM {S:Wo}:∀(vs:aI) (xs:aW) {l:aI} {m:aW} (off:Nat),LV S vs xs->LV S l m->LV S (nM l off vs) (Ev.pY m off xs)
 |[],xs,l,m,off,h,k=>by rw[h.kI];exact k
 |v::vs,xs,l,m,off,h,k=>by
  obtain⟨x,a,rfl,b,c⟩:=h.cons_inv;exact LV.nM vs a (off+1) c (k.set off b)
theorem CR.flat {S:Wo}:∀(e:Ty) (x:e.den) (cs:aW),CR S.F e x cs->LV S (flat e x) cs
 |.int k,n,_,h=>by rw[h];exact LV.cons (.int k n) LV.nil
 |.bool,b,_,h=>by rw[h];exact LV.cons (.bool b) LV.nil
 |.str,s,_,h=>by rw[h];exact LV.cons (.str s) LV.nil
 |.rL,n,_,h=>by rw[h];exact LV.cons (.rL n) LV.nil
 |.unit,_,_,h=>by rw[h];exact LV.nil
 |.sl e,l,_,⟨v,c,d⟩=>by rw[c];exact LV.cons (.eC e l v d) LV.nil
 |.pair a b,x,_,⟨c1,c2,e,c,d⟩=>by rw[e];exact(CR.flat a _ _ c).append (CR.flat b _ _ d)
theorem cr {e a:Ty}{l:List e.den}{c:List a.den}(h:jl e a l=some c):∃b:e=a,b ▸ l=c:=by
 unfold jl at h;split at h
 .rename_i b;exact⟨b,by simpa using h⟩
 cases h
theorem uN:∀(e:Ty) (x:e.den),(flat e x).length=e.size
 |.int _,_=>rfl
 |.bool,_=>rfl
 |.str,_=>rfl
 |.rL,_=>rfl
 |.unit,_=>rfl
 |.sl _,_=>rfl
 |.pair a b,x=>by show (flat a x.1++flat b x.2).length=_;rw[aA,uN a,uN b];rfl
theorem sA {S:Wo}:∀(e:Ty) {l r:aI} {x:e.den} {m:aW},Ae e l=some (x,r)->LV S l m->∃c d,m=c++d/\CR S.F e x c/\LV S r d
 |.int k,l,r,x,m,h,f=>by
  have h:ahQ k l=some (x,r):=h;unfold ahQ at h;split at h
  .split at h
   .rename_i A n r' _ o;obtain⟨y,d,rfl,g,i⟩:=f.cons_inv;have p:n=x:=bO Prod.fst (bT h);have e2:r'=r:=bO Prod.snd (bT h);subst p;subst e2;subst o;cases g;exact⟨[_],d,rfl,rfl,i⟩
   cases h
  cases h
 |.bool,l,r,x,m,h,f=>by
  have h:Xl l=some (x,r):=h;unfold Xl at h;split at h
  .cases h;obtain⟨y,d,rfl,g,i⟩:=f.cons_inv;cases g;exact⟨[_],d,rfl,rfl,i⟩
  cases h
 |.str,l,r,x,m,h,f=>by
  have h:ahR l=some (x,r):=h;unfold ahR at h;split at h
  .cases h;obtain⟨y,d,rfl,g,i⟩:=f.cons_inv;cases g;exact⟨[_],d,rfl,rfl,i⟩
  cases h
 |.rL,l,r,x,m,h,f=>by
  have h:ahS l=some (x,r):=h;unfold ahS at h;split at h
  .cases h;obtain⟨y,d,rfl,g,i⟩:=f.cons_inv;cases g;exact⟨[_],d,rfl,rfl,i⟩
  cases h
 |.unit,l,r,x,m,h,f=>by
  have h:some ((),l)=some (x,r):=h;cases h;exact⟨[],m,rfl,rfl,f⟩
 |.sl e,l,r,x,m,h,f=>by
  have h:hSl e l=some (x,r):=h;unfold hSl at h;split at h
  .split at h
   .rename_i B q;cases h;obtain⟨s,j⟩:=cr q;subst s;obtain⟨y,d,rfl,g,i⟩:=f.cons_inv;cases j;cases g;rename_i t;exact⟨[_],d,rfl,⟨_,rfl,t⟩,i⟩
   cases h
  .cases h;obtain⟨y,d,rfl,g,i⟩:=f.cons_inv;cases g;exact⟨[_],d,rfl,⟨_,rfl,.inl ⟨rfl,.inl rfl⟩⟩,i⟩
  cases h
 |.pair a b,l,r,x,m,h,f=>by
  unfold Ae at h;split at h
  .rename_i x1 r1 g;split at h
   .rename_i C D i;cases h;obtain⟨c1,m1,rfl,u,k2⟩:=sA a g f;obtain⟨c2,v,rfl,w,z⟩:=sA b i k2;exact⟨c1++c2,v,by simp,⟨c1,c2,rfl,u,w⟩,z⟩
   cases h
  cases h
theorem wJ {S:Wo}(e:Ty):∀(n:Nat) {l:aI} {xs:List e.den} {m:aW},wG e n l=some xs->LV S l m->ow (CR S.F e) xs m/\xs.length=n
 |0,[],xs,m,h,a=>by simp[wG]at h;subst h;exact⟨a.kI,rfl⟩
 |0,_::_,xs,m,h,a=>by simp[wG]at h
 |n+1,l,xs,m,h,a=>by
  unfold wG at h;split at h
  .rename_i x r b;split at h
   .rename_i k d;cases h;obtain⟨c,f,rfl,g,k2⟩:=sA e b a;obtain⟨i,j⟩:=wJ e n d k2;exact⟨⟨c,f,rfl,g,i⟩,by simp[j]⟩
   cases h
  cases h
theorem VR.qp {S:Wo}{v:AV}{x:Value}(h:VR S v x)(a:tX v=true):Ev.qT x=false:=by
 cases h with
 |eC e l v b=>rcases b with⟨_,rfl|rfl⟩|⟨i,pre,mid,post,cap,rfl,_⟩<;>rfl
 |agg=>cases a
 |gI=>cases a
 |lG=>cases a
 |fl=>cases a
 |cx=>cases a
 |BB v c=>cases x<;>first|rfl|cases c
 |_=>rfl
theorem LV.qp {S:Wo}:∀{l:aI} {m:aW},LV S l m->l.all tX=true->m.any Ev.qT=false
 |[],m,h,_=>by rw[h.kI];rfl
 |v::l,m,h,a=>by
  obtain⟨x,d,rfl,b,c⟩:=h.cons_inv;simp only[ck,ak]at a;simp only[List.any_cons,b.qp a.1,c.qp a.2,Bool.or_self]
theorem CR.qp {F:Nat->Option aW}:∀(e:Ty) (x:e.den) (cs:aW),CR F e x cs->cs.any Ev.qT=false
 |.int _,_,_,h=>by rw[h];rfl
 |.bool,_,_,h=>by rw[h];rfl
 |.str,_,_,h=>by rw[h];rfl
 |.rL,_,_,h=>by rw[h];rfl
 |.unit,_,_,h=>by rw[h];rfl
 |.sl _,_,_,⟨v,h,c⟩=>by
  rw[h];rcases c with⟨_,rfl|rfl⟩|⟨i,pre,mid,post,cap,rfl,_⟩<;>rfl
 |.pair a b,_,_,⟨c1,c2,e,d,f⟩=>by rw[e,List.any_append,CR.qp a _ _ d,CR.qp b _ _ f];rfl
theorem ow.qp {F:Nat->Option aW}{e:Ty}:∀{l:List e.den} {cs:aW},ow (CR F e) l cs->cs.any Ev.qT=false
 |[],_,h=>by rw[h];rfl
 |x::l,_,⟨c1,c2,a,b,c⟩=>by rw[a,List.any_append,CR.qp e _ _ b,c.qp];rfl
end Go.Tv
namespace Go.Tv
open Go.Ev (Tr ah jx Mem kV alive ay eA)
def Row.live:Row->Option Row
 |.dead=>none
 |r=>some r
theorem aH.get_eq (H:aH)(i:Nat):H.get i=if i<H.next then (H.t.get i).bind Row.live else none:=by
 unfold aH.get;split
 .rename_i h;rw[h];simp[Row.live]
 .rename_i r a b;rw[ay,Ev.oG];simp only[aZ];split
  .rw[b];cases r<;>first|rfl|exact absurd rfl a
  rfl
 rename_i h;rw[h];simp
theorem aH.KC {H:aH}{i:Nat}:H.get i≠some .dead:=by
 rw[aH.get_eq];split
 .cases H.t.get i with
  |none=>intro h;cases h
  |some q=>cases q<;>intro h<;>cases h
 intro h;cases h
theorem aH.fM {H:aH}{i:Nat}{r:Row}(h:H.get i=some r):i<H.next:=by
 rw[aH.get_eq]at h;split at h
 .assumption
 cases h
theorem aH.iK (H:aH)(i:Nat)(r:Row):(H.put i r).next=H.next/\(H.put i r).lk=H.lk/\(H.put i r).par=H.par/\∀j,(H.put i r).get j=if j=i then (if i<H.next then r.live else none) else H.get j:=by
 obtain⟨c,b⟩:=Tr.j5 r H.t i;have e:H.put i r=⟨H.next,H.lk,H.par,c⟩:=by unfold aH.put;rw[b]
 rw[e];refine⟨rfl,rfl,rfl,λj=>?_⟩;rw[aH.get_eq,aH.get_eq];simp only[Tr.yT b];by_cases a:j=i
 .subst a;rw[ag rfl,ag rfl];rfl
 rw[aa a,aa a]
theorem aH.eG (H:aH)(r:Row):(H.push r).next=H.next+1/\(H.push r).lk=H.lk/\(H.push r).par=H.par/\∀j,(H.push r).get j=if j=H.next then r.live else H.get j:=by
 obtain⟨c,b⟩:=Tr.j5 r H.t H.next
 have e:H.push r=⟨H.next+1,H.lk,H.par,c⟩:=by unfold aH.push;rw[b]
 rw[e];refine⟨rfl,rfl,rfl,λj=>?_⟩;rw[aH.get_eq,aH.get_eq];simp only[Tr.yT b];by_cases a:j=H.next
 .subst a;rw[ag (by omega),ag rfl,ag rfl];cases r<;>rfl
 rw[aa a,aa a];by_cases h:j<H.next
 .rw[ag h,ag (by omega)]
 rw[aa h,aa (by omega)]
theorem tZ {H:Mem}{i:Nat}{b:kV}(h:H.get i=some b)(a:b.live=true):alive H i=some b:=by
 unfold alive;rw[h];simp[a]
theorem qC {H a:Mem}{i:Nat}(h:a.get i=H.get i):alive a i=alive H i:=by
 unfold alive;rw[h]
theorem mI {H:Mem}{i:Nat}{b:kV}(h:alive H i=some b):i<H.size:=Mem.fM (eA h).1
def Row.Cm:Row->Bool
 |.list _ _ _ _ _ a=>a
 |_=>false
def kz:List (au×Int)->aW
 |[]=>[]
 |q::l=>.string ⟨q.1.toArray⟩ :: .int .i64 q.2::kz l
def MC (S:Wo):List (AV×AV)->aW->Prop
 |[],cs=>cs=[]
 |q::l,cs=>∃y x r,cs=y::x::r/\VR S q.1 y/\VR S q.2 x/\MC S l r
theorem MC.mono {S T:Wo}(a:S.le T):∀{l:List (AV×AV)} {cs:aW},MC S l cs->MC T l cs
 |[],cs,h=>h
 |q::l,cs,⟨y,x,r,b,c,d,e⟩=>⟨y,x,r,b,c.mono a,d.mono a,MC.mono a e⟩
theorem MC.snoc {S:Wo}{s:AV}{v:AV}{y x:Value}(a:VR S s y)(b:VR S v x):∀{l:List (AV×AV)} {cs:aW},MC S l cs->MC S (l++[(s,v)]) (cs++[y,x])
 |[],cs,h=>by
  have h:cs=[]:=h;subst h;exact⟨y,x,[],rfl,a,b,rfl⟩
 |q::l,cs,⟨c,d,r,e,f,g,i⟩=>by
  subst e;exact⟨c,d,_,rfl,f,g,MC.snoc a b i⟩
def qD (S:Wo)(a:Mem)(id:Nat):Row->Prop
 |.dead=>True
 |.cells t cs=>∃i c s b,S.ρ id=some (i,c,s)/\alive a i=some b/\LV S cs b.cells/\b.elem=t/\b.fix=true
 |.list t e l iL ex d=>S.Γ id iL=some ⟨e,l⟩/\((∀v,iL<v->S.Γ id v=none)/\∃g,S.Γ id 0=some g/\g.2.length=l.length) /\
  (
   (l=[]/\S.ρ id=none/\ex=false) \/
   ∃i cap b mid post,S.ρ id=some (i,cap,e.size)/\alive a i=some b/\b.elem=t/\b.cells=mid++post/\ow (CR S.F e) l mid/\b.cells.length=cap*e.size/\l.length<=cap/\cap<=2000000 /\
    (ex=true->b.fix=true/\post=[]/\l.length=cap)/\(d=true->S.F i=some b.cells)/\∃f,ow (CR S.F e) f post)
 |.mp t ks=>∃i c s b,S.ρ id=some (i,c,s)/\a.get i=some b/\Ev.jK b=true/\b.cells=kz ks/\b.elem=t
 |.mf t ks=>∃i c s b,S.ρ id=some (i,c,s)/\a.get i=some b/\Ev.jK b=true/\MC S ks b.cells/\b.elem=t
structure Rel (S:Wo)(H:aH)(HE:Mem):Prop where
 fz:∀i cs,S.F i=some cs->∃b,alive HE i=some b/\b.cells=cs
 dom:∀id x,S.ρ id=some x->id<H.next
 D5:∀id v,H.next<=id->S.Γ id v=none
 row:∀id r,H.get id=some r->qD S HE id r
 inj:∀id id' r r' x x',H.get id=some r->H.get id'=some r'->S.ρ id=some x->S.ρ id'=some x'->x.1=x'.1->id=id'
 sep:∀id r x,H.get id=some r->r.Cm=false->S.ρ id=some x->S.F x.1=none
 lk:∀id r x,H.get id=some r->H.lk<=id->S.ρ id=some x->HE.lk<=x.1
 A0:H.lk<=H.next
 Nf:H.par<=H.next
 ID:HE.lk<=HE.size
theorem Rel.old {S:Wo}{H:aH}{E:Mem}(h:Rel S H E){id:Nat}{r:Row}{y:Nat×Nat×Nat}(g:H.get id=some r)(hy:S.ρ id=some y):∃b,E.get y.1=some b:=by
 have a:=h.row id r g;cases r with
 |dead=>exact absurd g aH.KC
 |cells t cs=>obtain⟨i,c,s,b,d,f,_⟩:=a;rw[hy]at d;cases d;exact⟨b,(eA f).1⟩
 |mp t ks=>obtain⟨i,c,s,b,d,f,_⟩:=a;rw[hy]at d;cases d;exact⟨b,f⟩
 |mf t ks=>obtain⟨i,c,s,b,d,f,_⟩:=a;rw[hy]at d;cases d;exact⟨b,f⟩
 |list t e l iL ex n =>
  obtain⟨_,_,m⟩:=a;rcases m with⟨_,j,_⟩|⟨i,cap,b,mid,post,k,k2,_⟩
  .rw[hy]at j;cases j
  rw[hy]at k;cases k;exact⟨b,(eA k2).1⟩
def Own (S:Wo)(H:aH)(i:Nat):Prop:=∃id r x,H.get id=some r/\r.Cm=false/\S.ρ id=some x/\x.1=i
structure St (S:Wo)(H:aH)(HE:Mem)(S':Wo)(H':aH)(HE':Mem):Prop where
 sz:HE.size<=HE'.size
 lk:HE'.lk=HE.lk
 UH:H'.lk=H.lk
 Ak:H'.par=H.par
 F:∀i x,S.F i=some x->S'.F i=some x
 own:∀i,Own S' H' i->i<HE.size->Own S H i
 Mc:∀i,S'.F i≠none->S.F i≠none\/Own S H i\/HE.size<=i
 keep:∀i,i<HE.size->¬Own S H i->HE'.get i=HE.get i
 par:∀id,id<H.par->S'.ρ id=S.ρ id
 nx:H.next<=H'.next
 live:∀id,id<H.next->H'.get id≠none->H.get id≠none
 rn:∀id,id<H.next->S.ρ id=none->S'.ρ id=none
theorem St.refl (S:Wo)(H:aH)(a:Mem):St S H a S H a :=
 ⟨aG _,rfl,rfl,rfl,λ_ _ h=>h,λ_ h _=>h,λ_ h=>.inl h,λ_ _ _=>rfl,λ_ _=>rfl,aG _,λ_ _ h=>h,λ_ _ h=>h⟩
theorem St.trans {S S1 S2:Wo}{H e f:aH}{E g j:Mem}(h:St S H E S1 e g)(k:St S1 e g S2 f j):St S H E S2 f j:=by
 refine⟨bA h.sz k.sz,k.lk.trans h.lk,k.UH.trans h.UH,k.Ak.trans h.Ak,λi x l=>k.F i x (h.F i x l),λi c hi=>h.own i (k.own i c (cU hi h.sz)) hi,λi m=>?_,λi hi c=>?_,λid a=>(k.par id (by rw[h.Ak];exact a)).trans (h.par id a),bA h.nx k.nx,λid a d=>h.live id a (k.live id (cU a h.nx) d),λid a d=>k.rn id (cU a h.nx) (h.rn id a d)⟩
 .rcases k.Mc i m with b|b|b
  .exact h.Mc i b
  .by_cases hi:i<E.size
   .exact .inr (.inl (h.own i b hi))
   exact .inr (.inr (by omega))
  exact .inr (.inr (bA h.sz b))
 exact(k.keep i (cU hi h.sz) λb=>c (h.own i b hi)).trans (h.keep i hi c)
theorem Mem.nu (H:Mem)(b:kV):∃a,H.push b=some a:=by
 obtain⟨d,c⟩:=Tr.j5 b H.t H.size;exact⟨_,by unfold Mem.push;rw[c]⟩
theorem Mem.j5 {H:Mem}{i:Nat}{b:kV}(hi:i<H.size)(a:H.lk<=i):∃c,H.set i b=some c:=by
 obtain⟨d,e⟩:=Tr.j5 b H.t i;refine⟨⟨H.size,H.lk,d⟩,?_⟩;unfold Mem.set;rw[ay,Ev.oG,ag (by simpa using hi),ay,Ev.A9,ag (by simpa using a),e]
theorem qD.keep {S S':Wo}{E E':Mem}{id:Nat}{r:Row}(a:S.le S')(hρ:S.ρ id=none->S'.ρ id=none)(hΓ:∀v,S.Γ id v=none->S'.Γ id v=none)(n:∀x,S.ρ id=some x->E'.get x.1=E.get x.1)(h:qD S E id r):qD S' E' id r:=by
 cases r with
 |dead=>trivial
 |cells t cs =>
  obtain⟨i,c,s,b,d,f,j,k⟩:=h;exact⟨i,c,s,b,a.ρ _ _ d,by rw[qC (n _ d)];exact f,j.mono a,k⟩
 |mp t ks =>
  obtain⟨i,c,s,b,d,f,j⟩:=h;exact⟨i,c,s,b,a.ρ _ _ d,by rw[n _ d];exact f,j⟩
 |mf t ks =>
  obtain⟨i,c,s,b,d,f,j,k,o⟩:=h;exact⟨i,c,s,b,a.ρ _ _ d,by rw[n _ d];exact f,j,k.mono a,o⟩
 |list t e l iL ex G =>
  obtain⟨d,f,j⟩:=h;obtain⟨f,g,q,u⟩:=f;refine⟨a.Γ _ _ _ d,⟨λv w=>hΓ v (f v w),g,a.Γ _ _ _ q,u⟩,?_⟩;rcases j with⟨j,k,o⟩|⟨i,cap,b,mid,post,p,k2,y,z,A,B,C,k8,k9,m⟩
  .exact .inl ⟨j,hρ k,o⟩
  exact .inr ⟨i,cap,b,mid,post,a.ρ _ _ p,by rw[qC (n _ p)];exact k2,y,z,A.mono λx c=>CR.mono a.F e x c,B,C,k8,k9,λD=>a.F _ _ (m.1 D),m.2.imp λH h=>h.mono λx c=>CR.mono a.F e x c⟩
def Wo.new (S:Wo)(id:Nat)(x:Option (Nat×Nat×Nat))(g:Option (Sigma λe:Ty=>List e.den)):Wo :=
 ⟨S.F,λj=>if j=id then x else S.ρ j,λj v=>if j=id/\v=0 then g else S.Γ j v⟩
theorem Wo.KD {S:Wo}{H:aH}{a:Mem}(h:Rel S H a)(x:Option (Nat×Nat×Nat))(g:Option (Sigma λe:Ty=>List e.den)):S.le (S.new H.next x g):=by
 refine⟨λ_ _ h=>h,λi y hy=>?_,λi v y hy=>?_⟩
 .have:=h.dom i y hy;show (if i=H.next then x else S.ρ i)=_;rw[aa (by omega)];exact hy
 show (if i=H.next/\v=0 then g else S.Γ i v)=_;by_cases hi:i=H.next
 .rw[h.D5 i v (by omega)]at hy;cases hy
 rw[aa (by omega)];exact hy
theorem Rel.add {S:Wo}{H:aH}{E E':Mem}(h:Rel S H E){r:Row}{x:Option (Nat×Nat×Nat)}{g:Option (Sigma λe:Ty=>List e.den)}
 (I:E.size<=E'.size) (m:E'.lk=E.lk) (w:∀i,i<E.size->E'.get i=E.get i) (J:∀r',r.live=some r'->qD (S.new H.next x g) E' H.next r')
 (p:∀y,x=some y->E.size<=y.1) (z:r.Cm=false) :
 S.le (S.new H.next x g)/\Rel (S.new H.next x g) (H.push r) E'/\St S H E (S.new H.next x g) (H.push r) E':=by
 have q:=Wo.KD h x g;obtain⟨u,A,p3,p4⟩:=aH.eG H r;have ρne:∀id,id≠H.next->(S.new H.next x g).ρ id=S.ρ id:=λid a=>aa a
 have ρeq:(S.new H.next x g).ρ H.next=x:=ag rfl
 have Γne:∀id v,id≠H.next->(S.new H.next x g).Γ id v=S.Γ id v:=λid v a=>aa (by omega)
 have o:∀id r',(H.push r).get id=some r'->(id=H.next/\r.live=some r')\/(id≠H.next/\H.get id=some r'):=λid r' a=>by
  rw[p4]at a;by_cases e:id=H.next
  .rw[ag e]at a;exact .inl ⟨e,a⟩
  rw[aa e]at a;exact .inr ⟨e,a⟩
 have K:∀r',r.live=some r'->r'.Cm=false:=λr' h=>by
  cases r<;>simp[Row.live]at h<;>subst h<;>first|rfl|exact z
 have old:∀id r' y,H.get id=some r'->S.ρ id=some y->y.1<E.size:=λid r' y f hy=>(let ⟨_,s⟩:=h.old f hy;Mem.fM s)
 refine⟨q,⟨λi cs hi=>?_,λid y hy=>?_,λid v B=>?_,λid r' f=>?_,λid j r1 C y D f k hy d L=>?_,λid r' y f s hy=>?_,λid r' y f n hy=>?_,by rw[u,A];have:=h.A0;omega,by rw[u,p3];have:=h.Nf;omega,by rw[m];have:=h.ID;omega⟩,
  ⟨I,m,A,p3,λ_ _ h=>h,λi M hi=>?_,λi N=>.inl N,λi hi _=>w i hi,λid a=>?_,by omega,λid a n=>(by rw[p4,aa (by omega)]at n;exact n),λid a n=>by rw[ρne id (by omega)];exact n⟩⟩
 .obtain ⟨b,c,t⟩:=h.fz i cs hi;exact⟨b,by rw[qC (w i (mI c))];exact c,t⟩
 .rw[u];by_cases e:id=H.next
  .omega
  rw[ρne id e]at hy;have:=h.dom id y hy;omega
 .rw[u]at B;rw[Γne id v (by omega)];exact h.D5 id v (by omega)
 .rcases o id r' f with⟨rfl,G⟩|⟨e,k⟩
  .exact J r' G
  refine(h.row id r' k).keep q (λO=>by rw[ρne id e];exact O) (λv B=>by rw[Γne id v e];exact B) λy hy=>w _ (old id r' y k hy)
 .rcases o id r1 f with⟨rfl,c⟩|⟨l,c⟩<;>rcases o j C k with⟨rfl,t⟩|⟨e2,t⟩
  .rfl
  .rw[ρeq]at hy;rw[ρne j e2]at d;have a1:=p y hy;have a2:=old j C D t d;omega
  .rw[ρeq]at d;rw[ρne id l]at hy;have a1:=p D d;have a2:=old id r1 y c hy;omega
  rw[ρne id l]at hy;rw[ρne j e2]at d;exact h.inj id j r1 C y D c t hy d L
 .rcases o id r' f with⟨rfl,c⟩|⟨l,c⟩
  .rw[ρeq]at hy;have a1:=p y hy;show S.F y.1=none;cases P:S.F y.1 with
   |none=>rfl
   |some cs=>obtain⟨b,Q,_⟩:=h.fz _ _ P;have:=mI Q;omega
  rw[ρne id l]at hy;exact h.sep id r' y c s hy
 .rw[A]at n;rw[m];rcases o id r' f with⟨rfl,c⟩|⟨l,c⟩
  .rw[ρeq]at hy;have:=p y hy;have:=h.ID;omega
  rw[ρne id l]at hy;exact h.lk id r' y c n hy
 .obtain ⟨id,r',y,f,s,hy,rfl⟩:=M;rcases o id r' f with⟨rfl,c⟩|⟨l,c⟩
  .rw[ρeq]at hy;have:=p y hy;omega
  rw[ρne id l]at hy;exact⟨id,r',y,c,s,hy,rfl⟩
 exact ρne id (by have:=h.Nf;omega)
theorem Rel.mod {S S':Wo}{H:aH}{E E':Mem}{id:Nat}{r r':Row}(h:Rel S H E)(l:H.get id=some r)(g:r.Cm=false)
 (s:S.le S') (hρ:S'.ρ=S.ρ) (hΓ:∀j v,j≠id->S'.Γ j v=S.Γ j v)
 (R:E'.size=E.size) (p:E'.lk=E.lk) (D:∀j,(∀y,S.ρ id=some y->j≠y.1)->E'.get j=E.get j)
 (x:∀j cs,S'.F j=some cs->S.F j=some cs\/((r' = .dead\/r'.Cm=true)/\(∃y,S.ρ id=some y/\y.1=j)/\∃b,alive E' j=some b/\b.cells=cs))
 (T:∀q,r'.live=some q->qD S' E' id q) :
 Rel S' (H.put id r') E'/\St S H E S' (H.put id r') E':=by
 obtain⟨A,G,p3,p4⟩:=aH.iK H id r';have I:=aH.fM l;have t:∀j q,(H.put id r').get j=some q->(j=id/\r'.live=some q)\/(j≠id/\H.get j=some q):=λj q d=>by
  rw[p4]at d;by_cases e:j=id
  .rw[ag e,ag I]at d;exact .inl ⟨e,d⟩
  rw[aa e]at d;exact .inr ⟨e,d⟩
 have u:∀j q y,j≠id->H.get j=some q->S.ρ j=some y->∀z,S.ρ id=some z->y.1≠z.1:=λj q y e d hy z m k=>e (h.inj j id q r y z d l hy m k)
 have J:∀j cs,S.F j=some cs->∀z,S.ρ id=some z->j≠z.1:=λj cs d z m k=>by
  rw[k,h.sep id r z l g m]at d;cases d
 have K:∀q,r'.live=some q->r'=q:=λq n=>by cases r'<;>simp[Row.live]at n<;>exact n
 refine⟨⟨λi cs hi=>?_,λj y hy=>?_,λj v B=>?_,λj q d=>?_,λj P q L y U d M hy w k=>?_,λj q y d C hy=>?_,λj q y d o hy=>?_,by rw[A,G];exact h.A0,by rw[A,p3];exact h.Nf,by rw[p,R];exact h.ID⟩,
  ⟨by omega,p,G,p3,s.F,λi N hi=>?_,λi V=>?_,λi hi N=>?_,λj _=>by rw[hρ],by omega,λj d o=>(by
   by_cases e:j=id
   .rw[e,l];simp
   rw[p4,aa e]at o;exact o),λj _ o=>by rw[hρ];exact o⟩⟩
 .rcases x i cs hi with c|⟨_,_,c⟩
  .obtain ⟨b,f,W⟩:=h.fz i cs c;exact⟨b,by rw[qC (D i (J i cs c))];exact f,W⟩
  exact c
 .rw[hρ]at hy;rw[A];exact h.dom j y hy
 .rw[A]at B;rw[hΓ j v (by omega)];exact h.D5 j v B
 .rcases t j q d with⟨rfl,c⟩|⟨e,c⟩
  .exact T q c
  exact(h.row j q c).keep s (λX=>by rw[hρ];exact X) (λv B=>by rw[hΓ j v e];exact B) λy hy=>D _ λz m=>u j q y e c hy z m
 .have Q:∀j q,(H.put id r').get j=some q->∃L,H.get j=some L:=λj q d=>by
   rcases t j q d with⟨rfl,_⟩|⟨_,c⟩
   .exact ⟨r,l⟩
   exact⟨q,c⟩
  obtain⟨a,Y⟩:=Q j q d;obtain⟨Z,O⟩:=Q P L M;rw[hρ]at hy w;exact h.inj j P a Z y U Y O hy w k
 .rw[hρ]at hy;cases n:S'.F y.1 with
  |none=>rfl
  |some cs =>
   exfalso;rcases t j q d with⟨rfl,c⟩|⟨e,c⟩
   .rcases x _ _ n with f|⟨f,_⟩
    .rw[h.sep j r y l g hy]at f;cases f
    rcases f with f|f
    .rw[f]at c;cases c
    rw[K q c,C]at f;cases f
   rcases x _ _ n with f|⟨_,⟨z,m,k⟩,_⟩
   .rw[h.sep j q y c C hy]at f;cases f
   exact u j q y e c hy z m k.symm
 .rw[G]at o;rw[hρ]at hy;rw[p];rcases t j q d with⟨rfl,c⟩|⟨e,c⟩
  .exact h.lk j r y l o hy
  exact h.lk j q y c o hy
 .obtain ⟨j,q,y,d,C,hy,rfl⟩:=N;rw[hρ]at hy;rcases t j q d with⟨rfl,c⟩|⟨e,c⟩
  .exact ⟨j,r,y,l,g,hy,rfl⟩
  exact⟨j,q,y,c,C,hy,rfl⟩
 .cases n:S'.F i with
  |none=>exact absurd n V
  |some cs =>
   rcases x _ _ n with f|⟨_,⟨z,m,k⟩,_⟩
   .exact .inl (by rw[f];simp)
   exact .inr (.inl ⟨id,r,z,l,g,m,k⟩)
 exact D i λy hy k=>N ⟨id,r,y,l,g,hy,k.symm⟩
theorem Rel.same {S:Wo}{H c:aH}{E:Mem}(h:Rel S H E)(d:c.next=H.next)(g:c.lk=H.lk)(k:c.par=H.par)(b:∀j,c.get j=H.get j):Rel S c E/\St S H E S c E:=by
 refine⟨⟨h.fz,λj y hy=>by rw[d];exact h.dom j y hy,λj v s=>h.D5 j v (by omega),λj q a=>h.row j q (by rw[<-b];exact a),λj l q m y n a e=>h.inj j l q m y n (by rw[<-b];exact a) (by rw[<-b];exact e),
  λj q y a=>h.sep j q y (by rw[<-b];exact a),λj q y a f=>h.lk j q y (by rw[<-b];exact a) (by omega),by rw[d,g];exact h.A0,by rw[d,k];exact h.Nf,h.ID⟩,
  ⟨aG _,rfl,g,k,λ_ _ h=>h,λi o _=>?_,λi p=>.inl p,λ_ _ _=>rfl,λ_ _=>rfl,by omega,λj _ f=>(by rw[b]at f;exact f),λ_ _ h=>h⟩⟩
 obtain⟨j,q,y,a,r⟩:=o;exact⟨j,q,y,by rw[<-b];exact a,r⟩
theorem Rel.move {S:Wo}{H:aH}{E E':Mem}{id:Nat}{p r:Row}{x:Option (Nat×Nat×Nat)}{g:Option (Sigma λe:Ty=>List e.den)}(h:Rel S H E)(l:H.get id=some p)(m:p.Cm=false)
 (Z:E.size<=E'.size) (s:E'.lk=E.lk) (L:∀j,j<E.size->(∀y,S.ρ id=some y->j≠y.1)->E'.get j=E.get j)
 (I:∀y,x=some y->E.size<=y.1\/∃z,S.ρ id=some z/\z.1=y.1/\E.lk<=y.1)
 (hr:∀r',r.live=some r'->qD (S.new H.next x g) E' H.next r') (M:r.Cm=false) :
 S.le (S.new H.next x g)/\Rel (S.new H.next x g) ((H.put id .dead).push r) E'/\St S H E (S.new H.next x g) ((H.put id .dead).push r) E':=by
 have w:=Wo.KD h x g;obtain⟨N,u2,u3,X⟩:=aH.iK H id .dead;obtain⟨A,J,p3,p4⟩:=aH.eG (H.put id .dead) r;rw[N]at A;rw[u2]at J;rw[u3]at p3;have O:=aH.fM l;have ρne:∀j,j≠H.next->(S.new H.next x g).ρ j=S.ρ j:=λj a=>aa a
 have ρeq:(S.new H.next x g).ρ H.next=x:=ag rfl
 have Γne:∀j v,j≠H.next->(S.new H.next x g).Γ j v=S.Γ j v:=λj v a=>aa (by omega)
 have u:∀j q,((H.put id .dead).push r).get j=some q->(j=H.next/\r.live=some q)\/(j≠H.next/\j≠id/\H.get j=some q):=λj q a=>by
  rw[p4,N]at a;by_cases e:j=H.next
  .rw[ag e]at a;exact .inl ⟨e,a⟩
  rw[aa e,X]at a;by_cases e2:j=id
  .rw[ag e2,ag O]at a;cases a
  rw[aa e2]at a;exact .inr ⟨e,e2,a⟩
 have ro':∀q,r.live=some q->q.Cm=false:=λq h=>by
  cases r<;>simp[Row.live]at h<;>subst h<;>first|rfl|exact M
 have old:∀j q y,H.get j=some q->S.ρ j=some y->y.1<E.size:=λj q y l hy=>(let ⟨_,B⟩:=h.old l hy;Mem.fM B)
 have C:∀j q y,j≠id->H.get j=some q->S.ρ j=some y->∀z,S.ρ id=some z->y.1≠z.1:=λj q y e a hy z f d=>e (h.inj j id q p y z a l hy f d)
 have P:∀j cs,S.F j=some cs->∀z,S.ρ id=some z->j≠z.1:=λj cs a z f d=>by
  rw[d,h.sep id p z l m f]at a;cases a
 have Y:∀y,x=some y->∀j q z,j≠id->H.get j=some q->S.ρ j=some z->z.1≠y.1:=λy hy j q z e a f d=>by
  rcases I y hy with c|⟨z',Q,he',_⟩
  .have:=old j q z a f;omega
  exact C j q z e a f z' Q (by omega)
 refine⟨w,⟨λi cs hi=>?_,λj y hy=>?_,λj v R=>?_,λj q a=>?_,λj D q1 q2 y T a U hy k d=>?_,λj q y a B hy=>?_,λj q y a n hy=>?_,by rw[A,J];have:=h.A0;omega,by rw[A,p3];have:=h.Nf;omega,by rw[s];have:=h.ID;omega⟩,
  ⟨Z,s,J,p3,λ_ _ h=>h,λi V hi=>?_,λi hf=>.inl hf,λi hi V=>L i hi λy hy d=>V ⟨id,p,y,l,m,hy,d.symm⟩,λj a=>ρne j (by have:=h.Nf;omega),by omega,λj a n=>(by
   rw[p4,N,aa (by omega),X]at n;by_cases e:j=id
   .rw[e,l];simp
   rw[aa e]at n;exact n),λj a n=>by rw[ρne j (by omega)];exact n⟩⟩
 .obtain ⟨b,c,G⟩:=h.fz i cs hi;exact⟨b,by rw[qC (L i (mI c) (P i cs hi))];exact c,G⟩
 .rw[A];by_cases e:j=H.next
  .omega
  rw[ρne j e]at hy;have:=h.dom j y hy;omega
 .rw[A]at R;rw[Γne j v (by omega)];exact h.D5 j v (by omega)
 .rcases u j q a with⟨rfl,W⟩|⟨e,e2,t⟩
  .exact hr q W
  exact(h.row j q t).keep w (λhn=>by rw[ρne j e];exact hn) (λv R=>by rw[Γne j v e];exact R) λy hy=>L _ (old j q y t hy) λz f=>C j q y e2 t hy z f
 .rcases u j q1 a with⟨rfl,c⟩|⟨o,d1,c⟩<;>rcases u D q2 U with⟨rfl,G⟩|⟨e2,d2,G⟩
  .rfl
  .rw[ρeq]at hy;rw[ρne D e2]at k;exact absurd d.symm (Y y hy D q2 T d2 G k)
  .rw[ρeq]at k;rw[ρne j o]at hy;exact absurd d (Y T k j q1 y d1 c hy)
  rw[ρne j o]at hy;rw[ρne D e2]at k;exact h.inj j D q1 q2 y T c G hy k d
 .rcases u j q a with⟨rfl,c⟩|⟨o,d1,c⟩
  .rw[ρeq]at hy;show S.F y.1=none;rcases I y hy with K|⟨z,f,d,_⟩
   .cases hF:S.F y.1 with
    |none=>rfl
    |some cs=>obtain⟨b,K,_⟩:=h.fz _ _ hF;have:=mI K;omega
   rw[<-d];exact h.sep id p z l m f
  rw[ρne j o]at hy;exact h.sep j q y c B hy
 .rw[J]at n;rw[s];rcases u j q a with⟨rfl,c⟩|⟨o,d1,c⟩
  .rw[ρeq]at hy;rcases I y hy with K|⟨z,f,d,h4⟩
   .have:=h.ID;omega
   exact h4
  rw[ρne j o]at hy;exact h.lk j q y c n hy
 obtain⟨j,q,y,a,B,hy,rfl⟩:=V;rcases u j q a with⟨rfl,c⟩|⟨o,d1,c⟩
 .rw[ρeq]at hy;rcases I y hy with K|⟨z,f,d,_⟩
  .omega
  exact⟨id,p,z,l,m,f,d⟩
 rw[ρne j o]at hy;exact⟨j,q,y,c,B,hy,rfl⟩
end Go.Tv
namespace Go.Tv
open Go.Ev (Tr ah jx Mem kV alive ay eA bQ iX kD br dh orElse)
section
variable {P:Program}
theorem bG {α β:Type}(f:α->Sem β):∀(s:Sem α),bQ P (s >>= f)=(bQ P s).bind λa=>bQ P (f a)
 |.pure a=>rfl
 |.load _ _ _=>rfl
 |.store _ _ _ _=>rfl
 |.new _ _=>rfl
 |.shape _ _=>rfl
 |.freeze _ _ _=>rfl
 |.frozen _ _=>rfl
 |.getObj _ _=>rfl
 |.setObj _ _ _=>rfl
 |.choose _ _=>rfl
 |.sys _ _=>rfl
 |.program k=>bG f (k P)
 |.mark _ k=>bG f k
 |.halt _=>rfl
theorem qZ {α:Type}(a:α):bQ P (pure a:Sem α)=some a:=rfl
theorem ct {t:TypeId}{d:TypeDesc}(h:P.underlying t=some d):bQ P (underlying t)=some d:=by
 have:underlying t=Sem.program λp=>match p.underlying t with|some d=>Sem.pure d|none=>stuck "no such type" := rfl
 first
  |(rw[this];show bQ P (match P.underlying t with|some d=>Sem.pure d|none=>stuck "no such type")=_;rw[h];rfl)
theorem BF {call:Ev.dx}{o:Oper}{ev:Operand->Value}{E:Mem}{op:BinOp}{t f:TypeId}{p q:Operand}{v:Value}(a:o.op = .binOp op t p q f)
 (g:br (ev p)=true) (c:br (ev q)=true) (i:br v=true)
 (j:∀u,Ev.vp P op t (ev p) (ev q)=some u->u=v) (h:bQ P (do eqGuard op t p q (ev p) (ev q);binOp op t (ev p) (ev q):Sem Value)=some v) :
 kD P call ev o E=some (v,E):=by
 unfold kD;rw[a];show Ev.xB P ev o op t (ev p) (ev q) E=_;unfold Ev.xB;have k:iX P ev o=some v:=by
  unfold iX;rw[a];have l:Ev.dU ev (.binOp op t p q f)=true:=by
   simp[Ev.dU,Op.operands,g,c]
  simp only[l,gy];have:bQ P (execOp ev o)=some (.value v):=by
   unfold execOp;rw[a];show bQ P ((do eqGuard op t p q (ev p) (ev q);binOp op t (ev p) (ev q):Sem Value) >>= λx=>pure (Next.value x))=_;rw[bG,h];rfl
  rw[this];simp[i]
 cases d:Ev.ET op (ev p) (ev q) with
 |some u =>
  have m:=(Ev.My (P:=P) d t p q default).1;have b:=Ev.qA (P:=P) _ h default;rw[m]at b;cases b;rfl
 |none =>
  cases e:Ev.vp P op t (ev p) (ev q) with
  |some u=>rw[j u e];rfl
  |none=>show dh E (iX P ev o)=_;rw[k];rfl
def acG (op:BinOp)(k c:IntKind)(a b:Int):fS :=
 match op with
 |.shl=>if b<0 then none else some (.int k (k.wrap (a*2 ^ (min b.toNat k.bits))))
 |.shr=>if b<0 then none else some (.int k (a.fdiv (2 ^ (min b.toNat k.bits))))
 |op=>if k=c then (match op with
  |.add=>some (.int k (k.wrap (a+b)))
  |.sub=>some (.int k (k.wrap (a-b)))
  |.mul=>some (.int k (k.wrap (a*b)))
  |.quo=>if b=0 then none else some (.int k (k.wrap (a.tdiv b)))
  |.rem=>if b=0 then none else some (.int k (a.tmod b))
  |.and=>some (.int k (k.wrap (BitVec.ofInt k.bits a &&& BitVec.ofInt k.bits b).toNat))
  |.or=>some (.int k (k.wrap (BitVec.ofInt k.bits a ||| BitVec.ofInt k.bits b).toNat))
  |.xor=>some (.int k (k.wrap (BitVec.ofInt k.bits a ^^^ BitVec.ofInt k.bits b).toNat))
  |.andNot=>some (.int k (k.wrap (BitVec.ofInt k.bits a &&& ~~~(BitVec.ofInt k.bits b)).toNat))
  |.eql=>some (.bool (decide (a=b)))
  |.neq=>some (.bool (!decide (a=b)))
  |.lss=>some (.bool (decide (a<b)))
  |.leq=>some (.bool (decide (a<=b)))
  |.gtr=>some (.bool (decide (b<a)))
  |.geq=>some (.bool (decide (b<=a)))
  |_=>none) else none
theorem UI {β:Type}{op:BinOp}{k f:IntKind}{a b:Int}{c:AV->Option β}{r:β}(h:ahV op k f a b c=some r):∃v d,c v=some r/\acG op k f a b=some d/\br d=true/\∀S,VR S v d:=by
 unfold ahV at h;unfold acG;have n1:∀a b:Int,(!decide (b<a))=decide (a<=b):=λa b=>by rw[bX];simp
 have n2:∀a b:Int,(a==b)=decide (a=b):=λa b=>rfl
 cases op<;>simp only[ay,Ev.dc,Ev.fD,n1,n2,aZ]at h ⊢;all_goals first
  |(
   split at h
   .cases h
   rename_i e;exact⟨_,_,h,by rw[aa e],rfl,λS=>.int _ _⟩)
  |(
   split at h
   .rename_i g;rw[ag g];first
     |exact⟨_,_,h,rfl,rfl,λS=>.int _ _⟩
     |exact⟨_,_,h,rfl,rfl,λS=>.bool _⟩
     |(
      split at h
      .cases h
      rename_i e;exact⟨_,_,h,by rw[aa e],rfl,λS=>.int _ _⟩)
     |cases h
   cases h)
theorem UJ (op:BinOp)(t:TypeId)(p q:Operand)(k c:IntKind)(a b:Int):bQ P (eqGuard op t p q (.int k a) (.int c b))=some ():=by
 unfold eqGuard;cases op<;>rfl
theorem Xv {op:BinOp}{k c:IntKind}{a b:Int}{v:Value}(h:acG op k c a b=some v)(t:TypeId)(p q:Operand) :
 bQ P (do eqGuard op t p q (.int k a) (.int c b);binOp op t (.int k a) (.int c b):Sem Value)=some v:=by
 rw[bG,UJ];show bQ P (binOp op t (.int k a) (.int c b))=some v;unfold acG at h;cases op<;>simp only at h;all_goals first
  |(
   split at h
   .cases h
   rename_i d;cases h;simp only[binOp,Op.shift];rw[aa d];rfl)
  |(
   split at h
   .rename_i e;subst e;first
     |(cases h;simp only[binOp,Op.intArith,ne_eq,not_true,eY];rfl)
     |(
      split at h
      .cases h
      rename_i d;cases h;simp only[binOp,Op.intDiv,ne_eq,not_true,eY];rw[aa d];rfl)
     |(cases h;simp only[binOp,Op.intBits,ne_eq,not_true,eY];rfl)
     |(cases h;simp only[binOp,Op.intCmp,ne_eq,not_true,eY];first|rfl|(show some (Value.bool (!(a==b)))=_;rfl))
     |cases h
   cases h)
theorem toList_mk (s:au):(⟨s.toArray⟩:ByteArray).toList=s:=by rw[ByteArray.toList_eq]
def acH (op:BinOp)(a b:au):fS :=
 match op with
 |.add=>if a.length+b.length<=9223372036854775807 then some (.string ⟨(a++b).toArray⟩) else none
 |.eql=>some (.bool (decide (a=b)))
 |.neq=>some (.bool (!decide (a=b)))
 |.lss=>some (.bool (Op.bytesLess a b))
 |.leq=>some (.bool (Op.bytesLess a b||decide (a=b)))
 |.gtr=>some (.bool (!(Op.bytesLess a b||decide (a=b))))
 |.geq=>some (.bool (!Op.bytesLess a b))
 |_=>none
theorem UK {β:Type}{op:BinOp}{a b:au}{c:AV->Option β}{r:β}(h:ahW op a b c=some r):∃v d,c v=some r/\acH op a b=some d/\br d=true/\∀S,VR S v d:=by
 unfold ahW at h;unfold acH;cases op<;>simp only[ay,Ev.A9,aZ]at h ⊢;all_goals first
  |(
   split at h
   .rename_i e;rw[ag e];exact⟨_,_,h,rfl,rfl,λS=>.str _⟩
   cases h)
  |exact⟨_,_,h,rfl,rfl,λS=>.bool _⟩
  |cases h
theorem UL (op:BinOp)(t:TypeId)(p q:Operand)(a b:ByteArray):bQ P (eqGuard op t p q (.string a) (.string b))=some ():=by
 unfold eqGuard;cases op<;>rfl
theorem ant (a b:au):(a==b)=decide (a=b):=by
 rw[bX];simp
theorem Xw {op:BinOp}{a b:au}{v:Value}(h:acH op a b=some v)(t:TypeId)(p q:Operand) :
 bQ P (do eqGuard op t p q (.string ⟨a.toArray⟩) (.string ⟨b.toArray⟩);binOp op t (.string ⟨a.toArray⟩) (.string ⟨b.toArray⟩):Sem Value)=some v:=by
 rw[bG,UL];show bQ P (binOp op t (.string ⟨a.toArray⟩) (.string ⟨b.toArray⟩))=some v;have c:binOp op t (.string ⟨a.toArray⟩) (.string ⟨b.toArray⟩)=Op.stringOp op ⟨a.toArray⟩ ⟨b.toArray⟩:=by cases op<;>rfl
 rw[c];unfold Op.stringOp;simp only[toList_mk,ant];unfold acH at h;cases op<;>simp only at h ⊢;case add =>
  split at h
  .rename_i g;cases h;have d:¬(((ByteArray.size ⟨a.toArray⟩+ByteArray.size ⟨b.toArray⟩:Nat):Int)>IntKind.i64.max):=by
    have e:ByteArray.size ⟨a.toArray⟩=a.length:=by simp[ByteArray.size]
    have e2:ByteArray.size ⟨b.toArray⟩=b.length:=by simp[ByteArray.size]
    have f:IntKind.i64.max=9223372036854775807:=by decide
    rw[e,e2,f];omega
   rw[aa d];show some (Value.string _)=some (Value.string _);congr 2
  cases h
 all_goals first|(cases h;rfl)|cases h
theorem QB (op:BinOp)(t:TypeId)(p q:Operand)(a b:Bool):bQ P (eqGuard op t p q (.bool a) (.bool b))=some ():=by
 unfold eqGuard;cases op<;>rfl
theorem Am {t:TypeId}(c:P.underlying t=some .bool)(d:Nat)(a b:Bool):bQ P (Op.equalIn (d+1) t (.bool a) (.bool b))=some (a==b):=by
 unfold Op.equalIn;rw[bG,ct c];rfl
theorem UM {t:TypeId}{c:IntKind}(e:P.underlying t=some (.int c))(d:Nat)(k:IntKind)(a b:Int):bQ P (Op.equalIn (d+1) t (.int k a) (.int k b))=some (decide (a=b)):=by
 unfold Op.equalIn;rw[bG,ct e];show bQ P (if k=k then pure (a==b) else stuck "==: kinds differ")=_;rw[ag rfl];rfl
theorem UN {t:TypeId}(c:P.underlying t=some .string)(d:Nat)(a b:au):bQ P (Op.equalIn (d+1) t (.string ⟨a.toArray⟩) (.string ⟨b.toArray⟩))=some (decide (a=b)):=by
 unfold Op.equalIn;rw[bG,ct c];show some ((⟨a.toArray⟩:ByteArray)==⟨b.toArray⟩)=_;rw[beq_toListBytes,toList_mk,toList_mk,ant]
theorem qk {α:Type}(k:Program->Sem α):bQ P (program >>= k)=bQ P (k P):=rfl
theorem KE {d:Nat}{t:TypeId}{e:Array Field}{xs g:dW}(h:P.underlying t=some (.struct e))(i:P.stoodInHeld t=false) :
 bQ P (Op.equalIn (d+1) t (.agg xs) (.agg g))=bQ P (Op.eqFields d xs g e.toList):=by
 simp only[Op.equalIn];rw[bG,ct h];simp only[bh];rw[qk];simp only[i,cT,eY];rw[<-Array.forIn_toList];generalize e.toList=l;induction l with
 |nil=>simp only[List.forIn_nil,Op.eqFields];rfl
 |cons f l c =>
  simp only[List.forIn_cons,Op.eqFields];split
  .simp only[bG]at c ⊢;cases bQ P (part f.type xs f.offset) with
   |none=>rfl
   |some a =>
    simp only[bh];cases bQ P (part f.type g f.offset) with
    |none=>rfl
    |some b =>
     simp only[bh];cases bQ P (Op.equalIn d f.type a b) with
     |none=>rfl
     |some r =>
      simp only[bh];cases r
      .rfl
      simp only[Bool.not_true,cT,eY,qZ,bh];exact c
  simp only[bG,qZ,bh]at c ⊢;exact c
end
end Go.Tv
namespace Go.Tv
open Go.Ev (Tr ah jx Mem kV alive ay eA bQ iX kD br dh orElse)
section
variable {P:Program}
theorem y5 {k:Nat}{ks:cY}{l m:aI}{b:Bool}(h:vg (k::ks) l m=some b):∃x d y e a c,l=x::d/\m=y::e/\eqK k x y=some a/\vg ks d e=some c/\b=(a&&c):=by
 cases l with
 |nil=>cases m<;>simp[vg]at h
 |cons x l =>
  cases m with
  |nil=>simp[vg]at h
  |cons y m =>
   unfold vg at h;split at h
   .rename_i a f;split at h
    .split at h
     .cases h;exact⟨x,[],y,[],b,true,rfl,rfl,f,rfl,by simp⟩
     cases h
    split at h
    .rename_i c g;cases h;exact⟨x,l,y,m,a,c,rfl,rfl,f,g,rfl⟩
    cases h
   cases h
theorem DE:∀{ks d:cY} {l m:aI} {b:Bool},vg (ks++d) l m=some b->∃b1 b2,vg ks (l.take ks.length) (m.take ks.length)=some b1/\vg d (l.drop ks.length) (m.drop ks.length)=some b2/\b=(b1&&b2)
 |[],d,l,m,b,h=>⟨true,b,by simp[vg],by simpa using h,by simp⟩
 |k::ks,d,l,m,b,h=>by
  obtain⟨x,j,y,n,a,c,rfl,rfl,f,g,rfl⟩:=y5 (ks:=ks++d) h;obtain⟨b1,b2,e,e2,rfl⟩:=DE g;refine⟨a&&b1,b2,?_,by simpa using e2,by simp[Bool.and_assoc]⟩;simp only[aJ,List.take_succ_cons];unfold vg;rw[f];cases ks with
  |nil =>
   have:b1=true:=by simpa[vg] using e.symm
   subst this;simp
  |cons o i=>simp only at e ⊢;rw[e]
theorem x5:∀{ks:cY} {l m:aI} {b:Bool},vg ks l m=some b->l.length=ks.length/\m.length=ks.length
 |[],l,m,b,h=>by cases l<;>cases m<;>simp[vg]at h ⊢
 |k::ks,l,m,b,h=>by
  obtain⟨x,f,y,g,a,c,rfl,rfl,_,d,_⟩:=y5 h;obtain⟨e,e2⟩:=x5 d;simp[e,e2]
theorem Xx {S:Wo}{l:aI}{L:aW}(h:LV S l L)(a:l.length=1):∃x y,l=[x]/\L=[y]/\VR S x y:=by
 match l,a with
 |[x],_ =>
  obtain⟨y,m,rfl,b,c⟩:=h.cons_inv;rw[c.kI];exact⟨x,y,rfl,rfl,b⟩
def isStr (P:Program)(t:TypeId):Prop:=∃a,P.underlying t=some (.struct a)
theorem Ng {f:TypeId}{b:Array Field}{n:Nat}(c:P.underlying f=some (.struct b))(a:Ev.dJ P f=some n)(cs:dW)(off:Nat):bQ P (part f cs off)=some (.agg (cs.extract off (off+n))):=by
 unfold part;have d:bQ P (isAgg f)=some true:=by
  unfold isAgg;rw[bG,ct c];rfl
 have e:bQ P (sizeOf f)=some n:=by
  unfold Ev.dJ at a;cases hi:P.info? f with
  |none=>rw[hi]at a;cases a
  |some i =>
   rw[hi]at a;simp at a;subst a;unfold sizeOf typeInfo;rw[bG,qk];simp only[hi];rfl
 rw[bG,d];simp only[bh,gy];rw[bG,e];rfl
theorem Nh {f:TypeId}{d:TypeDesc}(a:P.underlying f=some d)(b:∀c,d ≠ .struct c)(g:∀n e,d ≠ .array n e)(cs:dW)(off:Nat){v:Value}(h:cs[off]? = some v):bQ P (part f cs off)=some v:=by
 unfold part;have i:bQ P (isAgg f)=some false:=by
  unfold isAgg;rw[bG,ct a];cases d<;>first|rfl|exact absurd rfl (b _)|exact absurd rfl (g _ _)
 rw[bG,i];simp only[bh,cT,eY,h];rfl
theorem SG (S:Wo):∀d,(∀t ks,wH P d t=some ks->∀D,d<=D->∀l m b L M,vg ks l m=some b->LV S l L->LV S m M ->
 (isStr P t/\bQ P (Op.equalIn D t (.agg L.toArray) (.agg M.toArray))=some b) \/
 (∃u,P.underlying t=some u/\(∀j,u ≠ .struct j)/\(∀n e,u ≠ .array n e)/\∃x y,L=[x]/\M=[y]/\bQ P (Op.equalIn D t x y)=some b)) /\
 (∀off j ks,wH.CF P d off j=some ks->∀D,d<=D->∀l m b L M,vg ks (l.drop off) (m.drop off)=some b->LV S l L->LV S m M->bQ P (Op.eqFields D L.toArray M.toArray j)=some b)
 |0=>⟨λt ks h=>by simp[wH]at h,λoff j ks h=>by simp[wH.CF]at h⟩
 |d+1=>by
  obtain⟨I,A⟩:=SG S d;refine⟨λt ks h D X l m b L M w B C=>?_,λoff j ks h D X l m b L M w B C=>?_⟩
  .obtain ⟨J,rfl⟩:∃J,D=J+1:=⟨D-1,by omega⟩;unfold wH at h;have z:∀k,ks=[k]->∃x y s v ,l=[x]/\m=[y]/\L=[s]/\M=[v]/\VR S x s/\VR S y v/\eqK k x y=some b:=λk K=>by
    subst K;obtain⟨G,e2⟩:=x5 w;obtain⟨x,s,rfl,rfl,o⟩:=Xx B (by simpa using G);obtain⟨y,v,rfl,rfl,p⟩:=Xx C (by simpa using e2);obtain⟨_,_,_,_,a,c,r1,Y,g,Z,rfl⟩:=y5 w;cases r1;cases Y;have:c=true:=by simpa[vg] using Z.symm
    subst this;exact⟨x,y,s,v,rfl,rfl,rfl,rfl,o,p,by simpa using g⟩
   split at h
   .rename_i k0 i;cases h;obtain⟨x,y,s,v,rfl,rfl,rfl,rfl,o,p,g⟩:=z 0 rfl;refine .inr ⟨_,i,λj=>by simp,λn e=>by simp,s,v,rfl,rfl,?_⟩;unfold eqK at g;split at g<;>try (cases g;done)
    .split at g
     .rename_i K;subst K;cases g;cases o;cases p;exact UM i _ _ _ _
     cases g
    .rename_i q;cases q
    rename_i q;cases q
   .rename_i i;cases h;obtain⟨x,y,s,v,rfl,rfl,rfl,rfl,o,p,g⟩:=z 1 rfl;refine .inr ⟨_,i,λj=>by simp,λn e=>by simp,s,v,rfl,rfl,?_⟩;unfold eqK at g;split at g<;>try (cases g;done)
    .rename_i q;cases q
    .cases g;cases o;cases p;exact Am i _ _ _
    rename_i q;cases q
   .rename_i i;cases h;obtain⟨x,y,s,v,rfl,rfl,rfl,rfl,o,p,g⟩:=z 2 rfl;refine .inr ⟨_,i,λj=>by simp,λn e=>by simp,s,v,rfl,rfl,?_⟩;unfold eqK at g;split at g<;>try (cases g;done)
    .rename_i q;cases q
    .rename_i q;cases q
    cases g;cases o;cases p;exact UN i _ _ _
   .rename_i j i;rw[ay]at h;split at h
    .cases h
    rename_i N;refine .inl ⟨⟨j,i⟩,?_⟩;rw[KE i (by simpa using N)];exact A 0 j.toList ks h J (by omega) l m b L M (by simpa using w) B C
   cases h
  cases j with
  |nil =>
   simp only[wH.CF,aq]at h;subst h;have hb:b=true:=by
    cases o:l.drop off<;>cases p:m.drop off<;>rw[o,p]at w<;>simp[vg]at w;exact w
   subst hb;rfl
  |cons f j =>
   simp only[wH.CF]at h;split at h
   .rename_i k1 n O U;rw[ay]at h;split at h
    .rename_i V;simp only[ak,aZ,aQ]at V;obtain⟨⟨Q,ho⟩,R⟩:=V;split at h
     .rename_i ls T;cases h;subst ho;obtain⟨b1,b2,G,e2,rfl⟩:=DE w;rw[R]at G e2;have g2:=A (f.offset+n) j ls T D (by omega) l m b2 L M (by rw[dB]at e2;rw[dB]at e2;exact e2) B C;have g1:=I f.type k1 O D (by omega) _ _ b1 _ _ G ((B.drop f.offset).take n) ((C.drop f.offset).take n);simp only[Op.eqFields];rw[ag Q];have fin:∀a c,bQ P (part f.type L.toArray f.offset)=some a->bQ P (part f.type M.toArray f.offset)=some c->bQ P (Op.equalIn D f.type a c)=some b1 ->
       bQ P (do let a <- part f.type L.toArray f.offset;let b <- part f.type M.toArray f.offset;let r <- Op.equalIn D f.type a b;if (!r)=true then pure false else Op.eqFields D L.toArray M.toArray j:Sem Bool)=some (b1&&b2):=λa c o p g=>by
       rw[bG,o];simp only[bh];rw[bG,p];simp only[bh];rw[bG,g];simp only[bh];cases b1
       .rfl
       simp only[Bool.not_true,cT,eY,eF];exact g2
      rcases g1 with⟨⟨fs',i⟩,g1⟩|⟨u,i,E,F,x,y,hx,hy,g1⟩
      .refine fin _ _ (Ng i U _ _) (Ng i U _ _) ?_;have ex:∀L:aW,L.toArray.extract f.offset (f.offset+n)=((L.drop f.offset).take n).toArray:=λL=>by
        simp[j4,iB]
       rw[ex,ex];exact g1
      have W:∀(L:aW) x,(L.drop f.offset).take n=[x]->L.toArray[f.offset]? = some x:=λL x h=>by
       have H:((L.drop f.offset).take n)[0]? = some x:=by rw[h];rfl
       rw[ez]at H;split at H
       .simpa using H
       cases H
      exact fin x y (Nh i E F _ _ (W L x hx)) (Nh i E F _ _ (W M y hy)) g1
     cases h
    cases h
   cases h
theorem IE {S:Wo}:∀{ks:cY} {l m:aI} {b:Bool} {L M:aW},vg ks l m=some b->LV S l L->LV S m M->Ev.dm L=true/\Ev.dm M=true
 |[],l,m,b,L,M,h,e,f=>by
  obtain⟨n,e2⟩:=x5 h;have d:L=[]:=aS.1 (by rw[<-e.1];simpa using n);have g:M=[]:=aS.1 (by rw[<-f.1];simpa using e2);subst d;subst g;exact⟨rfl,rfl⟩
 |k::ks,l,m,b,L,M,h,e,f=>by
  obtain⟨x,s,y,t,a,c,rfl,rfl,d,g,_⟩:=y5 h;obtain⟨o,u,rfl,v1,i⟩:=e.cons_inv;obtain⟨p,v,rfl,v2,j⟩:=f.cons_inv;obtain⟨q,r⟩:=IE g i j;have:br o=true/\br p=true:=by
   unfold eqK at d;split at d
   .cases v1;cases v2;exact⟨rfl,rfl⟩
   .cases v1;cases v2;exact⟨rfl,rfl⟩
   .cases v1;cases v2;exact⟨rfl,rfl⟩
   cases d
  exact⟨by simp[Ev.dm,this.1,q],by simp[Ev.dm,this.2,r]⟩
theorem UO {op:BinOp}{t:TypeId}(p q:Operand)(xs a:dW)(b:P.eqGuardType P.depth t=false):bQ P (eqGuard op t p q (.agg xs) (.agg a))=some ():=by
 unfold eqGuard;cases op<;>first
  |rfl
  |(
   show bQ P (program >>= λP1=>program >>= λP2=>if (!P1.eqGuardType P2.depth t)=true then pure () else _)=_;rw[qk,qk,b];rfl)
theorem KF {X:ji}{op:BinOp}{t:TypeId}{S:Wo}{bM:Operand->Value}{call:Ev.dx}{E:Mem}{o:Oper}{p q:Operand}{e:TypeId}{a b:Value}(w:Bool)(c:o.op = .binOp op t p q e)(f:bM p=a)(hy:bM q=b)(g:Ev.ET op a b=none)
 (h:Ev.vp X.P op t a b=some (.bool w)):∃d,kD X.P call bM o E=some (d,E)/\VR S (.bool w) d:=by
 refine⟨.bool w,?_,.bool w⟩;unfold kD;rw[c];show Ev.xB X.P bM o op t (bM p) (bM q) E=_;unfold Ev.xB;rw[f,hy,g,h];rfl
theorem Xy {X:ji}{β:Type}{op:BinOp}{t:TypeId}{x y:AV}{c:AV->Option β}{r:β}(h:acD X op t x y c=some r) :
 ∃v,c v=some r/\∀(S:Wo) (bM:Operand->Value) (call:Ev.dx) (E:Mem) (o:Oper) (p q:Operand) (z:TypeId),o.op = .binOp op t p q z->VR S x (bM p)->VR S y (bM q) ->
  ∃C,kD X.P call bM o E=some (C,E)/\VR S v C:=by
 unfold acD at h;split at h
 .rename_i k a k' b;obtain⟨v,C,F,H,Q,R⟩:=UI h;refine⟨v,F,λS bM call E o p q z d s hy=>⟨C,?_,R S⟩⟩;have ex:bM p = .int k a:=s.gW;have G:bM q = .int k' b:=hy.gW;refine BF d (by rw[ex];rfl) (by rw[G];rfl) Q (λu f=>?_) (by rw[ex,G];exact Xv H t p q);rw[ex,G]at f;unfold Ev.vp at f;split at f<;>first|(cases f;done)|(rename_i F H;cases F)
 .rename_i a b;obtain⟨v,C,F,H,Q,R⟩:=UK h;refine⟨v,F,λS bM call E o p q z d s hy=>⟨C,?_,R S⟩⟩;have ex:bM p = .string ⟨a.toArray⟩:=s.kH;have G:bM q = .string ⟨b.toArray⟩:=hy.kH;refine BF d (by rw[ex];rfl) (by rw[G];rfl) Q (λu f=>?_) (by rw[ex,G];exact Xw H t p q);rw[ex,G]at f;unfold Ev.vp at f;split at f<;>first|(cases f;done)|(rename_i F H;cases F)
 .rename_i a b;have key:∀(op:BinOp) (w:Bool),(op = .eql/\w=(a==b))\/(op = .neq/\w = !(a==b))->X.P.underlying t=some .bool->∀(S:Wo) (bM:Operand->Value) (call:Ev.dx) (E:Mem) (o:Oper) (p q:Operand) (z:TypeId),o.op = .binOp op t p q z->VR S (.bool a) (bM p)->VR S (.bool b) (bM q) ->
   ∃C,kD X.P call bM o E=some (C,E)/\VR S (.bool w) C:=by
   intro op w I f S bM call E o p q z d s hy;have ex:bM p = .bool a:=s.nO;have G:bM q = .bool b:=hy.nO;refine⟨.bool w,BF d (by rw[ex];rfl) (by rw[G];rfl) rfl (λu D=>?_) ?_,.bool w⟩
   .rw[ex,G]at D;unfold Ev.vp at D;rw[f]at D;rcases I with⟨rfl,rfl⟩|⟨rfl,rfl⟩
    .simp only[aq]at D;subst D;cases a<;>cases b<;>rfl
    simp only[aq]at D;subst D;cases a<;>cases b<;>rfl
   rw[ex,G,bG,QB];rcases I with⟨rfl,rfl⟩|⟨rfl,rfl⟩
   .show bQ X.P (Op.equalIn (9999+1) t (.bool a) (.bool b) >>= λb=>pure (Value.bool b))=_;rw[bG,Am f];rfl
   show bQ X.P (Op.equalIn (9999+1) t (.bool a) (.bool b) >>= λb=>pure (Value.bool (!b)))=_;rw[bG,Am f];rfl
  split at h
  .rename_i f;exact⟨_,h,key _ _ (.inl ⟨rfl,rfl⟩) f⟩
  .rename_i f;exact⟨_,h,key _ _ (.inr ⟨rfl,rfl⟩) f⟩
  cases h
 .rename_i l m;rw[ay]at h;split at h
  .cases h
  rename_i hg;have T:X.P.eqGuardType X.P.depth t=false:=by simpa using hg
  split at h
  .rename_i fs0 ks U V;have key:∀(op:BinOp) (b w:Bool),vg ks l m=some b->(op = .eql/\w=b)\/(op = .neq/\w = !b)->∀(S:Wo) (bM:Operand->Value) (call:Ev.dx) (E:Mem) (o:Oper) (p q:Operand) (z:TypeId),o.op = .binOp op t p q z->VR S (.agg l) (bM p)->VR S (.agg m) (bM q) ->
    ∃C,kD X.P call bM o E=some (C,E)/\VR S (.bool w) C:=by
    intro op b w J I S bM call E o p q z d s hy;generalize hA:bM p=A at s;generalize W:bM q=B at hy;cases s with
    |agg _ L hl D =>
     cases hy with
     |agg _ M N O =>
      obtain⟨f1,f2⟩:=IE J ⟨hl,D⟩ ⟨N,O⟩;have heq:bQ X.P (Op.equalIn 10000 t (.agg L.toArray) (.agg M.toArray))=some b:=by
       rcases (SG (P:=X.P) S 40).1 t ks V 10000 (by omega) l m b L M J ⟨hl,D⟩ ⟨N,O⟩ with⟨_,F⟩|⟨u,f,Y,hu2,x,y,rfl,rfl,F⟩
       .exact F
       rw[U]at f;cases f;exact absurd rfl (Y _)
      refine⟨.bool w,BF d (by rw[hA];exact f1) (by rw[W];exact f2) rfl (λu D=>?_) ?_,.bool w⟩
      .rw[hA,W]at D;unfold Ev.vp at D;split at D<;>first|(cases D;done)|(rename_i F H;cases F)
      rw[hA,W,bG,UO _ _ _ _ T];rcases I with⟨rfl,rfl⟩|⟨rfl,rfl⟩
      .show bQ X.P (Op.equalIn 10000 t (.agg L.toArray) (.agg M.toArray) >>= λb=>pure (Value.bool b))=_;rw[bG,heq];rfl
      show bQ X.P (Op.equalIn 10000 t (.agg L.toArray) (.agg M.toArray) >>= λb=>pure (Value.bool (!b)))=_;rw[bG,heq];rfl
   split at h
   .rename_i b J;exact⟨_,h,key _ _ _ J (.inl ⟨rfl,rfl⟩)⟩
   .rename_i b J;exact⟨_,h,key _ _ _ J (.inr ⟨rfl,rfl⟩)⟩
   cases h
  cases h
 .have key:=@KF X op t;split at h
  .rename_i f;exact⟨_,h,λS bM call E o p q z d s hy=>by
    cases g:bM p<;>rw[g]at s<;>cases s;cases n:bM q<;>rw[n]at hy<;>cases hy;exact key true d g n rfl (by unfold Ev.vp;rw[f])⟩
  .rename_i f;exact⟨_,h,λS bM call E o p q z d s hy=>by
    cases g:bM p<;>rw[g]at s<;>cases s;cases n:bM q<;>rw[n]at hy<;>cases hy;exact key false d g n rfl (by unfold Ev.vp;rw[f])⟩
  cases h
 .have key:=@KF X op t;split at h
  .rename_i f;exact⟨_,h,λS bM call E o p q z d s hy=>by
    cases g:bM p<;>rw[g]at s<;>cases s;cases n:bM q<;>rw[n]at hy<;>cases hy;exact key false d g n rfl (by unfold Ev.vp;rw[f])⟩
  .rename_i f;exact⟨_,h,λS bM call E o p q z d s hy=>by
    cases g:bM p<;>rw[g]at s<;>cases s;cases n:bM q<;>rw[n]at hy<;>cases hy;exact key true d g n rfl (by unfold Ev.vp;rw[f])⟩
  cases h
 .have key:=@KF X op t;have both:∀(w:Bool) (e:TypeId) {i a j b:Nat},X.P.underlying t=some (.pointer e)->(op = .eql/\w=true)\/(op = .neq/\w=false)->(Nat.beq i j&&Nat.beq a b&&(Ev.dJ X.P e).isSome)=true ->
   ∀(S:Wo) (bM:Operand->Value) (call:Ev.dx) (E:Mem) (o:Oper) (p q:Operand) (z:TypeId),o.op = .binOp op t p q z->VR S (.ptr i a) (bM p)->VR S (.ptr j b) (bM q)->∃C,kD X.P call bM o E=some (C,E)/\VR S (.bool w) C:=by
   intro w e i a j b f I K S bM call E o p q z d s hy;simp only[ak,aQ]at K;obtain⟨⟨rfl,rfl⟩,Z⟩:=K;generalize g:bM p=A at s;generalize n:bM q=B at hy;cases s with
   |ptr _ _ i1 c1 s1 F =>
    cases hy with
    |ptr _ _ i2 c2 s2 H =>
     rw[F]at H;cases H;refine key w d g n rfl ?_;unfold Ev.vp;rw[f];simp only;have e1:(Nat.beq i1 i1&&Nat.beq a a&&(Ev.dJ X.P e).isSome)=true:=by simp[aQ,Z]
     rw[e1];rcases I with⟨rfl,rfl⟩|⟨rfl,rfl⟩<;>rfl
  split at h
  .rename_i e f;rw[ay]at h;split at h
   .rename_i K;exact⟨_,h,both true e f (.inl ⟨rfl,rfl⟩) K⟩
   cases h
  .rename_i e f;rw[ay]at h;split at h
   .rename_i K;exact⟨_,h,both false e f (.inr ⟨rfl,rfl⟩) K⟩
   cases h
  cases h
 cases h
end
end Go.Tv
namespace Go.Tv
open Go.Ev (Tr ah jx Mem kV alive ay eA bQ iX kD br dh orElse)
def fO (X:ji)(cf:Nat×Nat->Ev.dx)(o:Oper)(ev:Operand->AV)(H:aH)(v:AV)(a:aH):Prop :=
 ∀(S:Wo) (E:Mem) (bM:Operand->Value),Rel S H E->(∀x∈o.op.operands,VR S (ev x) (bM x)) ->
  ∃S' b E',(∃N,∀n:Nat×Nat,N<=n.1/\N<=n.2->kD X.P (cf n) bM o E=some (b,E'))/\S.le S'/\VR S' v b/\Rel S' a E'/\St S H E S' a E'
section
variable {X:ji} {cf:Nat×Nat->Ev.dx} {o:Oper} {ev:Operand->AV} {H:aH} {β:Type} {r:β}
theorem fO.quiet {v:AV}(h:∀(S:Wo) (E:Mem) (bM:Operand->Value),Rel S H E->(∀x∈o.op.operands,VR S (ev x) (bM x))->∃a,(∀call,kD X.P call bM o E=some (a,E))/\VR S v a):fO X cf o ev H v H :=
 λS E bM b c=>let ⟨a,d,e⟩:=h S E bM b c;⟨S,a,E,⟨0,λn _=>d (cf n)⟩,S.le_refl,e,b,St.refl _ _ _⟩
theorem x6 {P:Program}{o:Oper}{ev:Operand->Value}{v:Value}(c:∀a b,o.op ≠ .select a b)(d:Ev.dU ev o.op=true)(h:bQ P (execOp ev o)=some (.value v))(e:br v=true):iX P ev o=some v:=by
 unfold iX;split
 .rename_i a b f;exact absurd f (c a b)
 rw[ag d,h];simp[e]
theorem UP {op:BinOp}{t c:TypeId}{p q:Operand}(a:o.op = .binOp op t p q c){k:AV->Option β}(h:acD X op t (ev p) (ev q) k=some r):∃v,k v=some r/\fO X cf o ev H v H:=by
 obtain⟨v,e,d⟩:=Xy h;refine⟨v,e,.quiet λS E bM m b=>?_⟩;rw[a]at b;obtain⟨f,_,g⟩:=d S bM (λ_ _ _=>none) E o p q c a (b p (by simp[Op.operands])) (b q (by simp[Op.operands]));refine⟨f,λcall=>?_,g⟩;obtain⟨i,n,s⟩:=d S bM call E o p q c a (b p (by simp[Op.operands])) (b q (by simp[Op.operands]));rename_i j;have l:∀c1 c2,kD X.P c1 bM o E=kD X.P c2 bM o E:=λc1 c2=>by unfold kD;rw[a]
 rw[l call (λ_ _ _=>none)];exact j
theorem ah5 {op:UnOp}{t:TypeId}{p:Operand}(c:o.op = .unOp op t p){k:AV->Option β}(h:unT op (ev p) k=some r):∃v,k v=some r/\fO X cf o ev H v H:=by
 have key:∀(v:AV) (d:Value) (x:Value),(∀S,VR S v d)->br d=true->br x=true->(∀S y,VR S (ev p) y->y=x)->bQ X.P (Op.unary op x)=some d->fO X cf o ev H v H:=by
  intro v d x j l m hy q;refine .quiet λS E bM s i=>⟨d,λcall=>?_,j S⟩
  rw[c]at i;have e:=hy S _ (i p (by simp[Op.operands]));unfold kD;rw[c];show dh E (iX X.P bM o)=_;rw[x6 (v:=d) (λa b=>by rw[c];simp) (by rw[c];simp[Ev.dU,Op.operands,e,m]) ?_ l]
  .rfl
  unfold execOp;rw[c];show bQ X.P (Op.unary op (bM p) >>= λx=>pure (Next.value x))=_;rw[bG,e,q];rfl
 unfold unT at h;split at h
 .rename_i f n g;exact⟨_,h,key _ (.int f (f.wrap (0-n))) (.int f n) (λS=>.int _ _) rfl rfl (λS y hy=>by rw[g]at hy;exact hy.gW) rfl⟩
 .rename_i f n g;exact⟨_,h,key _ (.int f _) (.int f n) (λS=>.int _ _) rfl rfl (λS y hy=>by rw[g]at hy;exact hy.gW) rfl⟩
 .rename_i b g;exact⟨_,h,key _ (.bool (!b)) (.bool b) (λS=>.bool _) rfl rfl (λS y hy=>by rw[g]at hy;exact hy.nO) rfl⟩
 cases h
theorem UQ {P:Program}{E:Mem}{t:TypeId}{n:Nat}(a:Ev.zY P t=some true)(b:Ev.dJ P t=some n)(i off:Nat):Ev.sS P E t (.pointer (some ⟨i,off,none⟩))=(Ev.ia E i off n).map λl=>.agg l.toArray:=by
 simp only[Ev.sS,a,b]
theorem UR {P:Program}{E:Mem}{t:TypeId}{b:kV}(a:Ev.zY P t=some false){i:Nat}(c:alive E i=some b)(off:Nat):Ev.sS P E t (.pointer (some ⟨i,off,none⟩))=Ev.EP b.cells[off]? := by
 simp only[Ev.sS,a,c]
theorem IG {t:TypeId}{k:AV->Option β}:tY X t [] k=none:=by
 unfold tY;split
 .rename_i n _ _;rw[ay];split
  .rename_i h;cases n<;>simp[bF,aQ]at h
  rfl
 .rfl
 rfl
theorem x7 {t:TypeId}{cs:aI}{k:AV->Option β}(h:tY X t cs k=some r):∃v,k v=some r /\
 (∀(S:Wo) (E:Mem) (i off:Nat) (b:kV) (mid post:aW),alive E i=some b->off<=b.cells.length->b.cells.drop off=mid++post->LV S cs mid->∃f,Ev.sS X.P E t (.pointer (some ⟨i,off,none⟩))=some f/\VR S v f) /\
 (∀(S:Wo) (L:aW) (off:Nat),LV S cs (L.drop off)->∃f,Ev.ER X.P t L.toArray off=some f/\VR S v f):=by
 unfold tY at h;split at h
 .rename_i n g w;rw[ay]at h;split at h
  .rename_i d;have j:n<=cs.length:=by
    simp only[ak,bF]at d;exact d.1.1
   have p:(cs.take n).all tX=true:=by
    simp only[ak]at d;exact d.2
   refine⟨_,h,λS E i off b mid post q x l a=>?_,λS L off a=>?_⟩
   .have hlen:b.cells.length=off+(mid.length+post.length):=by
     have:=bO List.length l;simp at this;omega
    refine⟨.agg (mid.take n).toArray,?_,.agg _ _ (a.take n).1 (a.take n).2⟩;rw[UQ g w];unfold Ev.ia;rw[q];have:off+n<=b.cells.length:=by rw[hlen,<-a.1];omega
    have s:(mid++post).take n=mid.take n:=eo (by rw[<-a.1];exact j);simp only[this,gy,l,s];rw[(a.take n).qp p];rfl
   refine⟨.agg ((L.drop off).take n).toArray,?_,.agg _ _ (a.take n).1 (a.take n).2⟩;unfold Ev.ER;rw[g,w];simp[j4,iB]
  cases h
 .rename_i g;split at h
  .rename_i c z;rw[ay]at h;split at h;case isFalse=>cases h
   rename_i u;refine⟨_,h,λS E i off b mid post q x l a=>?_,λS L off a=>?_⟩
   .obtain ⟨y,A,rfl,m,B⟩:=a.cons_inv;refine⟨y,?_,m⟩;rw[UR g q];have e:(b.cells.drop off)[0]? = some y:=by rw[l];rfl
    have e:b.cells[off]? = some y:=by simpa using e
    rw[e];simp only[Ev.EP,m.qp u]
   obtain⟨y,A,C,m,B⟩:=a.cons_inv;refine⟨y,?_,m⟩;unfold Ev.ER;rw[g];have e:(L.drop off)[0]? = some y:=by rw[C];rfl
   simp at e;cases Ev.dJ X.P t<;>simpa using e
  cases h
 cases h
theorem Ni {t:TypeId}{a:AV}{k:AV->Option β}(h:loadT X H t a k=some r):∃v,k v=some r/\∀S E y,Rel S H E->VR S a y->∃B,Ev.sS X.P E t y=some B/\VR S v B:=by
 unfold loadT at h;split at h
 .rename_i id off;split at h
  .rename_i cs u;obtain⟨v,d,f,_⟩:=x7 h;refine⟨v,d,λS E y g hy=>?_⟩;cases hy with
   |ptr _ _ i c s hρ =>
    obtain⟨I,c',s',b,q,k2,C,_⟩:=g.row id _ u;rw[hρ]at q;cases q;by_cases J:off<=b.cells.length
    .exact f S E i off b (b.cells.drop off) [] k2 J (by simp) (C.drop off)
    exfalso;have:cs.drop off=[]:=gO (by rw[C.1];omega);rw[this]at h;rw[IG]at h;cases h
  cases h
 .rename_i cs;obtain⟨v,d,f,_⟩:=x7 h;refine⟨v,d,λS E y g hy=>?_⟩;cases hy with
  |Ad _ i pre mid post K L w =>
   obtain⟨b,q,k2⟩:=g.fz i _ K;exact f S E i pre.length b mid post q (by rw[k2];simp) (by rw[k2];simp) ⟨L,w⟩
 .rename_i id j m iL M;split at h
  .rename_i t' e l n ex ro u;rw[ay]at h;split at h
   .rename_i N;have z:iL=n:=by simpa[aQ] using N
    subst z;obtain⟨v,d,f,_⟩:=x7 h;refine⟨v,d,λS E y g hy=>?_⟩;cases hy with
    |Er _ _ _ _ _ i c e' l' O hρ hΓ A w =>
     obtain⟨g1,_,Q⟩:=g.row id _ u;rw[g1]at hΓ;cases hΓ;rcases Q with⟨_,D,_⟩|⟨I,cap,b,mid,post,q1,q2,q3,R,T,q6,q7,q8,q9,zw⟩
     .rw[hρ]at D;cases D
     rw[hρ]at q1;cases q1;obtain⟨a,F,G,U,V,w3,w4,w5⟩:=T.get (λx c=>CR.length e x c) A;subst w;have W:=CR.length e _ _ w3;have Y:=uN e O;have Z:m<=e.size:=by
      by_cases hh:m<=e.size
      .exact hh
      rw[gO (by omega),IG]at h;cases h
     have p:b.cells=a++(F++(G++post)):=by rw[R,U];simp
     refine f S E i (j*e.size+m) b (F.drop m) (G++post) q2 ?_ ?_ ((CR.flat e _ _ w3).drop m)
     .rw[p];simp;omega
     rw[p,<-V,<-dB,eI,ek (by omega)]
   cases h
  cases h
 cases h
theorem Xz {t:TypeId}{p:Operand}(a:o.op = .load t p){k:AV->Option β}(h:loadT X H t (ev p) k=some r):∃v,k v=some r/\fO X cf o ev H v H:=by
 obtain⟨v,b,d⟩:=Ni h;refine⟨v,b,.quiet λS E bM e c=>?_⟩;rw[a]at c;obtain⟨f,b,g⟩:=d S E _ e (c p (by simp[Op.operands]));exact⟨f,λcall=>by unfold kD;rw[a];show dh E (Ev.sS X.P E t (bM p))=_;rw[b];rfl,g⟩
theorem vG {α:Type}{l:List α}{i:Int}{y:α}(h:eL l i=some y):∃n:Nat,i=(n:Int)/\l[n]? = some y:=by
 unfold eL at h;split at h
 .rename_i n;exact⟨n,rfl,h⟩
 cases h
theorem tG {α:Type}{m:Option α}{k:α->Option β} (h:Option.rec (motive:=λ_=>Option β) none k m=some r):∃y,m=some y/\k y=some r:=by
 cases m with
 |none=>cases h
 |some y=>exact⟨y,rfl,h⟩
theorem BG {i:Int}{k:Nat->Option β}:∀(n j:Nat),Qu i k n j=some r->∃m,j<=m/\m<j+n/\i=(m:Int)/\k m=some r
 |0,j,h=>by cases h
 |n+1,j,h=>by
  unfold Qu at h;rw[ay]at h;split at h
  .rename_i hi;exact⟨j,aG _,by omega,by rw[Ev.fD]at hi;simpa using hi,h⟩
  obtain⟨m,c,d,a,b⟩:=BG n (j+1) h;exact⟨m,by omega,by omega,a,b⟩
theorem KH {i:Int}{n m:Nat}(hi:i=(m:Int))(a:m<n):Ev.Ur i n=some m:=by
 subst hi;show ah (Nat.ble (Nat.succ m) n) (some m) none=some m;rw[ay,Ev.oG,ag (by simpa using a)]
theorem fM {α:Type}{l:List α}{n:Nat}{y:α}(h:l[n]? = some y):n<l.length:=(bH.1 h).1
theorem Ao {P:Program}{t te:TypeId}{s:Nat}(a:P.underlying t=some (.slice te))(c:Ev.dJ P te=some s)(b off len cap:Nat)(k:IntKind)(m:Nat)(d:m<len) :
 Ev.JV P t (.slice (some ⟨b,off,none⟩) len cap) (.int k (m:Int))=some (.pointer (some ⟨b,off+m*s,none⟩)):=by
 simp only[Ev.JV,a,c,KH rfl d];rfl
theorem Ap {P:Program}{t te:TypeId}{s n:Nat}(a:P.underlying t=some (.array n te))(c:Ev.dJ P te=some s)(b off:Nat)(k:IntKind)(m:Nat)(d:m<n) :
 Ev.JV P t (.pointer (some ⟨b,off,none⟩)) (.int k (m:Int))=some (.pointer (some ⟨b,off+m*s,none⟩)):=by
 simp only[Ev.JV,a,c,KH rfl d];rfl
theorem acI {t:TypeId}{p q:Operand}(L:o.op = .indexAddr t p q){k:AV->Option β}(h:ahT X H t (ev p) (ev q) k=some r):∃v,k v=some r/\fO X cf o ev H v H:=by
 have fin:∀v,(∀S E x y,Rel S H E->VR S (ev p) x->VR S (ev q) y->∃Q,Ev.JV X.P t x y=some Q/\VR S v Q)->fO X cf o ev H v H:=λv hv=>.quiet λS E bM D V=>by
  rw[L]at V;obtain⟨Q,A,h2⟩:=hv S E _ _ D (V p (by simp[Op.operands])) (V q (by simp[Op.operands]));exact⟨Q,λcall=>by unfold kD;rw[L];show dh E (Ev.JV X.P t (bM p) (bM q))=_;rw[A];rfl,h2⟩
 unfold ahT at h;split at h
 .rename_i te ki i I J;split at h
  .rename_i s K;split at h
   .rename_i e l C;rw[ay]at h;split at h
    .rename_i j;have d:s=e.size:=by simpa[aQ] using j
     obtain⟨y,hy,A⟩:=tG h;obtain⟨n,rfl,B⟩:=vG hy;refine⟨_,A,fin _ λS E x z D u w=>?_⟩;rw[C]at u;rw[J]at w;rw[w.gW];cases u with
     |eC _ _ _ hS =>
      rcases hS with⟨R,_⟩|⟨F,pre,mid,post,cap,rfl,W,hC,hcap⟩
      .subst R;simp at B
      rw[Ao I K _ _ _ _ _ _ (fM B)];obtain⟨a,cc,bb,w1,w2,w3,w4,w5⟩:=hC.get (λx c=>CR.length e x c) B;refine⟨_,rfl,?_⟩;have:=VR.Ad (S:=S) (flat e y) F (pre++a) cc (bb++post) (by rw[W,w1];simp) (CR.flat e _ _ w3).1 (CR.flat e _ _ w3).2;rw[aA,w2,<-d]at this;exact this
    cases h
   .rename_i id n0 C;split at h
    .rename_i t' e l iL ex ro M;rw[ay]at h;split at h
     .rename_i j;have d:s=e.size:=by simpa[aQ] using j
      obtain⟨y,hy,A⟩:=tG h;obtain⟨n,rfl,B⟩:=vG hy;refine⟨_,A,fin _ λS E x z D u w=>?_⟩;rw[C]at u;rw[J]at w;rw[w.gW];obtain⟨g1,⟨_,g,T,Y⟩,N⟩:=D.row id _ M;cases u with
      |own _ _ F U Z hρ g' f O =>
       rw[T]at f;cases f;rcases N with⟨_,G,_⟩|⟨i',cap,b,mid,post,q1,q2,q3,q4,q5,q6,q7,q8,q9,zw⟩
       .rw[hρ]at G;cases G
       rw[hρ]at q1;cases q1;rw[Ao I K _ _ _ _ _ _ (by have:=fM B;omega)];refine⟨_,rfl,?_⟩;have:=VR.Er (S:=S) id n 0 iL (flat e y) F U e l y hρ g1 B rfl;rw[<-d]at this;simpa using this
      |iw _ g' f O =>
       rw[T]at f;cases f;have:=fM B;omega
     cases h
    cases h
   .rename_i id off len U C;split at h
    .rename_i t' e l iL ex ro M;rw[ay]at h;split at h
     .rename_i j;have d:s=e.size:=by simpa[aQ] using j
      obtain⟨y,hy,A⟩:=tG h;obtain⟨n,rfl,B⟩:=vG hy;refine⟨_,A,fin _ λS E x z D u w=>?_⟩;rw[C]at u;rw[J]at w;rw[w.gW];obtain⟨g1,_,N⟩:=D.row id _ M;rw[ez]at B;split at B
      .rename_i hlt;cases u with
       |tc _ _ _ _ F c0 Z hρ g' f hc R =>
        rcases N with⟨_,G,_⟩|⟨i',cap,b,mid,post,q1,q2,q3,q4,q5,q6,q7,q8,q9,zw⟩
        .rw[hρ]at G;cases G
        rw[hρ]at q1;cases q1;rw[Ao I K _ _ _ _ _ _ hlt];refine⟨_,rfl,?_⟩;have:=VR.Er (S:=S) id (off+n) 0 iL (flat e y) F c0 e l y hρ g1 (by simpa using B) rfl;rw[<-d,dX]at this;rw[<-d];simpa using this
      cases B
     cases h
    cases h
   cases h
  cases h
 .rename_i n te ki i I J;split at h
  .rename_i s K;split at h
   .rename_i id off C;obtain⟨m,_,hm,rfl,A⟩:=BG _ _ h;refine⟨_,A,fin _ λS E x z D u w=>?_⟩;rw[C]at u;rw[J]at w;rw[w.gW];cases u with
    |ptr _ _ F c Z hρ =>
     rw[Ap I K _ _ _ _ (by omega)];exact⟨_,rfl,.ptr _ _ _ _ _ hρ⟩
   .rename_i cs C;obtain⟨m,_,hm,rfl,A⟩:=BG _ _ h;rw[ay]at A;split at A
    .rename_i hle;have hle':m*s<=cs.length:=by simpa[bF] using hle
     refine⟨_,A,fin _ λS E x z D u w=>?_⟩;rw[C]at u;rw[J]at w;rw[w.gW];cases u with
     |Ad _ F pre mid post W R hc =>
      rw[Ap I K _ _ _ _ (by omega)];refine⟨_,rfl,?_⟩;have hd:=LV.drop (S:=S) ⟨R,hc⟩ (m*s);have:=VR.Ad (S:=S) (cs.drop (m*s)) F (pre++mid.take (m*s)) (mid.drop (m*s)) post (by rw[W,bC,<-bC (mid.take (m*s)),fk]) hd.1 hd.2;rw[aA,bV,iG (by omega)]at this;exact this
    cases A
   .rename_i id n' C;split at h
    .rename_i t' e l iL ex ro M;rw[ay]at h;split at h
     .rename_i j;simp only[ak,aQ]at j;obtain⟨d,rfl⟩:=j;obtain⟨y,hy,A⟩:=tG h;obtain⟨m,rfl,B⟩:=vG hy;refine⟨_,A,fin _ λS E x z D u w=>?_⟩;rw[C]at u;rw[J]at w;rw[w.gW];obtain⟨g1,⟨_,g,T,Y⟩,N⟩:=D.row id _ M;cases u with
      |FB _ _ F U Z hρ g' f O =>
       rw[T]at f;cases f;rcases N with⟨_,G,_⟩|⟨i',cap,b,mid,post,q1,q2,q3,q4,q5,q6,q7,q8,q9,zw⟩
       .rw[hρ]at G;cases G
       rw[hρ]at q1;cases q1;rw[Ap I K _ _ _ _ (by have:=fM B;omega)];refine⟨_,rfl,?_⟩;have:=VR.Er (S:=S) id m 0 iL (flat e y) F U e l y hρ g1 B rfl;rw[<-d]at this;simpa using this
     cases h
    cases h
   cases h
  cases h
 cases h
theorem US {s:TypeId}{p:Operand}{f:Nat}(g:o.op = .fieldAddr s p f){k:AV->Option β}(h:Qv X s (ev p) f k=some r):∃v,k v=some r/\fO X cf o ev H v H:=by
 have fin:∀v,(∀S x,VR S (ev p) x->∃q,Ev.zZ X.P s x f=some q/\VR S v q)->fO X cf o ev H v H:=λv D=>.quiet λS E bM R A=>by
  rw[g]at A;obtain⟨q,F,G⟩:=D S _ (A p (by simp[Op.operands]));exact⟨q,λcall=>by unfold kD;rw[g];show dh E (Ev.zZ X.P s (bM p) f)=_;rw[F];rfl,G⟩
 unfold Qv at h;split at h
 .rename_i T I;split at h
  .rename_i a J;split at h
   .rename_i n K;rw[ay]at h;split at h
    .cases h
    rename_i L;have t:¬n=0:=by simpa[aQ] using L
    have hA:∀b off,Ev.zZ X.P s (.pointer (some ⟨b,off,none⟩)) f=some (.pointer (some ⟨b,off+a.offset,none⟩)):=λb off=>by
     simp only[Ev.zZ,I,J,K,aa t]
    split at h
    .rename_i id off m;refine⟨_,h,fin _ λS x d=>?_⟩;rw[m]at d;cases d with
     |ptr _ _ i c U hρ=>rw[hA];exact⟨_,rfl,.ptr _ _ _ _ _ hρ⟩
    .rename_i cs m;rw[ay]at h;split at h
     .rename_i u;have B:a.offset<=cs.length:=by simpa[bF] using u
      refine⟨_,h,fin _ λS x d=>?_⟩;rw[m]at d;cases d with
      |Ad _ M pre mid post N O w =>
       rw[hA];refine⟨_,rfl,?_⟩;have C:=LV.drop (S:=S) ⟨O,w⟩ a.offset;have:=VR.Ad (S:=S) (cs.drop a.offset) M (pre++mid.take a.offset) (mid.drop a.offset) post (by rw[N,bC,<-bC (mid.take a.offset),fk]) C.1 C.2;rw[aA,bV,iG (by omega)]at this;exact this
     cases h
    .rename_i id j Q iL z m;refine⟨_,h,fin _ λS x d=>?_⟩;rw[m]at d;cases d with
     |Er _ _ _ _ _ i c e l y hρ hΓ hy w =>
      rw[hA];refine⟨_,rfl,?_⟩;have:=VR.Er (S:=S) id j (Q+a.offset) iL z i c e l y hρ hΓ hy w;rw[<-kU]at this;exact this
    cases h
   cases h
  cases h
 cases h
theorem QC {t:TypeId}{p:Operand}{f:Nat}{d:Array Field}{cs:aI}{b:Field}(a:o.op = .field t p f)(g:X.P.underlying t=some (.struct d))(i:ev p = .agg cs)(j:d[f]? = some b){k:AV->Option β}
 (h:tY X b.type (cs.drop b.offset) k=some r):∃v,k v=some r/\fO X cf o ev H v H:=by
 obtain⟨v,l,_,m⟩:=x7 h;refine⟨v,l,.quiet λS E bM x e=>?_⟩;rw[a]at e;have c:=e p (by simp[Op.operands]);rw[i]at c;generalize hA:bM p=A at c;cases c with
 |agg _ L n q =>
  obtain⟨s,u,w⟩:=m S L b.offset (LV.drop ⟨n,q⟩ _);refine⟨s,λcall=>?_,w⟩;unfold kD;rw[a];show dh E (Ev.A5 X.P t (bM p) f)=_;rw[hA];simp only[Ev.A5,g,j,u];rfl
theorem UT {t:TypeId}{p q:Operand}(a:o.op = .index t p q){k:AV->aH->Option β}
 (h:(match X.P.underlying t,ev p,ev q with
 |some .string,.str s,.int _ i=>Option.rec (motive:=λ_=>Option β) none (λc=>k (.int .u8 (cS c)) H) (eL s i)
 |some (.array n te),.agg cs,.int _ i=>match Ev.dJ X.P te with
  |some s=>Qu i (λj=>tY X te (cs.drop (Nat.mul j s)) λv=>k v H) n 0
  |none=>none
 |_,_,_=>none)=some r):∃v,k v H=some r/\fO X cf o ev H v H:=by
 split at h
 .rename_i s g i l u w;obtain⟨c,z,x⟩:=tG h;obtain⟨n,rfl,B⟩:=vG z;refine⟨_,x,.quiet λS E bM C d=>⟨.int .u8 (cS c),λcall=>?_,.int _ _⟩⟩;rw[a]at d;have f:=d p (by simp[Op.operands]);have hy:=d q (by simp[Op.operands]);rw[u]at f;rw[w]at hy;unfold kD;rw[a];show dh E (orElse (Ev.sj X.P t (bM p) (bM q)) _)=_;rw[f.kH,hy.gW];have e:Ev.sj X.P t (.string ⟨s.toArray⟩) (.int g (n:Int))=some (.int .u8 (cS c)):=by
   show (match X.P.underlying t,Value.string ⟨s.toArray⟩,Value.int g (Int.ofNat n) with
    |some .string,.string s,.int _ (.ofNat i)=>match s.data.toList[i]? with
     |some b=>some (Value.int .u8 (.ofNat b.toNat))
     |none=>none
    |_,_,_=>none)=_
   rw[l];simp[B,cS]
  rw[e];rfl
 .rename_i n te cs g i l u w;split at h
  .rename_i s D;obtain⟨m,_,O,rfl,x⟩:=BG _ _ h;obtain⟨v,F,_,G⟩:=x7 x;refine⟨v,F,.quiet λS E bM C d=>?_⟩;rw[a]at d;have f:=d p (by simp[Op.operands]);have hy:=d q (by simp[Op.operands]);rw[u]at f;rw[w]at hy;generalize hA:bM p=A at f;cases f with
   |agg _ L I J =>
    obtain⟨y,K,M⟩:=G S L (m*s) (LV.drop ⟨I,J⟩ _);refine⟨y,λcall=>?_,M⟩;unfold kD;rw[a];show dh E (orElse (Ev.sj X.P t (bM p) (bM q)) (orElse (Ev.yR X.P t (bM p) (bM q)) _))=_;rw[hA,hy.gW];have N:Ev.sj X.P t (.agg L.toArray) (.int g (m:Int))=none:=by simp only[Ev.sj,l]
    have e2:Ev.yR X.P t (.agg L.toArray) (.int g (m:Int))=some y:=by
     simp only[Ev.yR,l,D,KH rfl (show m<n by omega)];exact K
    rw[N,e2];rfl
  cases h
 cases h
theorem acJ {c:Call}{x:Operand}{t:TypeId}(d:o.op = .call c)(e:c.callee = .builtin .len)(f:c.args[0]? = some x)(i:c.argTypes[0]? = some t){k:AV->Option β}(h:ahY X t (ev x) k=some r):∃v,k v=some r/\fO X cf o ev H v H:=by
 have fin:∀n:Nat,(∀S y,VR S (ev x) y->Ev.uZ X.P t y=some (goInt n))->fO X cf o ev H (.int .i64 n) H:=λn j=>.quiet λS E bM p g=>by
  refine⟨goInt n,λcall=>?_,.int _ _⟩;rw[d]at g;have l:=g x (by
   have:=bq f;simp only[Op.operands,Call.operands,e];simpa using this)
  unfold kD;rw[d];show Ev.fu X.P call bM o c E=_;unfold Ev.fu;rw[e];show Ev.A6 X.P bM o c.args c.argTypes E=_;unfold Ev.A6;rw[f,i];simp only[j S _ l];rfl
 unfold ahY at h;split at h
 .rename_i a b;refine⟨_,h,fin _ λS y hy=>?_⟩;rw[b]at hy;cases hy with
  |eC _ _ _ m =>
   rcases m with⟨rfl,rfl|rfl⟩|⟨q,pre,mid,post,cap,rfl,_⟩
   .simp only[Ev.uZ,a];rfl
   .simp only[Ev.uZ,Ev.vd,a];rfl
   simp only[Ev.uZ,a]
 .rename_i a b;refine⟨_,h,fin 0 λS y hy=>?_⟩;rw[b]at hy;cases hy;simp only[Ev.uZ,a]
 .rename_i a b;refine⟨_,h,fin _ λS y hy=>?_⟩;rw[b]at hy;cases hy<;>simp only[Ev.uZ,a]
 .rename_i a b;refine⟨_,h,fin _ λS y hy=>?_⟩;rw[b]at hy;cases hy;simp only[Ev.uZ,a]
 .rename_i s a b;refine⟨_,h,fin _ λS y hy=>?_⟩;rw[b]at hy;rw[hy.kH];simp[Ev.uZ,a,ByteArray.size]
 cases h
end
end Go.Tv

/- A layer above the evaluator: values that may be known by terms alone (numbers, texts, lists); definitions. The layer's values and memory beside the evaluator's. The layer's memory beside the evaluator's. The layer's operations on numbers and texts beside the evaluator's. Structs held by ==; operations of one operand; conversions of numbers; bytes and parts of texts. The layer's operations beside the evaluator's: those that change no memory. -/
import Derived.Test.YtpaddkkfefgkfaaGreatDoorLyc
import Derived.Laws.StructEq
set_option linter.unusedVariables false
set_option linter.unusedSimpArgs false

namespace Go.Tv
open Go.Ev (Tr pick2 Leave)
noncomputable section
inductive Ty where
 |int (k:IntKind)
 |bool
 |str
 |kV
 |unit
 |sl (e:Ty)
 |pair (a b:Ty)
 deriving DecidableEq
@[reducible] def Ty.den (t:Ty):Type :=
 Ty.rec (motive:=λ_=>Type) (λ_=>Int) Bool (List UInt8) Nat Unit (λ_ d=>List d) (λ_ _ a b=>a×b) t
def Ty.size:Ty->Nat
 |.int _=>1
 |.bool=>1
 |.str=>1
 |.kV=>1
 |.unit=>0
 |.sl _=>1
 |.pair a b=>a.size+b.size
def Ty.zero:(t:Ty)->t.den
 |.int _=>(0:Int)
 |.bool=>false
 |.str=>([]:List UInt8)
 |.kV=>(0:Nat)
 |.unit=>()
 |.sl e=>([]:List e.den)
 |.pair a b=>(a.zero,b.zero)
def Ty.tV:Ty->Bool
 |.sl _=>false
 |.pair a b=>a.tV&&b.tV
 |_=>true
def eP (e e':Ty) (l:List e.den):Option (List e'.den) :=
 if h:e=e' then some (h ▸ l) else none
inductive AV where
 |int (k:IntKind) (n:Int)
 |bool (b:Bool)
 |str (s:List UInt8)
 |kV (n:Nat)
 |bF (e:Ty) (l:List e.den)
 |bK
 |own (id n:Nat)
 |pz (id off len cap:Nat)
 |ptr (id off:Nat)
 |AG (id j fo cw:Nat) (cur:List AV)
 |Er (id n:Nat)
 |yX (id:Nat)
 |dat (id:Nat)
 |vp (cs:List AV)
 |je
 |fn (f:FuncId) (a b:List AV)
 |agg (l:List AV)
 |cB (l:List AV)
 |xR (v:Value)
 |fl (a:Option Nat)
 |cx (a b:Option Nat)
 |iC
inductive Row where
 |dead
 |cells (t:TypeId) (cs:List AV)
 |list (t:TypeId) (e:Ty) (l:List e.den) (cw:Nat) (ex ro:Bool)
 |mp (t:TypeId) (ks:List (List UInt8×Int))
 |mf (t:TypeId) (ks:List (AV×AV))
structure aa where
 next:Nat
 lk:Nat
 par:Nat
 t:Tr Row
def aa.get (H:aa) (i:Nat):Option Row :=
 match H.t.get i with
 |some .dead=>none
 |some r=>pick2 (Nat.ble (Nat.succ i) H.next) (some r) none
 |none=>none
def aa.put (H:aa) (i:Nat) (r:Row):aa :=
 Option.rec (motive:=λ_=>aa) H (λt=>⟨H.next,H.lk,H.par,t⟩) (H.t.set i r)
def aa.push (H:aa) (r:Row):aa :=
 Option.rec (motive:=λ_=>aa) H (λt=>⟨Nat.add H.next 1,H.lk,H.par,t⟩) (H.t.set H.next r)
def aa.empty:aa:=⟨0,0,0,.e⟩
structure cj where
 n:Nat
 t:Tr AV
def cj.get (f:cj) (i:Nat):AV:=Option.rec (motive:=λ_=>AV) .iC (λv=>v) (f.t.get i)
def cj.put (f:cj) (dst:Option Tmp) (v:AV):cj :=
 Option.rec (motive:=λ_=>cj) f (λd=>pick2 (Nat.ble (Nat.succ d) f.n) (Option.rec (motive:=λ_=>cj) f (λt=>⟨f.n,t⟩) (f.t.set d v)) f) dst
def cj.fill (f:cj):Nat->List AV->cj
 |_,[]=>f
 |i,v::l=>(f.put (some i) v).fill (i+1) l
structure cI where
 P:Program
 G:Nat
 gv:Nat->List AV
 ar:TypeId->Bool:=λ_=>false
 trs:FuncId->List Tmp:=λ_=>[]
 rm:Bool:=false
 kl:FuncId->Bool:=λ_=>false
 fl:Bool:=false
def Es:Value->AV
 |.int k n=>.int k n
 |.bool b=>.bool b
 |.string s=>.str s.data.toList
 |.float .f64 n=>.kV n
 |.pointer none=>.je
 |.slice none 0 0=>.bK
 |v=>.xR v
def ofV:Value->AV
 |.agg cs=>.agg (cs.toList.map Es)
 |v=>Es v
def V1:List AV->AV
 |[]=>.iC
 |c::cs=>.vp (c::cs)
def cj.eval (X:cI) (f:cj):Operand->AV
 |.tmp t=>f.get t
 |.const v=>ofV v
 |.global g=>V1 (X.gv g)
 |.func f=>.fn f [] []
def flat:(e:Ty)->e.den->List AV
 |.int k,n=>[.int k n]
 |.bool,b=>[.bool b]
 |.str,s=>[.str s]
 |.kV,n=>[.kV n]
 |.unit,_=>[]
 |.sl e,l=>[.bF e l]
 |.pair a b,x=>flat a x.1++flat b x.2
def XB (k:IntKind):List AV->Option (Int×List AV)
 |.int k' n::r=>if k=k' then some (n,r) else none
 |_=>none
def Ot:List AV->Option (Bool×List AV)
 |.bool b::r=>some (b,r)
 |_=>none
def XC:List AV->Option (List UInt8×List AV)
 |.str s::r=>some (s,r)
 |_=>none
def XD:List AV->Option (Nat×List AV)
 |.kV n::r=>some (n,r)
 |_=>none
def hSl (e:Ty):List AV->Option (List e.den×List AV)
 |
  .bF e' l::r=>match eP e' e l with
  |some l'=>some (l',r)
  |none=>none
 |.bK::r=>some ([],r)
 |_=>none
def sr:(e:Ty)->List AV->Option (e.den×List AV)
 |.int k,r=>XB k r
 |.bool,r=>Ot r
 |.str,r=>XC r
 |.kV,r=>XD r
 |.unit,r=>some ((),r)
 |.sl e,r=>hSl e r
 |
  .pair a b,r=>match sr a r with
  |
   some (x,r1)=>match sr b r1 with
   |some (y,r2)=>some ((x,y),r2)
   |none=>none
  |none=>none
def oK (e:Ty):Nat->List AV->Option (List e.den)
 |0,[]=>some []
 |0,_::_=>none
 |
  n+1,r=>match sr e r with
  |
   some (x,r1)=>match oK e n r1 with
   |some l=>some (x::l)
   |none=>none
  |none=>none
def HW (P:Program):Nat->TypeId->Option Ty
 |0,_=>none
 |
  d+1,t=>match P.underlying t with
  |some (.int k)=>some (.int k)
  |some .bool=>some .bool
  |some .string=>some .str
  |some (.float .f64)=>some .kV
  |
   some (.slice e)=>match HW P d e with
   |some x=>some (.sl x)
   |none=>none
  |some (.struct fs)=>Fp P d fs.toList
  |_=>none
where Fp (P:Program):Nat->List Field->Option Ty
 |0,_=>none
 |_+1,[]=>some .unit
 |d+1,[f]=>HW P d f.type
 |
  d+1,f::fs=>match HW P d f.type,Fp P d fs with
  |some a,some b=>some (.pair a b)
  |_,_=>none
def aI {α:Type} (l:List α) (i:Int):Option α :=
 match i with
 |.ofNat n=>l[n]?
 |.negSucc _=>none
def aF (c:UInt8):Int:=Int.ofNat c.toNat
def Et (n:Int):UInt8:=UInt8.ofNat n.toNat
def wN (H:aa) (e:Ty):AV->Option (List e.den)
 |.bF e' l=>eP e' e l
 |.bK=>some []
 |
  .own id _=>match H.get id with
  |some (.list _ e' l _ _ _)=>eP e' e l
  |_=>none
 |
  .pz id off len _=>match H.get id with
  |
   some (.list _ e' l _ _ _)=>match eP e' e l with
   |some l'=>some ((l'.drop off).take len)
   |none=>none
  |_=>none
 |.str s=>eP (.int .u8) e (s.map aF)
 |_=>none
def yY:AV->Option (List AV)
 |.agg l=>some l
 |.cB _=>none
 |.iC=>none
 |.fl _=>none
 |.cx _ _=>none
 |.xR v=>pick2 (Ev.plainCell v) (some [.xR v]) none
 |v=>some [v]
def l8:AV->Bool
 |.agg _=>false
 |.cB _=>false
 |.iC=>false
 |.fl _=>false
 |.cx _ _=>false
 |.xR v=>Ev.plainCell v
 |_=>true
def gZ {α:Type} (l:List α) (off:Nat):List α->List α
 |[]=>l
 |v::vs=>gZ (l.set off v) (off+1) vs
def aa.ju (H:aa) (id:Nat):Bool:=Nat.ble H.lk id
section
variable {β:Type}
def l9 (X:cI) (t:TypeId) (cs:List AV) (k:AV->Option β):Option β :=
 match Ev.rW X.P t,Ev.aM X.P t with
 |some true,some n=>pick2 (Nat.ble n cs.length && !(Nat.beq n 0)&&(cs.take n).all l8) (k (.agg (cs.take n))) none
 |
  some false,_=>match cs with
  |c::_=>pick2 (l8 c) (k c) none
  |[]=>none
 |_,_=>none
def loadT (X:cI) (H:aa) (t:TypeId) (a:AV) (k:AV->Option β):Option β :=
 match a with
 |
  .ptr id off=>match H.get id with
  |some (.cells _ cs)=>l9 X t (cs.drop off) k
  |_=>none
 |.vp cs=>l9 X t cs k
 |
  .AG id _ fo cw cur=>match H.get id with
  |some (.list _ _ _ ver' _ _)=>pick2 (Nat.beq cw ver') (l9 X t (cur.drop fo) k) none
  |_=>none
 |_=>none
def storeT (X:cI) (H:aa) (t:TypeId) (a x:AV) (k:aa->Option β):Option β :=
 match a,Ev.aM X.P t,yY x with
 |
  .ptr id off,some n,some vs=>match H.get id with
  |some (.cells t' cs)=>pick2 (H.ju id&&Nat.beq vs.length n&&vs.all l8&&Nat.ble (Nat.add off n) cs.length) (k (H.put id (.cells t' (gZ cs off vs)))) none
  |_=>none
 |
  .AG id j fo cw cur,some n,some vs=>match H.get id with
  |some (.list t' e l ver' ex ro)=>pick2 (H.ju id&&Nat.beq vs.length n&&vs.all l8&&Nat.ble (Nat.add fo n) cur.length&&Nat.beq cw ver' && !ro)
   (match sr e (gZ cur fo vs) with
    |some (y,[])=>k (H.put id (.list t' e (l.set j y) (cw+1) ex ro))
    |_=>none) none
  |_=>none
 |_,_,_=>none
def HX (i:Int) (k:Nat->Option β):Nat->Nat->Option β
 |0,_=>none
 |n+1,j=>pick2 (Ev.eqI i (Int.ofNat j)) (k j) (HX i k n (j+1))
def XE (X:cI) (H:aa) (t:TypeId) (x ix:AV) (k:AV->Option β):Option β :=
 match X.P.underlying t,ix with
 |
  some (.slice te),.int _ i=>match Ev.aM X.P te with
  |
   some s=>match x with
   |.bF e l=>pick2 (Nat.beq s e.size) (Option.rec (motive:=λ_=>Option β) none (λy=>k (.vp (flat e y))) (aI l i)) none
   |
    .own id _=>match H.get id with
    |some (.list _ e l cw _ _)=>pick2 (Nat.beq s e.size) (Option.rec (motive:=λ_=>Option β) none (λy=>k (.AG id i.toNat 0 cw (flat e y))) (aI l i)) none
    |_=>none
   |
    .pz id off len _=>match H.get id with
    |some (.list _ e l cw _ _)=>pick2 (Nat.beq s e.size) (Option.rec (motive:=λ_=>Option β) none (λy=>k (.AG id (off+i.toNat) 0 cw (flat e y))) (aI ((l.drop off).take len) i)) none
    |_=>none
   |_=>none
  |none=>none
 |
  some (.array n te),.int _ i=>match Ev.aM X.P te with
  |
   some s=>match x with
   |.ptr id off=>HX i (λj=>k (.ptr id (Nat.add off (Nat.mul j s)))) n 0
   |.vp cs=>HX i (λj=>pick2 (Nat.ble (Nat.mul j s) cs.length) (k (.vp (cs.drop (Nat.mul j s)))) none) n 0
   |
    .Er id n'=>match H.get id with
    |some (.list _ e l cw _ _)=>pick2 (Nat.beq s e.size&&Nat.beq n' n) (Option.rec (motive:=λ_=>Option β) none (λy=>k (.AG id i.toNat 0 cw (flat e y))) (aI l i)) none
    |_=>none
   |_=>none
  |none=>none
 |_,_=>none
def HY (X:cI) (s:TypeId) (x:AV) (f:Nat) (k:AV->Option β):Option β :=
 match X.P.underlying s with
 |
  some (.struct fs)=>match fs[f]? with
  |
   some fd=>match Ev.aM X.P fd.type with
   |
    some n=>pick2 (Nat.beq n 0) none (match x with
    |.ptr id off=>k (.ptr id (Nat.add off fd.offset))
    |.vp cs=>pick2 (Nat.ble fd.offset cs.length) (k (.vp (cs.drop fd.offset))) none
    |.AG id j fo cw cur=>k (.AG id j (Nat.add fo fd.offset) cw cur)
    |_=>none)
   |none=>none
  |none=>none
 |_=>none
def j6 (len cap:Nat) (lo hi:Option AV) (k:Int->Int->Option β):Option β :=
 match lo,hi with
 |none,none=>k 0 len
 |some (.int _ a),none=>pick2 (!Ev.ltI a 0 && !Ev.ltI (Int.ofNat len) a) (k a len) none
 |none,some (.int _ b)=>pick2 (!Ev.ltI b 0 && !Ev.ltI (Int.ofNat cap) b) (k 0 b) none
 |some (.int _ a),some (.int _ b)=>pick2 (!Ev.ltI a 0 && !Ev.ltI b a && !Ev.ltI (Int.ofNat cap) b) (k a b) none
 |_,_=>none
def bz {α:Type} (l:List α) (a b:Int):List α:=(l.drop a.toNat).take (b.toNat-a.toNat)
def yZ (X:cI) (H:aa) (t:TypeId) (x:AV) (lo hi:Option AV) (k:AV->aa->Option β):Option β :=
 match X.P.underlying t,x with
 |some .string,.str s=>j6 s.length s.length lo hi λa b=>k (.str (bz s a b)) H
 |some (.slice te),.bF e l=>pick2 (Ev.aM X.P te==some e.size) (j6 l.length l.length lo hi λa b=>pick2 (Ev.eqI a 0||Ev.ltI a (Int.ofNat l.length)) (k (.bF e (bz l a b)) H) none) none
 |
  some (.slice te),.pz id off len cap=>match H.get id with
  |some (.list _ e _ _ true _)=>pick2 (Ev.aM X.P te==some e.size) (j6 len cap lo hi λa b=>pick2 (Ev.eqI a 0||Ev.ltI a (Int.ofNat cap)) (k (.pz id (off+a.toNat) (b.toNat-a.toNat) (cap-a.toNat)) H) none) none
  |_=>none
 |
  some (.slice te),.own id n=>match H.get id with
  |some (.list t' e l cw ex _)=>pick2 (Ev.aM X.P te==some e.size&&H.ju id) (j6 l.length l.length lo hi λa b=>pick2 (Ev.eqI a 0||Ev.ltI a (Int.ofNat l.length)) (k (.bF e (bz l a b)) (H.put id (.list t' e l cw ex true))) none) none
  |_=>none
 |some (.slice te),.bK=>pick2 (Ev.aM X.P te).isSome (j6 0 0 lo hi λ_ _=>k .bK H) none
 |
  some (.array n te),.Er id n'=>match H.get id with
  |some (.list _ e _ _ true _)=>pick2 (Ev.aM X.P te==some e.size&&Nat.beq n' n) (j6 n n lo hi λa b=>pick2 (Ev.eqI a 0||Ev.ltI a (Int.ofNat n)) (k (.pz id a.toNat (b.toNat-a.toNat) (n-a.toNat)) H) none) none
  |_=>none
 |_,_=>none
def HZ (X:cI) (H:aa) (t:TypeId) (x:AV) (hi:AV) (k:AV->aa->Option β):Option β :=
 match X.P.underlying t,x,hi with
 |
  some (.slice te),.own id _,.int _ b=>match H.get id with
  |some (.list t' e l _ _ false)=>pick2 (Ev.aM X.P te==some e.size&&H.ju id)
   (pick2 (!Ev.ltI b 0 && !Ev.ltI (Int.ofNat l.length) b) (k (.own H.next b.toNat) ((H.put id .dead).push (.list t' e (l.take b.toNat) 0 false false))) none) none
  |_=>none
 |some (.slice _),.bK,.int kb b=>yZ X H t .bK none (some (.int kb b)) k
 |_,_,_=>none
def p6 (ev:Operand->AV) (ps:Array (Nat×Operand)):List (Nat×AV):=ps.toList.map λq=>(q.1,ev q.2)
def y3 (place:Nat->Option (Nat×Nat)) (cells:List AV):List (Nat×AV)->Option (List AV)
 |[]=>some cells
 |
  (i,v)::rest=>match place i,yY v with
  |some (off,size),some vs=>pick2 (Nat.beq vs.length size&&Nat.ble (Nat.add off vs.length) cells.length) (y3 place (gZ cells off vs) rest) none
  |_,_=>none
def placesOf (P:Program):List Field->Option (List (Nat×Nat))
 |[]=>some []
 |
  f::fs=>match P.info? f.type,placesOf P fs with
  |some i,some l=>some ((f.offset,i.size)::l)
  |_,_=>none
def wO (X:cI) (t:TypeId):Option (List AV) :=
 match Ev.fj X.P t with
 |some z=>some (z.cells.toList.map Es)
 |none=>none
def H6 (X:cI) (H:aa) (t:TypeId) (k:AV->aa->Option β):Option β :=
 match wO X t,X.P.underlying t with
 |
  some z,some (.array n te)=>match HW X.P 40 te with
  |
   some e=>match oK e n z with
   |some l=>pick2 (Nat.ble n 1000000) (k (.Er H.next n) (H.push (.list t e l 0 true false))) none
   |none=>none
  |none=>none
 |_,_=>none
def H7 (X:cI) (t:TypeId) (parts:List (Nat×AV)) (k:AV->Option β):Option β :=
 match wO X t,X.P.underlying t with
 |
  some z,some (.array _ e)=>match X.P.info? e with
  |
   some ie=>match y3 (λi=>some (i*ie.size,ie.size)) z parts with
   |some cs=>k (.agg cs)
   |none=>none
  |none=>none
 |
  some z,some (.struct fs)=>match placesOf X.P fs.toList with
  |
   some pl=>match y3 (λi=>pl[i]?) z parts with
   |some cs=>k (.agg cs)
   |none=>none
  |none=>none
 |_,_=>none
def fM (H:aa):List AV->Option (List AV×aa)
 |[]=>some ([],H)
 |
  .own id _::r=>match H.get id with
  |
   some (.list t e l cw ex _)=>match fM (H.put id (.list t e l cw ex true)) r with
   |some (r',H')=>some (.bF e l::r',H')
   |none=>none
  |_=>none
 |
  v::r=>match fM H r with
  |some (r',H')=>some (v::r',H')
  |none=>none
def XF (n:Nat) (cs:List AV):List AV:=Nat.rec (motive:=λ_=>List AV) [] (λ_ r=>cs++r) n
def p7 (X:cI) (H:aa) (t:TypeId) (len:Nat) (parts:List (Nat×AV)) (k:AV->aa->Option β):Option β :=
 match X.P.underlying t with
 |
  some (.slice te)=>match Ev.aM X.P te,wO X te,HW X.P 40 te with
  |some s,some z,some e=>pick2 (Nat.ble (Nat.mul len s) 16777216&&Nat.ble len 1000000&&Nat.beq s e.size&&Nat.beq z.length s)
   (match y3 (λi=>some (i*s,s)) (XF len z) parts with
    |
     some cs=>match fM H cs with
     |
      some (cs',H')=>match oK e len cs' with
      |some l=>k (.own H'.next len) (H'.push (.list te e l 0 X.rm false))
      |none=>none
     |none=>none
    |none=>none) none
  |_,_,_=>none
 |_=>none
def su (X:cI) (H:aa) (t:TypeId) (len cap:AV) (k:AV->aa->Option β):Option β :=
 match X.P.underlying t,len,cap with
 |
  some (.slice te),.int _ l,.int _ c=>match X.P.info? te,wO X te,HW X.P 40 te with
  |
   some inf,some z,some e=>match sr e z with
   |some (x,[])=>pick2 (Nat.ble inf.bytes 1000000&&Nat.beq inf.size e.size&&Nat.beq z.length inf.size)
    (pick2 (!Ev.ltI l 0 && !Ev.ltI c l && !Ev.ltI 1000000 c) (k (.pz H.next 0 l.toNat c.toNat) (H.push (.list te e (List.replicate c.toNat x) 0 true false))) none) none
   |_=>none
  |_,_,_=>none
 |_,_,_=>none
def Ou (H:aa) (te:TypeId) (e:Ty):AV->Option (List e.den×aa)
 |.bK=>some ([],H)
 |
  .own id _=>match H.get id with
  |
   some (.list t' e' l _ _ false)=>pick2 (H.ju id&&Nat.beq t' te) (match eP e' e l with
   |some l'=>some (l',H.put id .dead)
   |none=>none) none
  |_=>none
 |
  .pz id 0 len _=>match H.get id with
  |
   some (.list t' e' l _ true false)=>pick2 (H.ju id&&Nat.beq t' te) (match eP e' e l with
   |some l'=>some (l'.take len,H.put id .dead)
   |none=>none) none
  |_=>none
 |_=>none
def Dn (X:cI) (H:aa) (st xt:TypeId) (s x:AV) (k:AV->aa->Option β):Option β :=
 match X.P.underlying st,Ev.eO X.P xt with
 |
  some (.slice te),true=>match X.P.info? te,Ev.fj X.P te,HW X.P 40 te with
  |some inf,some z,some e=>pick2 (Nat.beq inf.size e.size && !(Nat.beq inf.size 0) && !(Nat.beq inf.bytes 0)&&Nat.ble inf.bytes 100000&&Nat.beq z.cells.size inf.size)
   (match wN H e x,Ou H te e s with
    |some new,some (old,H')=>pick2 (Nat.ble (old.length+new.length) 1000000) (k (.own H'.next (old.length+new.length)) (H'.push (.list te e (old++new) 0 false false))) none
    |_,_=>none) none
  |_,_,_=>none
 |_,_=>none
def Ov (X:cI) (H:aa) (dt:TypeId) (d x:AV) (k:AV->aa->Option β):Option β :=
 match X.P.underlying dt,d with
 |
  some (.slice te),.pz id off len _=>match H.get id,Ev.aM X.P te with
  |some (.list t e l cw true false),some s=>pick2 (H.ju id&&Nat.beq s e.size)
   (match wN H e x with
    |some new=>k (.int .i64 (Int.ofNat (Nat.min new.length len))) (H.put id (.list t e (gZ l off (new.take (Nat.min new.length len))) (cw+1) true false))
    |none=>none) none
  |_,_=>none
 |_,_=>none
def XG (op:BinOp) (k k':IntKind) (a b:Int) (c:AV->Option β):Option β :=
 match op with
 |.shl=>pick2 (Ev.ltI b 0) none (c (.int k (k.wrap (a*2 ^ (min b.toNat k.bits)))))
 |.shr=>pick2 (Ev.ltI b 0) none (c (.int k (a.fdiv (2 ^ (min b.toNat k.bits)))))
 |
  op=>pick2 (decide (k=k')) (match op with
  |.add=>c (.int k (k.wrap (a+b)))
  |.sub=>c (.int k (k.wrap (a-b)))
  |.mul=>c (.int k (k.wrap (a*b)))
  |.quo=>pick2 (Ev.eqI b 0) none (c (.int k (k.wrap (a.tdiv b))))
  |.rem=>pick2 (Ev.eqI b 0) none (c (.int k (a.tmod b)))
  |.and=>c (.int k (k.wrap (BitVec.ofInt k.bits a &&& BitVec.ofInt k.bits b).toNat))
  |.or=>c (.int k (k.wrap (BitVec.ofInt k.bits a ||| BitVec.ofInt k.bits b).toNat))
  |.xor=>c (.int k (k.wrap (BitVec.ofInt k.bits a ^^^ BitVec.ofInt k.bits b).toNat))
  |.andNot=>c (.int k (k.wrap (BitVec.ofInt k.bits a &&& ~~~(BitVec.ofInt k.bits b)).toNat))
  |.eql=>c (.bool (Ev.eqI a b))
  |.neq=>c (.bool (!Ev.eqI a b))
  |.lss=>c (.bool (Ev.ltI a b))
  |.leq=>c (.bool (!Ev.ltI b a))
  |.gtr=>c (.bool (Ev.ltI b a))
  |.geq=>c (.bool (!Ev.ltI a b))
  |_=>none) none
def XH (op:BinOp) (a b:List UInt8) (c:AV->Option β):Option β :=
 match op with
 |.add=>pick2 (Nat.ble (a.length+b.length) 9223372036854775807) (c (.str (a++b))) none
 |.eql=>c (.bool (decide (a=b)))
 |.neq=>c (.bool (!decide (a=b)))
 |.lss=>c (.bool (Op.bytesLess a b))
 |.leq=>c (.bool (Op.bytesLess a b||decide (a=b)))
 |.gtr=>c (.bool (!(Op.bytesLess a b||decide (a=b))))
 |.geq=>c (.bool (!Op.bytesLess a b))
 |_=>none
def oL (P:Program):Nat->TypeId->Option (List Nat)
 |0,_=>none
 |
  d+1,t=>match P.underlying t with
  |some (.int _)=>some [0]
  |some .bool=>some [1]
  |some .string=>some [2]
  |some (.struct fs)=>pick2 (P.stoodInHeld t) none (vq P d 0 fs.toList)
  |_=>none
where vq (P:Program):Nat->Nat->List Field->Option (List Nat)
 |0,_,_=>none
 |_+1,_,[]=>some []
 |
  d+1,off,f::fs=>match oL P d f.type,Ev.aM P f.type with
  |some ks,some n=>pick2 (decide (f.name ≠ "_")&&Nat.beq f.offset off&&Nat.beq ks.length n)
   (match vq P d (off+n) fs with
    |some ls=>some (ks++ls)
    |none=>none) none
  |_,_=>none
def XI:Nat->AV->AV->Option Bool
 |0,.int k a,.int k' b=>if k=k' then some (decide (a=b)) else none
 |1,.bool a,.bool b=>some (a==b)
 |2,.str a,.str b=>some (decide (a=b))
 |_,_,_=>none
def nD:List Nat->List AV->List AV->Option Bool
 |[],[],[]=>some true
 |
  k::ks,x::l,y::m=>match XI k x y with
  |
   some a=>match ks with
   |
    []=>match l,m with
    |[],[]=>some a
    |_,_=>none
   |
    _::_=>match nD ks l m with
    |some b=>some (a&&b)
    |none=>none
  |none=>none
 |_,_,_=>none
def Tf (X:cI) (op:BinOp) (t:TypeId) (x y:AV) (c:AV->Option β):Option β :=
 match x,y with
 |.int k a,.int k' b=>XG op k k' a b c
 |.str a,.str b=>XH op a b c
 |
  .bool a,.bool b=>match X.P.underlying t,op with
  |some .bool,.eql=>c (.bool (a==b))
  |some .bool,.neq=>c (.bool (!(a==b)))
  |_,_=>none
 |
  .agg l,.agg m=>pick2 (X.P.eqGuardType X.P.depth t) none (match X.P.underlying t,oL X.P 40 t with
  |
   some (.struct _),some ks=>match nD ks l m,op with
   |some b,.eql=>c (.bool b)
   |some b,.neq=>c (.bool (!b))
   |_,_=>none
  |_,_=>none)
 |
  .je,.je=>match X.P.underlying t,op with
  |some (.pointer _),.eql=>c (.bool true)
  |some (.pointer _),.neq=>c (.bool false)
  |_,_=>none
 |
  .ptr _ _,.je=>match X.P.underlying t,op with
  |some (.pointer _),.eql=>c (.bool false)
  |some (.pointer _),.neq=>c (.bool true)
  |_,_=>none
 |
  .ptr i a,.ptr j b=>match X.P.underlying t,op with
  |some (.pointer e),.eql=>pick2 (Nat.beq i j&&Nat.beq a b&&(Ev.aM X.P e).isSome) (c (.bool true)) none
  |some (.pointer e),.neq=>pick2 (Nat.beq i j&&Nat.beq a b&&(Ev.aM X.P e).isSome) (c (.bool false)) none
  |_,_=>none
 |_,_=>none
def unT (op:UnOp) (x:AV) (c:AV->Option β):Option β :=
 match op,x with
 |.neg,.int k n=>c (.int k (k.wrap (0-n)))
 |.xor,.int k n=>c (.int k (k.wrap (BitVec.ofInt k.bits (if k.signed then -1 else k.max) ^^^ BitVec.ofInt k.bits n).toNat))
 |.not,.bool b=>c (.bool (!b))
 |_,_=>none
def y4 (X:cI) (H:aa) (src dst:TypeId) (x:AV) (c:AV->aa->Option β):Option β :=
 match X.P.underlying src,X.P.underlying dst,x with
 |some (.int _),some (.int k),.int _ n=>c (.int k (k.wrap n)) H
 |some .string,some .string,.str s=>c (.str s) H
 |
  some .string,some (.slice te),.str s=>match X.P.underlying te,Ev.aM X.P te with
  |some (.int .u8),some 1=>pick2 (Nat.ble s.length 1000000) (c (.own H.next s.length) (H.push (.list te (.int .u8) (s.map aF) 0 false false))) none
  |_,_=>none
 |some (.slice _),some .string,.str _=>none
 |
  some (.slice te),some .string,x=>match X.P.underlying te with
  |
   some (.int .u8)=>match wN H (.int .u8) x with
   |some l=>c (.str (l.map Et)) H
   |none=>none
  |_=>none
 |
  some (.slice te),some (.slice _),.own id n=>match H.get id,X.P.underlying te with
  |some (.list _ _ _ _ _ _),some (.int .u8)=>pick2 (H.ju id&&Nat.beq src dst&&Nat.ble 1 n) (c (.own id n) H) none
  |_,_=>none
 |
  some (.pointer t),some .unsafePointer,.ptr id 0=>match H.get id,Ev.aM X.P t with
  |some (.cells _ (_::_)),some n=>pick2 (Nat.ble 1 n) (c (.ptr id 0) H) none
  |_,_=>none
 |
  some .unsafePointer,some (.pointer u),.ptr id 0=>match H.get id,Ev.aM X.P u with
  |some (.cells t cs),some _=>pick2 (liesAt X.P X.P.depth t (cs.length/X.P.cellsOf t) 0 u 1) (c (.ptr id 0) H) none
  |_,_=>none
 |_,_,_=>none
def Fq (n:Int):Bool :=
 match n with
 |.ofNat m=>Nat.ble m 255
 |.negSucc _=>false
def sw (H:aa) (x:AV) (c:AV->Option β):Option β :=
 match x with
 |.bK=>c .je
 |
  .own id n=>match H.get id with
  |some (.list _ _ _ _ _ _)=>pick2 (Nat.ble 1 n) (c (.dat id)) none
  |_=>none
 |_=>none
def Ow (X:cI) (H:aa) (pt:TypeId) (p n:AV) (c:AV->aa->Option β):Option β :=
 match p,n,X.P.underlying pt with
 |.je,.int .i64 m,_=>pick2 (Ev.eqI m 0) (c (.str []) H) none
 |
  .dat id,.int .i64 m,some (.pointer e)=>match H.get id with
  |some (.list t (.int .u8) l _ _ false)=>pick2 (H.ju id&&Nat.beq t e&&Nat.beq (X.P.cellsOf e) 1&&Nat.ble 1 l.length&&Nat.ble l.length 1000000&&Ev.eqI m l.length&&l.all Fq) (c (.str (l.map Et)) (H.put id .dead)) none
  |_=>none
 |_,_,_=>none
def XJ (X:cI) (t:TypeId) (x:AV) (c:AV->Option β):Option β :=
 match X.P.underlying t,x with
 |some (.slice _),.bF _ l=>c (.int .i64 l.length)
 |some (.slice _),.bK=>c (.int .i64 0)
 |some (.slice _),.own _ n=>c (.int .i64 n)
 |some (.slice _),.pz _ _ n _=>c (.int .i64 n)
 |some .string,.str s=>c (.int .i64 s.length)
 |_,_=>none
abbrev aT (β:Type):=FuncId->List AV->aa->(AV->aa->Option β)->Option β
def mQ (P:Program) (id:FuncId):Bool :=
 match P.funcs[id]? with
 |some fn=>fn.body.isSome
 |none=>false
def toV:AV->Option Value
 |.int k n=>some (.int k n)
 |.bool b=>some (.bool b)
 |.str s=>some (.string ⟨s.toArray⟩)
 |.kV n=>some (.float .f64 n)
 |.fn f [] []=>some (.func (.func f) #[] #[])
 |.xR v=>pick2 (Ev.addrFree v) (some v) none
 |_=>none
def acq:AV->Bool
 |.kV _=>true
 |_=>false
def XK (P:Program) (d:TypeId):Bool :=
 match P.underlying d with
 |some (.float _)=>true
 |_=>false
def ofR:Value->AV
 |.tuple cs=>.cB (cs.toList.map Es)
 |v=>ofV v
def J5:Option Value->Value
 |some v=>v
 |none=>undef
def xD (X:cI) (ev:Operand->AV) (o:Oper) (k:AV->Option β):Option β :=
 pick2 (o.op.operands.toList.all λx=>(toV (ev x)).isSome)
  (match Ev.semPure X.P (execOp (λx=>J5 (toV (ev x))) o) with
   |some (.value v)=>pick2 (Ev.addrFree v) (k (ofR v)) none
   |_=>none) none
def Dp (P:Program) (id:FuncId):Bool :=
 match P.funcs[id]? with
 |some fn=>pick2 fn.body.isSome false (fn.name == "internal/abi.NoEscape" && fn.origin == "")
 |none=>false
def LC (P:Program) (t:TypeId):Bool :=
 match P.underlying t with
 |
  some (.map kt e)=>match P.underlying kt,P.underlying e,Ev.fj P e with
  |some .string,some (.int .i64),some (.int .i64 (.ofNat 0))=>true
  |_,_,_=>false
 |_=>false
def mb:List (List UInt8×Int)->List UInt8->Int
 |[],_=>0
 |q::l,s=>pick2 (decide (s=q.1)) q.2 (mb l s)
def qa:List (List UInt8×Int)->List UInt8->Bool
 |[],_=>false
 |q::l,s=>pick2 (decide (s=q.1)) true (qa l s)
def nE:List (List UInt8×Int)->List UInt8->Int->List (List UInt8×Int)
 |[],s,n=>[(s,n)]
 |q::l,s,n=>pick2 (decide (s=q.1)) ((q.1,n)::l) (q::nE l s n)
def wP (P:Program) (t:TypeId):Option (TypeDesc×Value) :=
 match P.underlying t with
 |
  some (.map kt e)=>match P.underlying kt,Ev.fj P e with
  |some d,some z=>pick2 (Ev.mM d&&(Ev.addrFree z&&Ev.plainCell z)) (some (d,z)) none
  |_,_=>none
 |_=>none
def vr:TypeDesc->AV->Bool
 |.string,.str _=>true
 |.int k,.int k' _=>decide (k=k')
 |_,_=>false
def BI:TypeDesc->AV->AV->Option Bool
 |.string,.str a,.str b=>some (decide (a=b))
 |.int k,.int k1 a,.int k2 b=>pick2 (decide (k1=k)&&decide (k1=k2)) (some (Ev.eqI a b)) none
 |_,_,_=>none
def Ox (d:TypeDesc) (s:AV) (z:AV) (k:AV->Bool->Option β):List (AV×AV)->Option β
 |[]=>k z false
 |
  q::l=>match BI d s q.1 with
  |some b=>pick2 b (k q.2 true) (Ox d s z k l)
  |none=>none
def Oy (X:cI) (H:aa) (t:TypeId) (x q:AV) (ok:Bool) (k:AV->Option β):Option β :=
 match x with
 |
  .yX id=>match H.get id with
  |
   some (.mp t' ks)=>match q with
   |.str s=>pick2 (LC X.P t&&Nat.beq t' t) (pick2 ok (k (.cB [.int .i64 (mb ks s),.bool (qa ks s)])) (k (.int .i64 (mb ks s)))) none
   |_=>none
  |
   some (.mf t' ks)=>match wP X.P t with
   |some (d,z)=>pick2 (Nat.beq t' t&&ok&&vr d q) (Ox d q (.xR z) (λv b=>k (.cB [v,.bool b])) ks) none
   |none=>none
  |_=>none
 |_=>none
def xS (X:cI) (H:aa) (t:TypeId) (m q x:AV) (k:aa->Option β):Option β :=
 match m with
 |
  .yX id=>match H.get id with
  |
   some (.mp t' ks)=>match q,x with
   |.str s,.int .i64 n=>pick2 (LC X.P t&&Nat.beq t' t&&H.ju id) (k (H.put id (.mp t' (nE ks s n)))) none
   |_,_=>none
  |
   some (.mf t' ks)=>match wP X.P t with
   |some (d,_)=>pick2 (Nat.beq t' t&&H.ju id&&l8 x&&vr d q&&ks.all λp=>BI d q p.1==some false) (k (H.put id (.mf t' (ks++[(q,x)])))) none
   |none=>none
  |_=>none
 |_=>none
def Nq (X:cI) (call:aT β) (tr:List Tmp) (ev:Operand->AV) (o:Oper) (H:aa) (k:AV->aa->Option β):Option β :=
 match o.op with
 |.move x=>k (ev x) H
 |.assign x=>k (ev x) H
 |
  .pick c a b=>match ev c with
  |.bool t=>pick2 t (k (ev a) H) (k (ev b) H)
  |_=>none
 |.binOp op t x y _=>pick2 (acq (ev x)) (xD X ev o λv=>k v H) (Tf X op t (ev x) (ev y) λv=>k v H)
 |.unOp op _ x=>unT op (ev x) λv=>k v H
 |
  .alloc t=>pick2 (X.ar t) (H6 X H t k) (match wO X t with
  |some z=>k (.ptr H.next 0) (H.push (.cells t z))
  |none=>none)
 |
  .box t x=>match Ev.aM X.P t,yY (ev x) with
  |some _,some cs=>k (.ptr H.next 0) (H.push (.cells t cs))
  |_,_=>none
 |.build t ps=>H7 X t (p6 ev ps) λv=>k v H
 |.buildSlice t len ps=>p7 X H t len (p6 ev ps) k
 |.load t a=>loadT X H t (ev a) λv=>k v H
 |.store t a x=>storeT X H t (ev a) (ev x) λH'=>k .iC H'
 |
  .nilCheck x=>match ev x with
  |.ptr id off=>k (.ptr id off) H
  |.Er id n=>k (.Er id n) H
  |.vp cs=>k (.vp cs) H
  |.fn f a b=>k (.fn f a b) H
  |_=>none
 |.fieldAddr s x f=>HY X s (ev x) f λv=>k v H
 |.indexAddr t x ix=>XE X H t (ev x) (ev ix) λv=>k v H
 |
  .extract x i=>match ev x with
  |
   .cB vs=>match vs[i]? with
   |some v=>k v H
   |none=>none
  |_=>none
 |.makeSlice t l c=>su X H t (ev l) (ev c) k
 |.makeFunc (.func f) first captured=>k (.fn f (first.toList.map ev) (captured.toList.map ev)) H
 |
  .slice t x lo hi none=>match o.dst,lo,hi with
  |some d,none,some h=>pick2 (tr.any (Nat.beq d)) (HZ X H t (ev x) (ev h) k) (yZ X H t (ev x) (lo.map ev) (hi.map ev) k)
  |_,_,_=>yZ X H t (ev x) (lo.map ev) (hi.map ev) k
 |
  .field t x f=>match X.P.underlying t,ev x with
  |
   some (.struct fs),.agg cs=>match fs[f]? with
   |some fd=>l9 X fd.type (cs.drop fd.offset) λv=>k v H
   |none=>none
  |_,_=>none
 |
  .index t x ix=>match X.P.underlying t,ev x,ev ix with
  |some .string,.str s,.int _ i=>Option.rec (motive:=λ_=>Option β) none (λc=>k (.int .u8 (aF c)) H) (aI s i)
  |
   some (.array n te),.agg cs,.int _ i=>match Ev.aM X.P te with
   |some s=>HX i (λj=>l9 X te (cs.drop (Nat.mul j s)) λv=>k v H) n 0
   |none=>none
  |_,_,_=>none
 |.convert s d x=>pick2 (XK X.P d) (xD X ev o λv=>k v H) (y4 X H s d (ev x) k)
 |
  .call c=>match c.callee with
  |
   .value f=>match ev f with
   |.fn id a b=>pick2 (mQ X.P id) (call id (a++(c.args.toList.map ev++b)) H k)
    (pick2 (Dp X.P id)
     (match a,b,c.args.toList with
      |[],[],[x]=>k (ev x) H
      |_,_,_=>none)
     (xD X ev o λv=>k v H))
   |_=>none
  |
   .builtin .len=>match c.args[0]?,c.argTypes[0]? with
   |some x,some t=>XJ X t (ev x) λv=>k v H
   |_,_=>none
  |
   .builtin .append=>match c.args[0]?,c.args[1]?,c.argTypes[0]?,c.argTypes[1]? with
   |some s,some x,some st,some xt=>Dn X H st xt (ev s) (ev x) k
   |_,_,_,_=>none
  |
   .builtin .copy=>match c.args[0]?,c.args[1]?,c.argTypes[0]? with
   |some d,some x,some dt=>Ov X H dt (ev d) (ev x) k
   |_,_,_=>none
  |
   .builtin .unsafeSliceData=>match c.args.toList with
   |[x]=>sw H (ev x) λv=>k v H
   |_=>none
  |
   .builtin .unsafeString=>match c.args.toList,c.argTypes.toList with
   |[p,n],[pt,_]=>Ow X H pt (ev p) (ev n) k
   |_,_=>none
  |
   .builtin .max=>match c.args.toList with
   |
    [x,y]=>match ev x,ev y with
    |.int ka a,.int _ b=>k (.int ka (pick2 (Ev.ltI a b) b a)) H
    |_,_=>none
   |_=>none
  |
   .builtin .cap=>match c.args[0]?,c.argTypes[0]? with
   |
    some x,some t=>match X.P.underlying t,ev x with
    |
     some (.slice _),.pz id off len cap=>match H.get id with
     |some (.list _ _ _ _ true _)=>k (.int .i64 cap) H
     |_=>none
    |
     some (.slice _),.own id n=>match H.get id with
     |some (.list _ _ _ _ true _)=>k (.int .i64 n) H
     |_=>none
    |some (.slice _),.bK=>k (.int .i64 0) H
    |_,_=>none
   |_,_=>none
  |.builtin .complex=>xD X ev o λv=>k v H
  |.builtin .real=>xD X ev o λv=>k v H
  |.builtin .imag=>xD X ev o λv=>k v H
  |_=>none
 |.makeMap t none=>pick2 (LC X.P t) (k (.yX H.next) (H.push (.mp t []))) (pick2 (wP X.P t).isSome (k (.yX H.next) (H.push (.mf t []))) none)
 |.lookup t x q ok=>Oy X H t (ev x) (ev q) ok λv=>k v H
 |.mapUpdate t m q x=>xS X H t (ev m) (ev q) (ev x) λH'=>k .iC H'
 |.insert t m q x=>xS X H t (ev m) (ev q) (ev x) λH'=>k .iC H'
 |_=>none
def H8 (ops:List Oper) (j:Nat):Option Tmp :=
 match ops[j]? with
 |some o=>o.dst
 |none=>none
def stepT (X:cI) (call:aT β) (tr:List Tmp) (ops:List Oper) (o:Oper) (f:cj) (H:aa) (k:cj->aa->Option β):Option β :=
 match o.guard with
 |none=>Nq X call tr (f.eval X) o H λv H'=>k (f.put o.dst v) H'
 |
  some (j,want)=>match H8 ops j with
  |
   some d=>match f.get d with
   |.bool b=>pick2 b
    (pick2 want (Nq X call tr ((f.put (some d) (.bool true)).eval X) o H λv H'=>k ((f.put (some d) (.bool true)).put o.dst v) H') (k ((f.put (some d) (.bool true)).put o.dst (.cB [])) H))
    (pick2 want (k ((f.put (some d) (.bool false)).put o.dst (.cB [])) H) (Nq X call tr ((f.put (some d) (.bool false)).eval X) o H λv H'=>k ((f.put (some d) (.bool false)).put o.dst v) H'))
   |.cB _=>k (f.put o.dst (.cB [])) H
   |_=>none
  |none=>none
def toF:AV->Option (Option Nat)
 |.kV n=>some (some n)
 |.fl a=>some a
 |_=>none
def Oz:AV->Option (Option Nat×Option Nat)
 |.xR (.complex .f64 a b)=>some (some a,some b)
 |.cx a b=>some (a,b)
 |_=>none
def Tg (P:Program) (id:FuncId):Bool :=
 match P.funcs[id]? with
 |some fn=>pick2 fn.body.isSome false (fn.name == "math.Float64bits" && fn.origin == "")
 |none=>false
def J6 (op:BinOp) (x y:AV):Option AV :=
 match toF x,toF y with
 |
  some a,some b=>match op with
  |.add=>some (.fl (Ev.SK .add a b))
  |.sub=>some (.fl (Ev.SK .sub a b))
  |.mul=>some (.fl (Ev.SK .mul a b))
  |
   .neq=>match a,b with
   |some _,some _=>none
   |_,_=>some (.bool true)
  |_=>none
 |_,_=>none
def XL (X:cI) (ev:Operand->AV) (o:Oper):Option AV :=
 pick2 X.fl (match o.op with
 |.binOp op _ x y _=>J6 op (ev x) (ev y)
 |
  .call c=>match c.callee,c.args.toList.map ev with
  |
   .builtin .complex,[x,y]=>match toF x,toF y with
   |some a,some b=>some (.cx a b)
   |_,_=>none
  |
   .builtin .real,[x]=>match Oz x with
   |some q=>some (.fl q.1)
   |none=>none
  |
   .builtin .imag,[x]=>match Oz x with
   |some q=>some (.fl q.2)
   |none=>none
  |
   .value f,[x]=>match ev f with
   |
    .fn id [] []=>pick2 (Tg X.P id) (match x with
    |.fl none=>some .iC
    |_=>none) none
   |_=>none
  |_,_=>none
 |_=>none) none
def Dq (X:cI) (call:aT β) (tr:List Tmp) (ops:List Oper) (o:Oper) (f:cj) (H:aa) (k:cj->aa->Option β):Option β :=
 match XL X (f.eval X) o,o.guard with
 |some v,none=>k (f.put o.dst v) H
 |_,_=>stepT X call tr ops o f H k
def XM (X:cI) (call:aT β) (tr:List Tmp) (ops:List Oper) (l:List Oper) (k:cj->aa->Option β):cj->aa->Option β :=
 List.rec (motive:=λ_=>cj->aa->Option β) k (λo _ go f H=>Dq X call tr ops o f H go) l
def Dr (ev:Operand->AV) (o:Oper) (R:Option (List Nat)):Option (List Nat) :=
 match o.op with
 |
  .load _ x=>match R,ev x with
  |some l,.ptr id _=>some (id::l)
  |some l,.AG id _ _ _ _=>some (id::l)
  |some l,.vp _=>some l
  |_,_=>none
 |op=>pick2 (Ev.ez op) none R
def vt (H:aa) (R:Option (List Nat)) (s:AV):Bool :=
 match s,R with
 |.bK,_=>true
 |.own id _,some l=>(match H.get id with|some (.list _ _ _ _ _ false)=>true|_=>false)&&l.all λj => !Nat.beq j id&&(H.get j).isSome
 |.pz id _ _ _,some l=>(match H.get id with|some (.list _ _ _ _ _ false)=>true|_=>false)&&l.all λj => !Nat.beq j id&&(H.get j).isSome
 |.ptr id _,some l=>(match H.get id with|some (.cells _ _)=>true|_=>false)&&l.all λj => !Nat.beq j id&&(H.get j).isSome
 |_,_=>false
def ku (H:aa) (R:Option (List Nat)) (ev:Operand->AV) (o:Oper):Bool :=
 match Ev.fH o.op with
 |some s=>vt H R (ev s)
 |none=>false
def Ds (X:cI) (call:aT β) (tr:List Tmp) (ops:List Oper) (R:Option (List Nat)) (lk:Bool) (o:Oper) (f:cj) (H:aa) (k:cj->aa->Option β):Option β :=
 pick2 lk
  (match Ev.ee o.op with
   |some s=>pick2 (vt H R (f.eval X s)) (stepT X call tr ops o f H k) none
   |none=>pick2 (ku H R (f.eval X) o) (stepT X call tr ops o f H k) (stepT X call tr ops o f { H with lk:=H.next } λf' H'=>k f' { H' with lk:=H.lk }))
  (stepT X call tr ops o f H k)
def Th (X:cI) (call:aT β) (tr:List Tmp) (ops:List Oper) (l:List (Oper×Bool)) (k:cj->aa->Option β):Option (List Nat)->cj->aa->Option β :=
 List.rec (motive:=λ_=>Option (List Nat)->cj->aa->Option β) (λ_=>k) (λq _ go R f H=>Ds X call tr ops R q.2 q.1 f H (go (Dr (f.eval X) q.1 R))) l
def xT (X:cI) (call:aT β) (tr:List Tmp) (ops:Array Oper) (draw:Bool) (f:cj) (H:aa) (k:cj->aa->Option β):Option β :=
 pick2 (Ev.Nx X.G ops.toList)
  (pick2 draw
   (Option.rec (motive:=λ_=>Option β) none (λl=>Th X call tr ops.toList l k (some []) f H) (Ev.plan X.P ops))
   (XM X call tr ops.toList ops.toList k f H))
  none
inductive ig where
 |none
 |node (keep:Option (List Tmp)) (a b:ig)
def ig.keep:ig->Option (List Tmp)
 |.none=>Option.none
 |.node k _ _=>k
def ig.l:ig->ig
 |.none=>.none
 |.node _ a _=>a
def ig.r:ig->ig
 |.none=>.none
 |.node _ _ b=>b
def placeOf (id:Nat):List Nat->Nat->Option Nat
 |[],_=>none
 |x::l,n=>pick2 (Nat.beq x id) (some n) (placeOf id l (n+1))
mutual
def fJ (ids:List Nat):AV->AV
 |
  .own id n=>match placeOf id ids 0 with
  |some i=>.own i n
  |none=>.iC
 |
  .pz id a b c=>match placeOf id ids 0 with
  |some i=>.pz i a b c
  |none=>.iC
 |
  .ptr id off=>match placeOf id ids 0 with
  |some i=>.ptr i off
  |none=>.iC
 |
  .Er id n=>match placeOf id ids 0 with
  |some i=>.Er i n
  |none=>.iC
 |
  .yX id=>match placeOf id ids 0 with
  |some i=>.yX i
  |none=>.iC
 |.AG _ _ _ _ _=>.iC
 |.dat _=>.iC
 |.fn f a b=>.fn f (sx ids a) (sx ids b)
 |.agg l=>.agg (sx ids l)
 |.cB l=>.cB (sx ids l)
 |.int k n=>.int k n
 |.bool b=>.bool b
 |.str s=>.str s
 |.kV n=>.kV n
 |.bF e l=>.bF e l
 |.bK=>.bK
 |.vp cs=>.vp (sx ids cs)
 |.je=>.je
 |.xR v=>.xR v
 |.fl a=>.fl a
 |.cx a b=>.cx a b
 |.iC=>.iC
def sx (ids:List Nat):List AV->List AV
 |[]=>[]
 |v::l=>fJ ids v::sx ids l
end
def Ti (ids:List Nat):Row->Row
 |.dead=>.dead
 |.cells t cs=>.cells t (sx ids cs)
 |.list t e l _ ex ro=>.list t e l 0 ex ro
 |.mp t ks=>.mp t ks
 |.mf t ks=>.mf t (ks.map λq=>(fJ ids q.1,fJ ids q.2))
def J7 (acc:List Nat):AV->List Nat
 |.own id _=>pick2 (acc.any (Nat.beq id)) acc (acc++[id])
 |.pz id _ _ _=>pick2 (acc.any (Nat.beq id)) acc (acc++[id])
 |.ptr id _=>pick2 (acc.any (Nat.beq id)) acc (acc++[id])
 |.Er id _=>pick2 (acc.any (Nat.beq id)) acc (acc++[id])
 |.yX id=>pick2 (acc.any (Nat.beq id)) acc (acc++[id])
 |_=>acc
def OA (H:aa) (acc:List Nat) (id:Nat):List Nat :=
 match H.get id with
 |some (.cells _ cs)=>cs.foldl J7 acc
 |_=>acc
def nodupB:List Nat->Bool
 |[]=>true
 |x::l => !l.any (Nat.beq x)&&nodupB l
def lB (H:aa) (ids:List Nat) (id:Nat):Row :=
 match H.get id with
 |some r=>Ti ids r
 |none=>.dead
def OB (keep:List Tmp) (f:cj) (H:aa) (k:cj->aa->Option β):Option β :=
 let roots:=keep.foldl (λacc t=>J7 acc (f.get t)) (List.range H.par)
 let ids:=roots.foldl (OA H) roots
 pick2 (nodupB ids&&(ids.take H.par==List.range H.par)&&Nat.beq H.lk 0)
  (k (keep.foldl (λg t=>g.put (some t) (fJ ids (f.get t))) ⟨f.n,.e⟩)
   (ids.foldl (λM id=>M.push (lB H ids id)) ⟨0,0,H.par,.e⟩)) none
def AH (a:ig) (f:cj) (H:aa) (k:cj->aa->Option β):Option β :=
 match a.keep with
 |none=>k f H
 |some l=>OB l f H k
abbrev KT (β:Type):=Leave->cj->aa->Option β
def tW (y:cj->aa->Option β) (k:KT β):KT β:=λlv f H =>
 match lv with
 |.normal=>y f H
 |.exit id=>k (.exit id) f H
 |.ret=>k .ret f H
 |.goto l=>k (.goto l) f H
def y5 (id:Nat) (k:KT β):KT β:=λlv f H =>
 match lv with
 |.exit id'=>pick2 (Nat.beq id' id) (k .normal f H) (k (.exit id') f H)
 |.normal=>k .normal f H
 |.ret=>k .ret f H
 |.goto l=>k (.goto l) f H
def J8 (a:ig) (body:cj->aa->KT β->Option β) (k:KT β) (n:Nat):cj->aa->Option β :=
 Nat.rec (motive:=λ_=>cj->aa->Option β) (λ_ _=>none) (λ_ go f H=>body f H (tW (λf H=>AH a f H go) k)) n
abbrev nT (β:Type):=Code->Code->cj->aa->KT β->Option β
def vu (c:Code) (J:nT β) (k:KT β):KT β:=λlv f H =>
 match lv with
 |
  .goto l=>match findLabel c l with
  |some rest=>J c rest f H k
  |none=>k (.goto l) f H
 |.normal=>k .normal f H
 |.exit id=>k (.exit id) f H
 |.ret=>k .ret f H
def eE (X:cI) (call:aT β) (tr:List Tmp) (J:nT β) (rounds:Nat) (c:Code):ig->cj->aa->KT β->Option β :=
 Code.rec (motive:=λ_=>ig->cj->aa->KT β->Option β)
  (λ_ f H k=>k .normal f H)
  (λ_ ops draw a f H k=>AH a f H λf H=>xT X call tr ops draw f H λf H=>k .normal f H)
  (λ_ _ x y a f H k=>AH a f H λf H=>x a.l f H (tW (λf H=>y a.r f H k) k))
  (λc _ _ x y a f H k=>AH a f H λf H=>pick2 (Ev.bt X.G c) (match f.eval X c with
   |.bool b=>pick2 b (x a.l f H k) (y a.r f H k)
   |_=>none) none)
  (λid _ b a f H k=>AH a f H λf H=>b a.l f H (y5 id k))
  (λ_ b a f H k=>AH a f H (J8 a (λf H k=>b a.l f H k) k rounds))
  (λ_ _ _ _ _ _ _ _ _ _=>none)
  (λid _ f H k=>k (.exit id) f H)
  (λc b a f H k=>AH a f H λf H=>b a.l f H (vu c J k))
  (λ_ _ f H k=>k .normal f H)
  (λl _ f H k=>k (.goto l) f H)
  (λ_ f H k=>k .ret f H)
  (λ_ _ _ _ _=>none) c
def H9 (X:cI) (call:aT β) (tr:List Tmp) (ja:ig) (rounds:Nat) (n:Nat):nT β :=
 Nat.rec (motive:=λ_=>nT β) (λ_ _ _ _ _=>none)
  (λ_ go c rest f H k=>eE X call tr (λc rest f H k=>AH ja f H λf H=>go c rest f H k) rounds rest ja.l f H (vu c (λc rest f H k=>AH ja f H λf H=>go c rest f H k) k)) n
def mg (X:cI) (call:aT β) (tr:List Tmp) (ja:ig) (rounds:Nat) (n:Nat):nT β :=
 λc rest f H k=>AH ja f H λf H=>H9 X call tr ja rounds n c rest f H k
def Du (X:cI) (H:aa) (f:cj) (r:ResultVar) (k:AV->Option β):Option β :=
 match r with
 |.tmp t=>k (f.get t)
 |.cell x t=>loadT X H t (f.get x) k
def qb (X:cI) (H:aa) (f:cj) (k:List AV->Option β):List ResultVar->Option β
 |[]=>k []
 |r::l=>Du X H f r λv=>qb X H f (λvs=>k (v::vs)) l
def mh:List AV->AV
 |[v]=>v
 |l=>.cB l
def lC (X:cI) (fn:Func) (k:AV->aa->Option β):KT β:=λlv f H =>
 match lv with
 |.normal=>qb X H f (λvs=>k (mh vs) H) fn.results.toList
 |.ret=>qb X H f (λvs=>k (mh vs) H) fn.results.toList
 |_=>none
structure bG where
 Fs:ig
 ja:ig
 tr:List Tmp
def ag (X:cI) (call:aT β) (an:bG) (rounds:Nat) (id:FuncId) (args:List AV) (H:aa) (k:AV->aa->Option β):Option β :=
 match X.P.funcs[id]? with
 |
  some fn=>match fn.body with
  |some c=>pick2 (Nat.ble args.length fn.ntmps)
   (eE X call an.tr (mg X call an.tr an.ja rounds rounds) rounds c an.Fs ((cj.mk fn.ntmps .e).fill 0 args) H (lC X fn k)) none
  |none=>none
 |none=>none
end
end
end Go.Tv

namespace Go.Tv
open Go.Ev (Tr pick2 Leave Mem Blk alive pick2_eq)
structure Wo where
 F:Nat->Option (List Value)
 ρ:Nat->Option (Nat×Nat×Nat)
 Γ:Nat->Nat->Option (Sigma λe:Ty=>List e.den)
structure Wo.le (S T:Wo):Prop where
 F:∀i x,S.F i=some x->T.F i=some x
 ρ:∀i x,S.ρ i=some x->T.ρ i=some x
 Γ:∀i v x,S.Γ i v=some x->T.Γ i v=some x
 -- a row that has none keeps none,so akc as it is told of
theorem Wo.le_refl (S:Wo):S.le S:=⟨λ_ _ h=>h,λ_ _ h=>h,λ_ _ _ h=>h⟩
theorem Wo.le_trans {a b c:Wo} (h:a.le b) (k:b.le c):a.le c:=⟨λi x hx=>k.F i x (h.F i x hx),λi x hx=>k.ρ i x (h.ρ i x hx),λi v x hx=>k.Γ i v x (h.Γ i v x hx)⟩
def fN {α:Type} (R:α->List Value->Prop):List α->List Value->Prop
 |[],cs=>cs=[]
 |x::l,cs=>∃c1 c2,cs=c1++c2/\R x c1/\fN R l c2
def SR {α:Type} (R:α->List Value->Prop) (F:Nat->Option (List Value)) (l:List α) (v:Value):Prop :=
 (l=[]/\(v = .slice none 0 0\/v=Ev.vd))\/∃i pre mid post cap,v = .slice (some ⟨i,pre.length,none⟩) l.length cap/\F i=some (pre++(mid++post))/\fN R l mid/\l.length<=cap
def CR (F:Nat->Option (List Value)):(e:Ty)->e.den->List Value->Prop
 |.int k,n,cs=>cs=[.int k n]
 |.bool,b,cs=>cs=[.bool b]
 |.str,s,cs=>cs=[.string ⟨s.toArray⟩]
 |.kV,n,cs=>cs=[.float .f64 n]
 |.unit,_,cs=>cs=[]
 |.sl e,l,cs=>∃v,cs=[v]/\SR (CR F e) F l v
 |.pair a b,x,cs=>∃c1 c2,cs=c1++c2/\CR F a x.1 c1/\CR F b x.2 c2
theorem fN.mono {α:Type} {R R':α->List Value->Prop} (h:∀x c,R x c->R' x c):∀{l:List α} {cs:List Value},fN R l cs->fN R' l cs
 |[],_,hc=>hc
 |_::_,_,⟨c1,c2,e,h1,h2⟩=>⟨c1,c2,e,h _ _ h1,h2.mono h⟩
theorem CR.mono {F F':Nat->Option (List Value)} (hF:∀i x,F i=some x->F' i=some x):∀(e:Ty) (x:e.den) (cs:List Value),CR F e x cs->CR F' e x cs
 |.int _,_,_,h=>h
 |.bool,_,_,h=>h
 |.str,_,_,h=>h
 |.kV,_,_,h=>h
 |.unit,_,_,h=>h
 |.sl e,l,cs,⟨v,e1,h⟩=>⟨v,e1,by
  rcases h with h|⟨i,pre,mid,post,cap,h1,h2,h3,h4⟩
  .
   exact .inl h
  exact .inr ⟨i,pre,mid,post,cap,h1,hF _ _ h2,h3.mono λx c=>CR.mono hF e x c,h4⟩⟩
 |.pair a b,_,_,⟨c1,c2,e,h1,h2⟩=>⟨c1,c2,e,CR.mono hF a _ _ h1,CR.mono hF b _ _ h2⟩
theorem SR.mono {F F':Nat->Option (List Value)} (hF:∀i x,F i=some x->F' i=some x) {e:Ty} {l:List e.den} {v:Value} (h:SR (CR F e) F l v):SR (CR F' e) F' l v:=by
 rcases h with h|⟨i,pre,mid,post,cap,h1,h2,h3,h4⟩
 .
  exact .inl h
 exact .inr ⟨i,pre,mid,post,cap,h1,hF _ _ h2,h3.mono λx c=>CR.mono hF e x c,h4⟩
theorem CR.length {F:Nat->Option (List Value)}:∀(e:Ty) (x:e.den) (cs:List Value),CR F e x cs->cs.length=e.size
 |.int _,_,_,h=>by rw[h];rfl
 |.bool,_,_,h=>by rw[h];rfl
 |.str,_,_,h=>by rw[h];rfl
 |.kV,_,_,h=>by rw[h];rfl
 |.unit,_,_,h=>by rw[h];rfl
 |.sl _,_,_,⟨v,h,_⟩=>by rw[h];rfl
 |.pair a b,_,_,⟨c1,c2,e,h1,h2⟩=>by rw[e,List.length_append,CR.length a _ _ h1,CR.length b _ _ h2];rfl
theorem fN.length {α:Type} {R:α->List Value->Prop} {s:Nat} (hR:∀x c,R x c->c.length=s):∀{l:List α} {cs:List Value},fN R l cs->cs.length=l.length*s
 |[],_,h=>by rw[h];simp
 |x::l,_,⟨c1,c2,e,h1,h2⟩=>by rw[e,List.length_append,hR _ _ h1,h2.length hR,List.length_cons,Nat.succ_mul,Nat.add_comm]
theorem fN.append {α:Type} {R:α->List Value->Prop}:∀{l m:List α} {cs ds:List Value},fN R l cs->fN R m ds->fN R (l++m) (cs++ds)
 |[],_,_,_,h,k=>by rw[h];simpa using k
 |x::l,m,_,ds,⟨c1,c2,e,h1,h2⟩,k=>⟨c1,c2++ds,by rw[e];simp,h1,h2.append k⟩
theorem fN.get {α:Type} {R:α->List Value->Prop} {s:Nat} (hR:∀x c,R x c->c.length=s):∀{l:List α} {cs:List Value} {j:Nat} {x:α},fN R l cs->l[j]? = some x->∃a c b,cs=a++(c++b)/\a.length=j*s/\R x c/\fN R (l.take j) a/\fN R (l.drop (j+1)) b
 |[],_,_,_,_,h=>by simp at h
 |
  y::l,_,0,x,⟨c1,c2,e,h1,h2⟩,h=>by
  simp at h;subst h;exact ⟨[],c1,c2,by simpa using e,by simp,h1,rfl,by simpa using h2⟩
 |
  y::l,_,j+1,x,⟨c1,c2,e,h1,h2⟩,h=>by
  obtain ⟨a,c,b,e1,e2,e3,e4,e5⟩:=h2.get hR (j:=j) (x:=x) (by simpa using h)
  exact ⟨c1++a,c,b,by rw[e,e1];simp,by rw[List.length_append,e2,hR _ _ h1,Nat.succ_mul,Nat.add_comm],e3,⟨c1,a,rfl,h1,e4⟩,by simpa using e5⟩
theorem fN.split {α:Type} {R:α->List Value->Prop} {s:Nat} (hR:∀x c,R x c->c.length=s):∀{l:List α} {cs:List Value} (j:Nat),fN R l cs->∃a b,cs=a++b/\fN R (l.take j) a/\fN R (l.drop j) b
 |l,cs,0,h=>⟨[],cs,by simp,by simp[fN],by simpa using h⟩
 |[],cs,j+1,h=>⟨[],[],by rw[show cs=[] from h];rfl,by simp[fN],by simp[fN]⟩
 |
  x::l,_,j+1,⟨c1,c2,e,h1,h2⟩=>by
  obtain ⟨a,b,e1,e2,e3⟩:=h2.split hR j;exact ⟨c1++a,b,by rw[e,e1];simp,⟨c1,a,rfl,h1,e2⟩,by simpa using e3⟩
inductive VR (S:Wo):AV->Value->Prop where
 |int (k n):VR S (.int k n) (.int k n)
 |bool (b):VR S (.bool b) (.bool b)
 |str (s):VR S (.str s) (.string ⟨s.toArray⟩)
 |kV (n):VR S (.kV n) (.float .f64 n)
 |bF (e l v) (h:SR (CR S.F e) S.F l v):VR S (.bF e l) v
 |bK:VR S .bK (.slice none 0 0)
 |own (id n i cap s) (h:S.ρ id=some (i,cap,s)) (g) (hg:S.Γ id 0=some g) (hn:g.2.length=n):VR S (.own id n) (.slice (some ⟨i,0,none⟩) n cap)
 |cQ (id g) (hg:S.Γ id 0=some g) (hn:g.2.length=0):VR S (.own id 0) (.slice none 0 0)
 |pz (id off len cap i c s) (h:S.ρ id=some (i,c,s)) (g) (hg:S.Γ id 0=some g) (hc:off+cap=g.2.length) (hl:len<=cap):VR S (.pz id off len cap) (.slice (some ⟨i,off*s,none⟩) len cap)
 |ptr (id off i c s) (h:S.ρ id=some (i,c,s)):VR S (.ptr id off) (.pointer (some ⟨i,off,none⟩))
 |AG (id j fo cw cur i c) (e:Ty) (l:List e.den) (y:e.den) (h:S.ρ id=some (i,c,e.size)) (hg:S.Γ id cw=some ⟨e,l⟩) (hy:l[j]? = some y) (hc:cur=flat e y):VR S (.AG id j fo cw cur) (.pointer (some ⟨i,j*e.size+fo,none⟩))
 |Er (id n i c s) (h:S.ρ id=some (i,c,s)) (g) (hg:S.Γ id 0=some g) (hn:g.2.length=n):VR S (.Er id n) (.pointer (some ⟨i,0,none⟩))
 |yX (id i c s) (h:S.ρ id=some (i,c,s)):VR S (.yX id) (.map (some i))
 |dat (id i c s) (h:S.ρ id=some (i,c,s)):VR S (.dat id) (.pointer (some ⟨i,0,none⟩))
 |vp (cs:List AV) (i) (pre mid post:List Value) (h:S.F i=some (pre++(mid++post))) (hl:cs.length=mid.length) (hc:∀(j:Nat) x y,cs[j]? = some x->mid[j]? = some y->VR S x y):VR S (.vp cs) (.pointer (some ⟨i,pre.length,none⟩))
 |je:VR S .je (.pointer none)
 |fn (f) (a b:List AV) (a' b':List Value) (ha:a.length=a'.length) (hb:b.length=b'.length) (va:∀(j:Nat) x y,a[j]? = some x->a'[j]? = some y->VR S x y) (vb:∀(j:Nat) x y,b[j]? = some x->b'[j]? = some y->VR S x y):VR S (.fn f a b) (.func (.func f) a'.toArray b'.toArray)
 |agg (l:List AV) (m:List Value) (hl:l.length=m.length) (hv:∀(j:Nat) x y,l[j]? = some x->m[j]? = some y->VR S x y):VR S (.agg l) (.agg m.toArray)
 |cB (l:List AV) (m:List Value) (hl:l.length=m.length) (hv:∀(j:Nat) x y,l[j]? = some x->m[j]? = some y->VR S x y):VR S (.cB l) (.tuple m.toArray)
 |xR (v) (h:Ev.addrFree v=true):VR S (.xR v) v
 |fl (a v) (h:v=Ev.Hr a):VR S (.fl a) v
 |cx (a b v) (h:v=Ev.cxV a b):VR S (.cx a b) v
 |iC (v):VR S .iC v
theorem VR.bQ {S:Wo} {k:IntKind} {n:Int} {v:Value} (h:VR S (.int k n) v):v = .int k n:=by cases h;rfl
theorem VR.gi {S:Wo} {b:Bool} {v:Value} (h:VR S (.bool b) v):v = .bool b:=by cases h;rfl
theorem VR.ef {S:Wo} {s:List UInt8} {v:Value} (h:VR S (.str s) v):v = .string ⟨s.toArray⟩:=by cases h;rfl
def LV (S:Wo) (l:List AV) (m:List Value):Prop:=l.length=m.length/\∀(j:Nat) x y,l[j]? = some x->m[j]? = some y->VR S x y
theorem VR.mono {S T:Wo} (hle:S.le T) {v:AV} {x:Value} (h:VR S v x):VR T v x:=by
 induction h with
 |int=>exact .int _ _
 |bool=>exact .bool _
 |str=>exact .str _
 |kV=>exact .kV _
 |bF e l v h=>exact .bF e l v (h.mono hle.F)
 |bK=>exact .bK
 |own id n i cap s h g hg hn=>exact .own id n i cap s (hle.ρ _ _ h) g (hle.Γ _ _ _ hg) hn
 |cQ id g hg hn=>exact .cQ id g (hle.Γ _ _ _ hg) hn
 |pz id off len cap i c s h g hg hc hl=>exact .pz id off len cap i c s (hle.ρ _ _ h) g (hle.Γ _ _ _ hg) hc hl
 |ptr id off i c s h=>exact .ptr id off i c s (hle.ρ _ _ h)
 |AG id j fo cw cur i c e l y h hg hy hc=>exact .AG id j fo cw cur i c e l y (hle.ρ _ _ h) (hle.Γ _ _ _ hg) hy hc
 |Er id n i c s h g hg hn=>exact .Er id n i c s (hle.ρ _ _ h) g (hle.Γ _ _ _ hg) hn
 |yX id i c s h=>exact .yX id i c s (hle.ρ _ _ h)
 |dat id i c s h=>exact .dat id i c s (hle.ρ _ _ h)
 |vp cs i pre mid post h hl _ ih=>exact .vp cs i pre mid post (hle.F _ _ h) hl ih
 |je=>exact .je
 |fn f a b a' b' ha hb _ _ SL SM=>exact .fn f a b a' b' ha hb SL SM
 |agg l m hl _ ih=>exact .agg l m hl ih
 |cB l m hl _ ih=>exact .cB l m hl ih
 |xR v h=>exact .xR v h
 |fl a v h=>exact .fl a v h
 |cx a b v h=>exact .cx a b v h
 |iC v=>exact .iC v
theorem LV.mono {S T:Wo} (hle:S.le T) {l:List AV} {m:List Value} (h:LV S l m):LV T l m:=⟨h.1,λj x y hx hy=>(h.2 j x y hx hy).mono hle⟩
theorem LV.nil {S:Wo}:LV S [] []:=⟨rfl,λj x y hx=>by simp at hx⟩
theorem LV.cons {S:Wo} {v:AV} {x:Value} {l:List AV} {m:List Value} (h:VR S v x) (k:LV S l m):LV S (v::l) (x::m) :=
 ⟨by simp[k.1],λj a b ha hb=>by
  cases j with
  |zero=>simp at ha hb;subst ha;subst hb;exact h
  |succ j=>exact k.2 j a b (by simpa using ha) (by simpa using hb)⟩
theorem LV.dM {S:Wo} {m:List Value} (h:LV S [] m):m=[]:=by
 have:=h.1;simp at this;exact List.length_eq_zero_iff.1 this.symm
theorem LV.cons_inv {S:Wo} {v:AV} {l:List AV} {m:List Value} (h:LV S (v::l) m):∃x m',m=x::m'/\VR S v x/\LV S l m':=by
 cases m with
 |nil=>have:=h.1;simp at this
 |cons x m'=>exact ⟨x,m',rfl,h.2 0 v x rfl rfl,by have:=h.1;simpa using this,λj a b ha hb=>h.2 (j+1) a b (by simpa using ha) (by simpa using hb)⟩
theorem LV.append {S:Wo}:∀{l l':List AV} {m m':List Value},LV S l m->LV S l' m'->LV S (l++l') (m++m')
 |[],_,m,_,h,k=>by rw[h.dM];simpa using k
 |
  v::l,l',m,m',h,k=>by
  obtain ⟨x,m1,rfl,h1,h2⟩:=h.cons_inv;exact LV.cons h1 (h2.append k)
theorem LV.drop {S:Wo} {l:List AV} {m:List Value} (h:LV S l m) (n:Nat):LV S (l.drop n) (m.drop n) :=
 ⟨by simp[h.1],λj x y hx hy=>h.2 (n+j) x y (by simpa using hx) (by simpa using hy)⟩
theorem LV.take {S:Wo} {l:List AV} {m:List Value} (h:LV S l m) (n:Nat):LV S (l.take n) (m.take n) :=
 ⟨by simp[h.1],λj x y hx hy=>by
  rw[List.getElem?_take] at hx hy;by_cases hj:j<n
  .
   rw[if_pos hj] at hx hy;exact h.2 j x y hx hy
  rw[if_neg hj] at hx;cases hx⟩
theorem LV.get {S:Wo} {l:List AV} {m:List Value} (h:LV S l m) {j:Nat} {x:AV} (hx:l[j]? = some x):∃y,m[j]? = some y/\VR S x y:=by
 have hlt:j<l.length:=(List.getElem?_eq_some_iff.1 hx).1
 have:j<m.length:=by rw[<-h.1];exact hlt
 exact ⟨m[j],List.getElem?_eq_getElem this,h.2 j x _ hx (List.getElem?_eq_getElem this)⟩
theorem LV.map {S:Wo} {α:Type} {f:α->AV} {g:α->Value}:∀(l:List α),(∀x∈l,VR S (f x) (g x))->LV S (l.map f) (l.map g)
 |[],_=>LV.nil
 |x::l,h=>LV.cons (h x (by simp)) (LV.map l λy hy=>h y (by simp[hy]))
theorem LV.set {S:Wo} {l:List AV} {m:List Value} (h:LV S l m) (i:Nat) {v:AV} {x:Value} (hv:VR S v x):LV S (l.set i v) (m.set i x) :=
 ⟨by simp[h.1],λj a b ha hb=>by
  rw[List.getElem?_set] at ha hb;by_cases hj:i=j
  .
   subst hj;rw[if_pos rfl] at ha hb;split at ha
   .
    split at hb
    .
     cases ha;cases hb;exact hv
    cases hb
   cases ha
  rw[if_neg hj] at ha hb;exact h.2 j a b ha hb⟩
theorem LV.gZ {S:Wo}:∀(vs:List AV) (xs:List Value) {l:List AV} {m:List Value} (off:Nat),LV S vs xs->LV S l m->LV S (gZ l off vs) (Ev.ij m off xs)
 |[],xs,l,m,off,h,k=>by rw[h.dM];exact k
 |
  v::vs,xs,l,m,off,h,k=>by
  obtain ⟨x,xs',rfl,h1,h2⟩:=h.cons_inv;exact LV.gZ vs xs' (off+1) h2 (k.set off h1)
theorem CR.flat {S:Wo}:∀(e:Ty) (x:e.den) (cs:List Value),CR S.F e x cs->LV S (flat e x) cs
 |.int k,n,_,h=>by rw[h];exact LV.cons (.int k n) LV.nil
 |.bool,b,_,h=>by rw[h];exact LV.cons (.bool b) LV.nil
 |.str,s,_,h=>by rw[h];exact LV.cons (.str s) LV.nil
 |.kV,n,_,h=>by rw[h];exact LV.cons (.kV n) LV.nil
 |.unit,_,_,h=>by rw[h];exact LV.nil
 |.sl e,l,_,⟨v,h1,h2⟩=>by rw[h1];exact LV.cons (.bF e l v h2) LV.nil
 |.pair a b,x,_,⟨c1,c2,e,h1,h2⟩=>by rw[e];exact (CR.flat a _ _ h1).append (CR.flat b _ _ h2)
theorem aS {e e':Ty} {l:List e.den} {l':List e'.den} (h:eP e e' l=some l'):∃he:e=e',he ▸ l=l':=by
 unfold eP at h
 split at h
 .
  rename_i he;exact ⟨he,by simpa using h⟩
 cases h
theorem mR:∀(e:Ty) (x:e.den),(flat e x).length=e.size
 |.int _,_=>rfl
 |.bool,_=>rfl
 |.str,_=>rfl
 |.kV,_=>rfl
 |.unit,_=>rfl
 |.sl _,_=>rfl
 |.pair a b,x=>by show (flat a x.1++flat b x.2).length=_;rw[List.length_append,mR a,mR b];rfl
theorem kz {S:Wo}:∀(e:Ty) {l r:List AV} {x:e.den} {m:List Value},sr e l=some (x,r)->LV S l m->∃c m',m=c++m'/\CR S.F e x c/\LV S r m'
 |
  .int k,l,r,x,m,h,hl=>by
  have h:XB k l=some (x,r):=h;unfold XB at h;split at h
  .
   split at h
   .
    rename_i k' n r' _ hk;obtain ⟨y,m',rfl,h1,h2⟩:=hl.cons_inv;have e1:n=x:=congrArg Prod.fst (Option.some.inj h);have e2:r'=r:=congrArg Prod.snd (Option.some.inj h);subst e1;subst e2;subst hk;cases h1;exact ⟨[_],m',rfl,rfl,h2⟩
   cases h
  cases h
 |
  .bool,l,r,x,m,h,hl=>by
  have h:Ot l=some (x,r):=h;unfold Ot at h;split at h
  .
   cases h;obtain ⟨y,m',rfl,h1,h2⟩:=hl.cons_inv;cases h1;exact ⟨[_],m',rfl,rfl,h2⟩
  cases h
 |
  .str,l,r,x,m,h,hl=>by
  have h:XC l=some (x,r):=h;unfold XC at h;split at h
  .
   cases h;obtain ⟨y,m',rfl,h1,h2⟩:=hl.cons_inv;cases h1;exact ⟨[_],m',rfl,rfl,h2⟩
  cases h
 |
  .kV,l,r,x,m,h,hl=>by
  have h:XD l=some (x,r):=h;unfold XD at h;split at h
  .
   cases h;obtain ⟨y,m',rfl,h1,h2⟩:=hl.cons_inv;cases h1;exact ⟨[_],m',rfl,rfl,h2⟩
  cases h
 |
  .unit,l,r,x,m,h,hl=>by
  have h:some ((),l)=some (x,r):=h;cases h;exact ⟨[],m,rfl,rfl,hl⟩
 |
  .sl e,l,r,x,m,h,hl=>by
  have h:hSl e l=some (x,r):=h;unfold hSl at h;split at h
  .
   split at h
   .
    rename_i l' hc;cases h;obtain ⟨he,hc'⟩:=aS hc;subst he;obtain ⟨y,m',rfl,h1,h2⟩:=hl.cons_inv;cases hc';cases h1;rename_i hs;exact ⟨[_],m',rfl,⟨_,rfl,hs⟩,h2⟩
   cases h
  .
   cases h;obtain ⟨y,m',rfl,h1,h2⟩:=hl.cons_inv;cases h1;exact ⟨[_],m',rfl,⟨_,rfl,.inl ⟨rfl,.inl rfl⟩⟩,h2⟩
  cases h
 |
  .pair a b,l,r,x,m,h,hl=>by
  unfold sr at h;split at h
  .
   rename_i x1 r1 h1;split at h
   .
    rename_i y1 r2 h2;cases h;obtain ⟨c1,m1,rfl,k1,k2⟩:=kz a h1 hl;obtain ⟨c2,m2,rfl,k3,k4⟩:=kz b h2 k2;exact ⟨c1++c2,m2,by simp,⟨c1,c2,rfl,k1,k3⟩,k4⟩
   cases h
  cases h
theorem oM {S:Wo} (e:Ty):∀(n:Nat) {l:List AV} {xs:List e.den} {m:List Value},oK e n l=some xs->LV S l m->fN (CR S.F e) xs m/\xs.length=n
 |0,[],xs,m,h,hl=>by simp[oK] at h;subst h;exact ⟨hl.dM,rfl⟩
 |0,_::_,xs,m,h,hl=>by simp[oK] at h
 |
  n+1,l,xs,m,h,hl=>by
  unfold oK at h;split at h
  .
   rename_i x r h1;split at h
   .
    rename_i l' h2;cases h;obtain ⟨c,m',rfl,k1,k2⟩:=kz e h1 hl;obtain ⟨k3,k4⟩:=oM e n h2 k2;exact ⟨⟨c,m',rfl,k1,k3⟩,by simp[k4]⟩
   cases h
  cases h
theorem VR.iI {S:Wo} {v:AV} {x:Value} (h:VR S v x) (hp:l8 v=true):Ev.jf x=false:=by
 cases h with
 |bF e l v hs=>rcases hs with ⟨_,rfl|rfl⟩|⟨i,pre,mid,post,cap,rfl,_⟩<;>rfl
 |agg=>cases hp
 |cB=>cases hp
 |iC=>cases hp
 |fl=>cases hp
 |cx=>cases hp
 |xR v hf=>cases x<;>first|rfl|cases hf
 |_=>rfl
theorem LV.iI {S:Wo}:∀{l:List AV} {m:List Value},LV S l m->l.all l8=true->m.any Ev.jf=false
 |[],m,h,_=>by rw[h.dM];rfl
 |
  v::l,m,h,hp=>by
  obtain ⟨x,m',rfl,h1,h2⟩:=h.cons_inv;simp only[List.all_cons,Bool.and_eq_true] at hp;simp only[List.any_cons,h1.iI hp.1,h2.iI hp.2,Bool.or_self]
theorem CR.iI {F:Nat->Option (List Value)}:∀(e:Ty) (x:e.den) (cs:List Value),CR F e x cs->cs.any Ev.jf=false
 |.int _,_,_,h=>by rw[h];rfl
 |.bool,_,_,h=>by rw[h];rfl
 |.str,_,_,h=>by rw[h];rfl
 |.kV,_,_,h=>by rw[h];rfl
 |.unit,_,_,h=>by rw[h];rfl
 |
  .sl _,_,_,⟨v,h,hs⟩=>by
  rw[h];rcases hs with ⟨_,rfl|rfl⟩|⟨i,pre,mid,post,cap,rfl,_⟩<;>rfl
 |.pair a b,_,_,⟨c1,c2,e,h1,h2⟩=>by rw[e,List.any_append,CR.iI a _ _ h1,CR.iI b _ _ h2];rfl
theorem fN.iI {F:Nat->Option (List Value)} {e:Ty}:∀{l:List e.den} {cs:List Value},fN (CR F e) l cs->cs.any Ev.jf=false
 |[],_,h=>by rw[h];rfl
 |x::l,_,⟨c1,c2,e',h1,h2⟩=>by rw[e',List.any_append,CR.iI e _ _ h1,h2.iI];rfl
end Go.Tv

namespace Go.Tv
open Go.Ev (Tr pick2 Leave Mem Blk alive pick2_eq alive_some)
def Row.live:Row->Option Row
 |.dead=>none
 |r=>some r
theorem aa.get_eq (H:aa) (i:Nat):H.get i=if i<H.next then (H.t.get i).bind Row.live else none:=by
 unfold aa.get
 split
 .
  rename_i h;rw[h];simp[Row.live]
 .
  rename_i r h1 h2;rw[pick2_eq,Ev.fX];simp only[decide_eq_true_eq];split
  .
   rw[h2];cases r<;>first|rfl|exact absurd rfl h1
  rfl
 rename_i h;rw[h];simp
theorem aa.OC {H:aa} {i:Nat}:H.get i≠some .dead:=by
 rw[aa.get_eq]
 split
 .
  cases H.t.get i with
  |none=>intro h;cases h
  |some q=>cases q<;>intro h<;>cases h
 intro h;cases h
theorem aa.bI {H:aa} {i:Nat} {r:Row} (h:H.get i=some r):i<H.next:=by
 rw[aa.get_eq] at h
 split at h
 .
  assumption
 cases h
theorem aa.cy (H:aa) (i:Nat) (r:Row):(H.put i r).next=H.next/\(H.put i r).lk=H.lk/\(H.put i r).par=H.par/\∀j,(H.put i r).get j=if j=i then (if i<H.next then r.live else none) else H.get j:=by
 obtain ⟨t',ht⟩:=Tr.dD r H.t i
 have e:H.put i r=⟨H.next,H.lk,H.par,t'⟩:=by unfold aa.put;rw[ht]
 rw[e]
 refine ⟨rfl,rfl,rfl,λj=>?_⟩
 rw[aa.get_eq,aa.get_eq]
 simp only[Tr.qJ ht]
 by_cases hj:j=i
 .
  subst hj;rw[if_pos rfl,if_pos rfl];rfl
 rw[if_neg hj,if_neg hj]
theorem aa.bf (H:aa) (r:Row):(H.push r).next=H.next+1/\(H.push r).lk=H.lk/\(H.push r).par=H.par/\∀j,(H.push r).get j=if j=H.next then r.live else H.get j:=by
 obtain ⟨t',ht⟩:=Tr.dD r H.t H.next
 have e:H.push r=⟨H.next+1,H.lk,H.par,t'⟩:=by unfold aa.push;rw[ht]
 rw[e]
 refine ⟨rfl,rfl,rfl,λj=>?_⟩
 rw[aa.get_eq,aa.get_eq]
 simp only[Tr.qJ ht]
 by_cases hj:j=H.next
 .
  subst hj;rw[if_pos (by omega),if_pos rfl,if_pos rfl];cases r<;>rfl
 rw[if_neg hj,if_neg hj]
 by_cases h:j<H.next
 .
  rw[if_pos h,if_pos (by omega)]
 rw[if_neg h,if_neg (by omega)]
theorem mj {H:Mem} {i:Nat} {b:Blk} (h:H.get i=some b) (hl:b.live=true):alive H i=some b:=by
 unfold alive;rw[h];simp[hl]
theorem iU {H H':Mem} {i:Nat} (h:H'.get i=H.get i):alive H' i=alive H i:=by
 unfold alive;rw[h]
theorem fy {H:Mem} {i:Nat} {b:Blk} (h:alive H i=some b):i<H.size:=Mem.bI (alive_some h).1
def Row.BJ:Row->Bool
 |.list _ _ _ _ _ ro=>ro
 |_=>false
def dh:List (List UInt8×Int)->List Value
 |[]=>[]
 |q::l=>.string ⟨q.1.toArray⟩ :: .int .i64 q.2::dh l
def MC (S:Wo):List (AV×AV)->List Value->Prop
 |[],cs=>cs=[]
 |q::l,cs=>∃y x r,cs=y::x::r/\VR S q.1 y/\VR S q.2 x/\MC S l r
theorem MC.mono {S T:Wo} (hle:S.le T):∀{l:List (AV×AV)} {cs:List Value},MC S l cs->MC T l cs
 |[],cs,h=>h
 |q::l,cs,⟨y,x,r,h1,h0,h2,h3⟩=>⟨y,x,r,h1,h0.mono hle,h2.mono hle,MC.mono hle h3⟩
theorem MC.snoc {S:Wo} {s:AV} {v:AV} {y x:Value} (hs:VR S s y) (hv:VR S v x):∀{l:List (AV×AV)} {cs:List Value},MC S l cs->MC S (l++[(s,v)]) (cs++[y,x])
 |
  [],cs,h=>by
  have h:cs=[]:=h;subst h;exact ⟨y,x,[],rfl,hs,hv,rfl⟩
 |
  q::l,cs,⟨y0,x0,r,h1,h0,h2,h3⟩=>by
  subst h1;exact ⟨y0,x0,_,rfl,h0,h2,MC.snoc hs hv h3⟩
def mS (S:Wo) (HE:Mem) (id:Nat):Row->Prop
 |.dead=>True
 |.cells t cs=>∃i c s b,S.ρ id=some (i,c,s)/\alive HE i=some b/\LV S cs b.cells/\b.elem=t/\b.fix=true
 |.list t e l cw ex ro=>S.Γ id cw=some ⟨e,l⟩/\((∀v,cw<v->S.Γ id v=none)/\∃g,S.Γ id 0=some g/\g.2.length=l.length) /\
  (
   (l=[]/\S.ρ id=none/\ex=false) \/
   ∃i cap b mid post,S.ρ id=some (i,cap,e.size)/\alive HE i=some b/\b.elem=t/\b.cells=mid++post/\fN (CR S.F e) l mid/\b.cells.length=cap*e.size/\l.length<=cap/\cap<=1000000 /\
    (ex=true->b.fix=true/\post=[]/\l.length=cap)/\(ro=true->S.F i=some b.cells)/\∃l2,fN (CR S.F e) l2 post)
 |.mp t ks=>∃i c s b,S.ρ id=some (i,c,s)/\HE.get i=some b/\Ev.cO b=true/\b.cells=dh ks/\b.elem=t
 |.mf t ks=>∃i c s b,S.ρ id=some (i,c,s)/\HE.get i=some b/\Ev.cO b=true/\MC S ks b.cells/\b.elem=t
structure Rel (S:Wo) (H:aa) (HE:Mem):Prop where
 fz:∀i cs,S.F i=some cs->∃b,alive HE i=some b/\b.cells=cs
 dom:∀id x,S.ρ id=some x->id<H.next
 A0:∀id v,H.next<=id->S.Γ id v=none
 row:∀id r,H.get id=some r->mS S HE id r
 inj:∀id id' r r' x x',H.get id=some r->H.get id'=some r'->S.ρ id=some x->S.ρ id'=some x'->x.1=x'.1->id=id'
 sep:∀id r x,H.get id=some r->r.BJ=false->S.ρ id=some x->S.F x.1=none
 lk:∀id r x,H.get id=some r->H.lk<=id->S.ρ id=some x->HE.lk<=x.1
 tw:H.lk<=H.next
 Ia:H.par<=H.next
 Eu:HE.lk<=HE.size
theorem Rel.old {S:Wo} {H:aa} {E:Mem} (h:Rel S H E) {id:Nat} {r:Row} {y:Nat×Nat×Nat} (hg:H.get id=some r) (hy:S.ρ id=some y):∃b,E.get y.1=some b:=by
 have hra:=h.row id r hg
 cases r with
 |dead=>exact absurd hg aa.OC
 |cells t cs=>obtain ⟨i,c,s,b,h1,h2,_⟩:=hra;rw[hy] at h1;cases h1;exact ⟨b,(alive_some h2).1⟩
 |mp t ks=>obtain ⟨i,c,s,b,h1,h2,_⟩:=hra;rw[hy] at h1;cases h1;exact ⟨b,h2⟩
 |mf t ks=>obtain ⟨i,c,s,b,h1,h2,_⟩:=hra;rw[hy] at h1;cases h1;exact ⟨b,h2⟩
 |
  list t e l cw ex ro =>
  obtain ⟨_,_,h3⟩:=hra;rcases h3 with ⟨_,h4,_⟩|⟨i,cap,b,mid,post,k1,k2,_⟩
  .
   rw[hy] at h4;cases h4
  rw[hy] at k1;cases k1;exact ⟨b,(alive_some k2).1⟩
def Own (S:Wo) (H:aa) (i:Nat):Prop:=∃id r x,H.get id=some r/\r.BJ=false/\S.ρ id=some x/\x.1=i
structure St (S:Wo) (H:aa) (HE:Mem) (S':Wo) (H':aa) (HE':Mem):Prop where
 sz:HE.size<=HE'.size
 lk:HE'.lk=HE.lk
 LD:H'.lk=H.lk
 y6:H'.par=H.par
 F:∀i x,S.F i=some x->S'.F i=some x
 own:∀i,Own S' H' i->i<HE.size->Own S H i
 Ho:∀i,S'.F i≠none->S.F i≠none\/Own S H i\/HE.size<=i
 keep:∀i,i<HE.size->¬Own S H i->HE'.get i=HE.get i
 par:∀id,id<H.par->S'.ρ id=S.ρ id
 nx:H.next<=H'.next
 live:∀id,id<H.next->H'.get id≠none->H.get id≠none
 rn:∀id,id<H.next->S.ρ id=none->S'.ρ id=none
theorem St.refl (S:Wo) (H:aa) (HE:Mem):St S H HE S H HE :=
 ⟨Nat.le_refl _,rfl,rfl,rfl,λ_ _ h=>h,λ_ h _=>h,λ_ h=>.inl h,λ_ _ _=>rfl,λ_ _=>rfl,Nat.le_refl _,λ_ _ h=>h,λ_ _ h=>h⟩
theorem St.trans {S S1 S2:Wo} {H H1 H2:aa} {E E1 E2:Mem} (h:St S H E S1 H1 E1) (k:St S1 H1 E1 S2 H2 E2):St S H E S2 H2 E2:=by
 refine ⟨Nat.le_trans h.sz k.sz,k.lk.trans h.lk,k.LD.trans h.LD,k.y6.trans h.y6,λi x hx=>k.F i x (h.F i x hx),λi ho hi=>h.own i (k.own i ho (Nat.lt_of_lt_of_le hi h.sz)) hi,λi hf=>?_,λi hi ho=>?_,λid hid=>(k.par id (by rw[h.y6];exact hid)).trans (h.par id hid),Nat.le_trans h.nx k.nx,λid hid hl=>h.live id hid (k.live id (Nat.lt_of_lt_of_le hid h.nx) hl),λid hid hl=>k.rn id (Nat.lt_of_lt_of_le hid h.nx) (h.rn id hid hl)⟩
 .
  rcases k.Ho i hf with h1|h1|h1
  .
   exact h.Ho i h1
  .
   by_cases hi:i<E.size
   .
    exact .inr (.inl (h.own i h1 hi))
   exact .inr (.inr (by omega))
  exact .inr (.inr (Nat.le_trans h.sz h1))
 exact (k.keep i (Nat.lt_of_lt_of_le hi h.sz) λh1=>ho (h.own i h1 hi)).trans (h.keep i hi ho)
theorem Mem.eY (H:Mem) (b:Blk):∃H',H.push b=some H':=by
 obtain ⟨t',ht⟩:=Tr.dD b H.t H.size
 exact ⟨_,by unfold Mem.push;rw[ht]⟩
theorem Mem.dD {H:Mem} {i:Nat} {b:Blk} (hi:i<H.size) (hl:H.lk<=i):∃H',H.set i b=some H':=by
 obtain ⟨t',ht⟩:=Tr.dD b H.t i
 refine ⟨⟨H.size,H.lk,t'⟩,?_⟩
 unfold Mem.set
 rw[pick2_eq,Ev.fX,if_pos (by simpa using hi),pick2_eq,Ev.tv,if_pos (by simpa using hl),ht]
theorem mS.keep {S S':Wo} {E E':Mem} {id:Nat} {r:Row} (hle:S.le S') (hρ:S.ρ id=none->S'.ρ id=none) (hΓ:∀v,S.Γ id v=none->S'.Γ id v=none) (hk:∀x,S.ρ id=some x->E'.get x.1=E.get x.1) (h:mS S E id r):mS S' E' id r:=by
 cases r with
 |dead=>trivial
 |
  cells t cs =>
  obtain ⟨i,c,s,b,h1,h2,h3,h4⟩:=h;exact ⟨i,c,s,b,hle.ρ _ _ h1,by rw[iU (hk _ h1)];exact h2,h3.mono hle,h4⟩
 |
  mp t ks =>
  obtain ⟨i,c,s,b,h1,h2,h3⟩:=h;exact ⟨i,c,s,b,hle.ρ _ _ h1,by rw[hk _ h1];exact h2,h3⟩
 |
  mf t ks =>
  obtain ⟨i,c,s,b,h1,h2,h3,h4,h5⟩:=h;exact ⟨i,c,s,b,hle.ρ _ _ h1,by rw[hk _ h1];exact h2,h3,h4.mono hle,h5⟩
 |
  list t e l cw ex ro =>
  obtain ⟨h1,h2,h3⟩:=h;obtain ⟨h2,g,hg,hn⟩:=h2;refine ⟨hle.Γ _ _ _ h1,⟨λv hv=>hΓ v (h2 v hv),g,hle.Γ _ _ _ hg,hn⟩,?_⟩
  rcases h3 with ⟨h3,h4,h5⟩|⟨i,cap,b,mid,post,k1,k2,k3,k4,k5,k6,k7,k8,k9,k10⟩
  .
   exact .inl ⟨h3,hρ h4,h5⟩
  exact .inr ⟨i,cap,b,mid,post,hle.ρ _ _ k1,by rw[iU (hk _ k1)];exact k2,k3,k4,k5.mono λx c=>CR.mono hle.F e x c,k6,k7,k8,k9,λhr=>hle.F _ _ (k10.1 hr),k10.2.imp λl2 h=>h.mono λx c=>CR.mono hle.F e x c⟩
def Wo.new (S:Wo) (id:Nat) (x:Option (Nat×Nat×Nat)) (g:Option (Sigma λe:Ty=>List e.den)):Wo :=
 ⟨S.F,λj=>if j=id then x else S.ρ j,λj v=>if j=id/\v=0 then g else S.Γ j v⟩
theorem Wo.Dv {S:Wo} {H:aa} {HE:Mem} (h:Rel S H HE) (x:Option (Nat×Nat×Nat)) (g:Option (Sigma λe:Ty=>List e.den)):S.le (S.new H.next x g):=by
 refine ⟨λ_ _ h=>h,λi y hy=>?_,λi v y hy=>?_⟩
 .
  have:=h.dom i y hy;show (if i=H.next then x else S.ρ i)=_
  rw[if_neg (by omega)];exact hy
 show (if i=H.next/\v=0 then g else S.Γ i v)=_
 by_cases hi:i=H.next
 .
  rw[h.A0 i v (by omega)] at hy;cases hy
 rw[if_neg (by omega)];exact hy
theorem Rel.add {S:Wo} {H:aa} {E E':Mem} (h:Rel S H E) {r:Row} {x:Option (Nat×Nat×Nat)} {g:Option (Sigma λe:Ty=>List e.den)}
 (hs:E.size<=E'.size) (hlk:E'.lk=E.lk) (hk:∀i,i<E.size->E'.get i=E.get i) (hr:∀r',r.live=some r'->mS (S.new H.next x g) E' H.next r')
 (hx:∀y,x=some y->E.size<=y.1) (hro:r.BJ=false) :
 S.le (S.new H.next x g)/\Rel (S.new H.next x g) (H.push r) E'/\St S H E (S.new H.next x g) (H.push r) E':=by
 have hle:=Wo.Dv h x g
 obtain ⟨p1,p2,p3,p4⟩:=aa.bf H r
 have ρne:∀id,id≠H.next->(S.new H.next x g).ρ id=S.ρ id:=λid hid=>if_neg hid
 have ρeq:(S.new H.next x g).ρ H.next=x:=if_pos rfl
 have Γne:∀id v,id≠H.next->(S.new H.next x g).Γ id v=S.Γ id v:=λid v hid=>if_neg (by omega)
 have iJ:∀id r',(H.push r).get id=some r'->(id=H.next/\r.live=some r')\/(id≠H.next/\H.get id=some r'):=λid r' hid=>by
  rw[p4] at hid;by_cases e:id=H.next
  .
   rw[if_pos e] at hid;exact .inl ⟨e,hid⟩
  rw[if_neg e] at hid;exact .inr ⟨e,hid⟩
 have ro':∀r',r.live=some r'->r'.BJ=false:=λr' h=>by
  cases r<;>simp[Row.live] at h<;>subst h<;>first|rfl|exact hro
 have old:∀id r' y,H.get id=some r'->S.ρ id=some y->y.1<E.size:=λid r' y hg hy=>(let ⟨_,hb⟩:=h.old hg hy;Mem.bI hb)
 refine ⟨hle,⟨λi cs hi=>?_,λid y hy=>?_,λid v hv=>?_,λid r' hg=>?_,λid id' r1 r2 y y' hg hg' hy hy' he=>?_,λid r' y hg hb hy=>?_,λid r' y hg hl hy=>?_,by rw[p1,p2];have:=h.tw;omega,by rw[p1,p3];have:=h.Ia;omega,by rw[hlk];have:=h.Eu;omega⟩,
  ⟨hs,hlk,p2,p3,λ_ _ h=>h,λi ho hi=>?_,λi hf=>.inl hf,λi hi _=>hk i hi,λid hid=>?_,by omega,λid hid hl=>(by rw[p4,if_neg (by omega)] at hl;exact hl),λid hid hl=>by rw[ρne id (by omega)];exact hl⟩⟩
 .
  obtain ⟨b,h1,h2⟩:=h.fz i cs hi;exact ⟨b,by rw[iU (hk i (fy h1))];exact h1,h2⟩
 .
  rw[p1];by_cases e:id=H.next
  .
   omega
  rw[ρne id e] at hy;have:=h.dom id y hy;omega
 .
  rw[p1] at hv;rw[Γne id v (by omega)];exact h.A0 id v (by omega)
 .
  rcases iJ id r' hg with ⟨rfl,hr'⟩|⟨e,hg'⟩
  .
   exact hr r' hr'
  refine (h.row id r' hg').keep hle (λhn=>by rw[ρne id e];exact hn) (λv hv=>by rw[Γne id v e];exact hv) λy hy=>hk _ (old id r' y hg' hy)
 .
  rcases iJ id r1 hg with ⟨rfl,h1⟩|⟨e1,h1⟩<;>rcases iJ id' r2 hg' with ⟨rfl,h2⟩|⟨e2,h2⟩
  .
   rfl
  .
   rw[ρeq] at hy;rw[ρne id' e2] at hy';have a1:=hx y hy;have a2:=old id' r2 y' h2 hy';omega
  .
   rw[ρeq] at hy';rw[ρne id e1] at hy;have a1:=hx y' hy';have a2:=old id r1 y h1 hy;omega
  rw[ρne id e1] at hy;rw[ρne id' e2] at hy';exact h.inj id id' r1 r2 y y' h1 h2 hy hy' he
 .
  rcases iJ id r' hg with ⟨rfl,h1⟩|⟨e1,h1⟩
  .
   rw[ρeq] at hy;have a1:=hx y hy;show S.F y.1=none;cases hF:S.F y.1 with
   |none=>rfl
   |some cs=>obtain ⟨b,h3,_⟩:=h.fz _ _ hF;have:=fy h3;omega
  rw[ρne id e1] at hy;exact h.sep id r' y h1 hb hy
 .
  rw[p2] at hl;rw[hlk];rcases iJ id r' hg with ⟨rfl,h1⟩|⟨e1,h1⟩
  .
   rw[ρeq] at hy;have:=hx y hy;have:=h.Eu;omega
  rw[ρne id e1] at hy;exact h.lk id r' y h1 hl hy
 .
  obtain ⟨id,r',y,hg,hb,hy,rfl⟩:=ho;rcases iJ id r' hg with ⟨rfl,h1⟩|⟨e1,h1⟩
  .
   rw[ρeq] at hy;have:=hx y hy;omega
  rw[ρne id e1] at hy;exact ⟨id,r',y,h1,hb,hy,rfl⟩
 exact ρne id (by have:=h.Ia;omega)
theorem Rel.mod {S S':Wo} {H:aa} {E E':Mem} {id:Nat} {r r':Row} (h:Rel S H E) (hg:H.get id=some r) (hro:r.BJ=false)
 (hle:S.le S') (hρ:S'.ρ=S.ρ) (hΓ:∀j v,j≠id->S'.Γ j v=S.Γ j v)
 (hs:E'.size=E.size) (hlk:E'.lk=E.lk) (hE:∀j,(∀y,S.ρ id=some y->j≠y.1)->E'.get j=E.get j)
 (hF:∀j cs,S'.F j=some cs->S.F j=some cs\/((r' = .dead\/r'.BJ=true)/\(∃y,S.ρ id=some y/\y.1=j)/\∃b,alive E' j=some b/\b.cells=cs))
 (hr:∀q,r'.live=some q->mS S' E' id q) :
 Rel S' (H.put id r') E'/\St S H E S' (H.put id r') E':=by
 obtain ⟨p1,p2,p3,p4⟩:=aa.cy H id r'
 have hid:=aa.bI hg
 have iJ:∀j q,(H.put id r').get j=some q->(j=id/\r'.live=some q)\/(j≠id/\H.get j=some q):=λj q hj=>by
  rw[p4] at hj;by_cases e:j=id
  .
   rw[if_pos e,if_pos hid] at hj;exact .inl ⟨e,hj⟩
  rw[if_neg e] at hj;exact .inr ⟨e,hj⟩
 have far:∀j q y,j≠id->H.get j=some q->S.ρ j=some y->∀z,S.ρ id=some z->y.1≠z.1:=λj q y e hj hy z hz he=>e (h.inj j id q r y z hj hg hy hz he)
 have XN:∀j cs,S.F j=some cs->∀z,S.ρ id=some z->j≠z.1:=λj cs hj z hz he=>by
  rw[he,h.sep id r z hg hro hz] at hj;cases hj
 have acr:∀q,r'.live=some q->r'=q:=λq hq=>by cases r'<;>simp[Row.live] at hq<;>exact hq
 refine ⟨⟨λi cs hi=>?_,λj y hy=>?_,λj v hv=>?_,λj q hj=>?_,λj j' q q' y y' hj hj' hy hy' he=>?_,λj q y hj hb hy=>?_,λj q y hj hl hy=>?_,by rw[p1,p2];exact h.tw,by rw[p1,p3];exact h.Ia,by rw[hlk,hs];exact h.Eu⟩,
  ⟨by omega,hlk,p2,p3,hle.F,λi ho hi=>?_,λi hf=>?_,λi hi ho=>?_,λj _=>by rw[hρ],by omega,λj hj hl=>(by
   by_cases e:j=id
   .
    rw[e,hg];simp
   rw[p4,if_neg e] at hl;exact hl),λj _ hl=>by rw[hρ];exact hl⟩⟩
 .
  rcases hF i cs hi with h1|⟨_,_,h1⟩
  .
   obtain ⟨b,h2,h3⟩:=h.fz i cs h1;exact ⟨b,by rw[iU (hE i (XN i cs h1))];exact h2,h3⟩
  exact h1
 .
  rw[hρ] at hy;rw[p1];exact h.dom j y hy
 .
  rw[p1] at hv;rw[hΓ j v (by omega)];exact h.A0 j v hv
 .
  rcases iJ j q hj with ⟨rfl,h1⟩|⟨e,h1⟩
  .
   exact hr q h1
  exact (h.row j q h1).keep hle (λhn=>by rw[hρ];exact hn) (λv hv=>by rw[hΓ j v e];exact hv) λy hy=>hE _ λz hz=>far j q y e h1 hy z hz
 .
  have w1:∀j q,(H.put id r').get j=some q->∃q',H.get j=some q':=λj q hj=>by
   rcases iJ j q hj with ⟨rfl,_⟩|⟨_,h1⟩
   .
    exact ⟨r,hg⟩
   exact ⟨q,h1⟩
  obtain ⟨a,ha⟩:=w1 j q hj;obtain ⟨a',ha'⟩:=w1 j' q' hj';rw[hρ] at hy hy';exact h.inj j j' a a' y y' ha ha' hy hy' he
 .
  rw[hρ] at hy;cases hq:S'.F y.1 with
  |none=>rfl
  |
   some cs =>
   exfalso;rcases iJ j q hj with ⟨rfl,h1⟩|⟨e,h1⟩
   .
    rcases hF _ _ hq with h2|⟨h2,_⟩
    .
     rw[h.sep j r y hg hro hy] at h2;cases h2
    rcases h2 with h2|h2
    .
     rw[h2] at h1;cases h1
    rw[acr q h1,hb] at h2;cases h2
   rcases hF _ _ hq with h2|⟨_,⟨z,hz,he⟩,_⟩
   .
    rw[h.sep j q y h1 hb hy] at h2;cases h2
   exact far j q y e h1 hy z hz he.symm
 .
  rw[p2] at hl;rw[hρ] at hy;rw[hlk];rcases iJ j q hj with ⟨rfl,h1⟩|⟨e,h1⟩
  .
   exact h.lk j r y hg hl hy
  exact h.lk j q y h1 hl hy
 .
  obtain ⟨j,q,y,hj,hb,hy,rfl⟩:=ho;rw[hρ] at hy;rcases iJ j q hj with ⟨rfl,h1⟩|⟨e,h1⟩
  .
   exact ⟨j,r,y,hg,hro,hy,rfl⟩
  exact ⟨j,q,y,h1,hb,hy,rfl⟩
 .
  cases hq:S'.F i with
  |none=>exact absurd hq hf
  |
   some cs =>
   rcases hF _ _ hq with h2|⟨_,⟨z,hz,he⟩,_⟩
   .
    exact .inl (by rw[h2];simp)
   exact .inr (.inl ⟨id,r,z,hg,hro,hz,he⟩)
 exact hE i λy hy he=>ho ⟨id,r,y,hg,hro,hy,he.symm⟩
theorem Rel.same {S:Wo} {H H':aa} {E:Mem} (h:Rel S H E) (h1:H'.next=H.next) (h2:H'.lk=H.lk) (h3:H'.par=H.par) (h4:∀j,H'.get j=H.get j):Rel S H' E/\St S H E S H' E:=by
 refine ⟨⟨h.fz,λj y hy=>by rw[h1];exact h.dom j y hy,λj v hv=>h.A0 j v (by omega),λj q hj=>h.row j q (by rw[<-h4];exact hj),λj j' q q' y y' hj hj'=>h.inj j j' q q' y y' (by rw[<-h4];exact hj) (by rw[<-h4];exact hj'),
  λj q y hj=>h.sep j q y (by rw[<-h4];exact hj),λj q y hj hl=>h.lk j q y (by rw[<-h4];exact hj) (by omega),by rw[h1,h2];exact h.tw,by rw[h1,h3];exact h.Ia,h.Eu⟩,
  ⟨Nat.le_refl _,rfl,h2,h3,λ_ _ h=>h,λi ho _=>?_,λi hf=>.inl hf,λ_ _ _=>rfl,λ_ _=>rfl,by omega,λj _ hl=>(by rw[h4] at hl;exact hl),λ_ _ h=>h⟩⟩
 obtain ⟨j,q,y,hj,r⟩:=ho
 exact ⟨j,q,y,by rw[<-h4];exact hj,r⟩
theorem Rel.move {S:Wo} {H:aa} {E E':Mem} {id:Nat} {r0 r:Row} {x:Option (Nat×Nat×Nat)} {g:Option (Sigma λe:Ty=>List e.den)} (h:Rel S H E) (hg:H.get id=some r0) (hro:r0.BJ=false)
 (hs:E.size<=E'.size) (hlk:E'.lk=E.lk) (hE:∀j,j<E.size->(∀y,S.ρ id=some y->j≠y.1)->E'.get j=E.get j)
 (hx:∀y,x=some y->E.size<=y.1\/∃z,S.ρ id=some z/\z.1=y.1/\E.lk<=y.1)
 (hr:∀r',r.live=some r'->mS (S.new H.next x g) E' H.next r') (VM:r.BJ=false) :
 S.le (S.new H.next x g)/\Rel (S.new H.next x g) ((H.put id .dead).push r) E'/\St S H E (S.new H.next x g) ((H.put id .dead).push r) E':=by
 have hle:=Wo.Dv h x g
 obtain ⟨u1,u2,u3,u4⟩:=aa.cy H id .dead
 obtain ⟨p1,p2,p3,p4⟩:=aa.bf (H.put id .dead) r
 rw[u1] at p1;rw[u2] at p2;rw[u3] at p3
 have hid:=aa.bI hg
 have ρne:∀j,j≠H.next->(S.new H.next x g).ρ j=S.ρ j:=λj hj=>if_neg hj
 have ρeq:(S.new H.next x g).ρ H.next=x:=if_pos rfl
 have Γne:∀j v,j≠H.next->(S.new H.next x g).Γ j v=S.Γ j v:=λj v hj=>if_neg (by omega)
 have iJ:∀j q,((H.put id .dead).push r).get j=some q->(j=H.next/\r.live=some q)\/(j≠H.next/\j≠id/\H.get j=some q):=λj q hj=>by
  rw[p4,u1] at hj;by_cases e:j=H.next
  .
   rw[if_pos e] at hj;exact .inl ⟨e,hj⟩
  rw[if_neg e,u4] at hj;by_cases e2:j=id
  .
   rw[if_pos e2,if_pos hid] at hj;cases hj
  rw[if_neg e2] at hj;exact .inr ⟨e,e2,hj⟩
 have ro':∀q,r.live=some q->q.BJ=false:=λq h=>by
  cases r<;>simp[Row.live] at h<;>subst h<;>first|rfl|exact VM
 have old:∀j q y,H.get j=some q->S.ρ j=some y->y.1<E.size:=λj q y hg hy=>(let ⟨_,hb⟩:=h.old hg hy;Mem.bI hb)
 have far:∀j q y,j≠id->H.get j=some q->S.ρ j=some y->∀z,S.ρ id=some z->y.1≠z.1:=λj q y e hj hy z hz he=>e (h.inj j id q r0 y z hj hg hy hz he)
 have XN:∀j cs,S.F j=some cs->∀z,S.ρ id=some z->j≠z.1:=λj cs hj z hz he=>by
  rw[he,h.sep id r0 z hg hro hz] at hj;cases hj
 have OD:∀y,x=some y->∀j q z,j≠id->H.get j=some q->S.ρ j=some z->z.1≠y.1:=λy hy j q z e hj hz he=>by
  rcases hx y hy with h1|⟨z',hz',he',_⟩
  .
   have:=old j q z hj hz;omega
  exact far j q z e hj hz z' hz' (by omega)
 refine ⟨hle,⟨λi cs hi=>?_,λj y hy=>?_,λj v hv=>?_,λj q hj=>?_,λj j' q1 q2 y y' hj hj' hy hy' he=>?_,λj q y hj hb hy=>?_,λj q y hj hl hy=>?_,by rw[p1,p2];have:=h.tw;omega,by rw[p1,p3];have:=h.Ia;omega,by rw[hlk];have:=h.Eu;omega⟩,
  ⟨hs,hlk,p2,p3,λ_ _ h=>h,λi ho hi=>?_,λi hf=>.inl hf,λi hi ho=>hE i hi λy hy he=>ho ⟨id,r0,y,hg,hro,hy,he.symm⟩,λj hj=>ρne j (by have:=h.Ia;omega),by omega,λj hj hl=>(by
   rw[p4,u1,if_neg (by omega),u4] at hl
   by_cases e:j=id
   .
    rw[e,hg];simp
   rw[if_neg e] at hl;exact hl),λj hj hl=>by rw[ρne j (by omega)];exact hl⟩⟩
 .
  obtain ⟨b,h1,h2⟩:=h.fz i cs hi;exact ⟨b,by rw[iU (hE i (fy h1) (XN i cs hi))];exact h1,h2⟩
 .
  rw[p1];by_cases e:j=H.next
  .
   omega
  rw[ρne j e] at hy;have:=h.dom j y hy;omega
 .
  rw[p1] at hv;rw[Γne j v (by omega)];exact h.A0 j v (by omega)
 .
  rcases iJ j q hj with ⟨rfl,hr'⟩|⟨e,e2,hg'⟩
  .
   exact hr q hr'
  exact (h.row j q hg').keep hle (λhn=>by rw[ρne j e];exact hn) (λv hv=>by rw[Γne j v e];exact hv) λy hy=>hE _ (old j q y hg' hy) λz hz=>far j q y e2 hg' hy z hz
 .
  rcases iJ j q1 hj with ⟨rfl,h1⟩|⟨e1,d1,h1⟩<;>rcases iJ j' q2 hj' with ⟨rfl,h2⟩|⟨e2,d2,h2⟩
  .
   rfl
  .
   rw[ρeq] at hy;rw[ρne j' e2] at hy';exact absurd he.symm (OD y hy j' q2 y' d2 h2 hy')
  .
   rw[ρeq] at hy';rw[ρne j e1] at hy;exact absurd he (OD y' hy' j q1 y d1 h1 hy)
  rw[ρne j e1] at hy;rw[ρne j' e2] at hy';exact h.inj j j' q1 q2 y y' h1 h2 hy hy' he
 .
  rcases iJ j q hj with ⟨rfl,h1⟩|⟨e1,d1,h1⟩
  .
   rw[ρeq] at hy;show S.F y.1=none;rcases hx y hy with h3|⟨z,hz,he,_⟩
   .
    cases hF:S.F y.1 with
    |none=>rfl
    |some cs=>obtain ⟨b,h3,_⟩:=h.fz _ _ hF;have:=fy h3;omega
   rw[<-he];exact h.sep id r0 z hg hro hz
  rw[ρne j e1] at hy;exact h.sep j q y h1 hb hy
 .
  rw[p2] at hl;rw[hlk];rcases iJ j q hj with ⟨rfl,h1⟩|⟨e1,d1,h1⟩
  .
   rw[ρeq] at hy;rcases hx y hy with h3|⟨z,hz,he,h4⟩
   .
    have:=h.Eu;omega
   exact h4
  rw[ρne j e1] at hy;exact h.lk j q y h1 hl hy
 obtain ⟨j,q,y,hj,hb,hy,rfl⟩:=ho
 rcases iJ j q hj with ⟨rfl,h1⟩|⟨e1,d1,h1⟩
 .
  rw[ρeq] at hy;rcases hx y hy with h3|⟨z,hz,he,_⟩
  .
   omega
  exact ⟨id,r0,z,hg,hro,hz,he⟩
 rw[ρne j e1] at hy;exact ⟨j,q,y,h1,hb,hy,rfl⟩
end Go.Tv

namespace Go.Tv
open Go.Ev (Tr pick2 Leave Mem Blk alive pick2_eq alive_some semPure pureA opA addrFree withMem orElse)
section
variable {P:Program}
theorem ak {α β:Type} (f:α->Sem β):∀(s:Sem α),semPure P (s >>= f)=(semPure P s).bind λa=>semPure P (f a)
 |.pure a=>rfl
 |.load _ _ _=>rfl
 |.store _ _ _ _=>rfl
 |.new _ _=>rfl
 |.shape _ _=>rfl
 |.freeze _ _ _=>rfl
 |.frozen _ _=>rfl
 |.getObj _ _=>rfl
 |.setObj _ _ _=>rfl
 |.choose _ _=>rfl
 |.sys _ _=>rfl
 |.program k=>ak f (k P)
 |.mark _ k=>ak f k
 |.halt _=>rfl
theorem jm {α:Type} (a:α):semPure P (pure a:Sem α)=some a:=rfl
theorem az {t:TypeId} {d:TypeDesc} (h:P.underlying t=some d):semPure P (underlying t)=some d:=by
 have:underlying t=Sem.program λp=>match p.underlying t with|some d=>Sem.pure d|none=>stuck "no such type" := rfl
 first
  |(rw[this];show semPure P (match P.underlying t with|some d=>Sem.pure d|none=>stuck "no such type")=_;rw[h];rfl)
theorem tX {call:Ev.aN} {o:Oper} {ev:Operand->Value} {E:Mem} {op:BinOp} {t yt:TypeId} {p q:Operand} {v:Value} (hop:o.op = .binOp op t p q yt)
 (JP:addrFree (ev p)=true) (hfy:addrFree (ev q)=true) (hv:addrFree v=true)
 (hn:∀u,Ev.nJ P op t (ev p) (ev q)=some u->u=v) (h:semPure P (do eqGuard op t p q (ev p) (ev q);binOp op t (ev p) (ev q):Sem Value)=some v) :
 opA P call ev o E=some (v,E):=by
 unfold opA
 rw[hop]
 show Ev.pF P ev o op t (ev p) (ev q) E=_
 unfold Ev.pF
 have hp:pureA P ev o=some v:=by
  unfold pureA;rw[hop]
  have hf:Ev.aQ ev (.binOp op t p q yt)=true:=by
   simp[Ev.aQ,Op.operands,JP,hfy]
  simp only[hf,if_true]
  have:semPure P (execOp ev o)=some (.value v):=by
   unfold execOp;rw[hop];show semPure P ((do eqGuard op t p q (ev p) (ev q);binOp op t (ev p) (ev q):Sem Value) >>= λx=>pure (Next.value x))=_
   rw[ak,h];rfl
  rw[this];simp[hv]
 cases hfa:Ev.yj op (ev p) (ev q) with
 |
  some u =>
  have hr:=(Ev.ER (P:=P) hfa t p q default).1;have Sx:=Ev.iS (P:=P) _ h default;rw[hr] at Sx;cases Sx;rfl
 |
  none =>
  cases hna:Ev.nJ P op t (ev p) (ev q) with
  |some u=>rw[hn u hna];rfl
  |none=>show withMem E (pureA P ev o)=_;rw[hp];rfl
def Tj (op:BinOp) (k k':IntKind) (a b:Int):Option Value :=
 match op with
 |.shl=>if b<0 then none else some (.int k (k.wrap (a*2 ^ (min b.toNat k.bits))))
 |.shr=>if b<0 then none else some (.int k (a.fdiv (2 ^ (min b.toNat k.bits))))
 |
  op=>if k=k' then (match op with
  |.add=>some (.int k (k.wrap (a+b)))
  |.sub=>some (.int k (k.wrap (a-b)))
  |.mul=>some (.int k (k.wrap (a*b)))
  |.quo=>if b=0 then none else some (.int k (k.wrap (a.tdiv b)))
  |.rem=>if b=0 then none else some (.int k (a.tmod b))
  |.and=>some (.int k (k.wrap (BitVec.ofInt k.bits a &&& BitVec.ofInt k.bits b).toNat))
  |.or=>some (.int k (k.wrap (BitVec.ofInt k.bits a ||| BitVec.ofInt k.bits b).toNat))
  |.xor=>some (.int k (k.wrap (BitVec.ofInt k.bits a ^^^ BitVec.ofInt k.bits b).toNat))
  |.andNot=>some (.int k (k.wrap (BitVec.ofInt k.bits a &&& ~~~(BitVec.ofInt k.bits b)).toNat))
  |.eql=>some (.bool (decide (a=b)))
  |.neq=>some (.bool (!decide (a=b)))
  |.lss=>some (.bool (decide (a<b)))
  |.leq=>some (.bool (decide (a<=b)))
  |.gtr=>some (.bool (decide (b<a)))
  |.geq=>some (.bool (decide (b<=a)))
  |_=>none) else none
theorem LF {β:Type} {op:BinOp} {k k':IntKind} {a b:Int} {c:AV->Option β} {r:β} (h:XG op k k' a b c=some r):∃v vE,c v=some r/\Tj op k k' a b=some vE/\addrFree vE=true/\∀S,VR S v vE:=by
 unfold XG at h
 unfold Tj
 have n1:∀a b:Int,(!decide (b<a))=decide (a<=b):=λa b=>by rw[Bool.eq_iff_iff];simp
 have n2:∀a b:Int,(a==b)=decide (a=b):=λa b=>rfl
 cases op<;>simp only[pick2_eq,Ev.ltI_spec,Ev.eqI_spec,n1,n2,decide_eq_true_eq] at h ⊢
 all_goals first
  |(
   split at h
   .
    cases h
   rename_i hb;exact ⟨_,_,h,by rw[if_neg hb],rfl,λS=>.int _ _⟩)
  |(
   split at h
   .
    rename_i hk;rw[if_pos hk]
    first
     |exact ⟨_,_,h,rfl,rfl,λS=>.int _ _⟩
     |exact ⟨_,_,h,rfl,rfl,λS=>.bool _⟩
     |(
      split at h
      .
       cases h
      rename_i hb;exact ⟨_,_,h,by rw[if_neg hb],rfl,λS=>.int _ _⟩)
     |cases h
   cases h)
theorem LG (op:BinOp) (t:TypeId) (p q:Operand) (k k':IntKind) (a b:Int):semPure P (eqGuard op t p q (.int k a) (.int k' b))=some ():=by
 unfold eqGuard;cases op<;>rfl
theorem OE {op:BinOp} {k k':IntKind} {a b:Int} {v:Value} (h:Tj op k k' a b=some v) (t:TypeId) (p q:Operand) :
 semPure P (do eqGuard op t p q (.int k a) (.int k' b);binOp op t (.int k a) (.int k' b):Sem Value)=some v:=by
 rw[ak,LG]
 show semPure P (binOp op t (.int k a) (.int k' b))=some v
 unfold Tj at h
 cases op<;>simp only at h
 all_goals first
  |(
   split at h
   .
    cases h
   rename_i hb;cases h;simp only[binOp,Op.shift];rw[if_neg hb];rfl)
  |(
   split at h
   .
    rename_i hk;subst hk
    first
     |(cases h;simp only[binOp,Op.intArith,ne_eq,not_true,if_false];rfl)
     |(
      split at h
      .
       cases h
      rename_i hb;cases h;simp only[binOp,Op.intDiv,ne_eq,not_true,if_false];rw[if_neg hb];rfl)
     |(cases h;simp only[binOp,Op.intBits,ne_eq,not_true,if_false];rfl)
     |(cases h;simp only[binOp,Op.intCmp,ne_eq,not_true,if_false];first|rfl|(show some (Value.bool (!(a==b)))=_;rfl))
     |cases h
   cases h)
theorem toList_mk (s:List UInt8):(⟨s.toArray⟩:ByteArray).toList=s:=by rw[ByteArray.toList_eq]
def Tk (op:BinOp) (a b:List UInt8):Option Value :=
 match op with
 |.add=>if a.length+b.length<=9223372036854775807 then some (.string ⟨(a++b).toArray⟩) else none
 |.eql=>some (.bool (decide (a=b)))
 |.neq=>some (.bool (!decide (a=b)))
 |.lss=>some (.bool (Op.bytesLess a b))
 |.leq=>some (.bool (Op.bytesLess a b||decide (a=b)))
 |.gtr=>some (.bool (!(Op.bytesLess a b||decide (a=b))))
 |.geq=>some (.bool (!Op.bytesLess a b))
 |_=>none
theorem LH {β:Type} {op:BinOp} {a b:List UInt8} {c:AV->Option β} {r:β} (h:XH op a b c=some r):∃v vE,c v=some r/\Tk op a b=some vE/\addrFree vE=true/\∀S,VR S v vE:=by
 unfold XH at h
 unfold Tk
 cases op<;>simp only[pick2_eq,Ev.tv,decide_eq_true_eq] at h ⊢
 all_goals first
  |(
   split at h
   .
    rename_i hk;rw[if_pos hk];exact ⟨_,_,h,rfl,rfl,λS=>.str _⟩
   cases h)
  |exact ⟨_,_,h,rfl,rfl,λS=>.bool _⟩
  |cases h
theorem LI (op:BinOp) (t:TypeId) (p q:Operand) (a b:ByteArray):semPure P (eqGuard op t p q (.string a) (.string b))=some ():=by
 unfold eqGuard;cases op<;>rfl
theorem acs (a b:List UInt8):(a==b)=decide (a=b):=by
 rw[Bool.eq_iff_iff];simp
theorem OG {op:BinOp} {a b:List UInt8} {v:Value} (h:Tk op a b=some v) (t:TypeId) (p q:Operand) :
 semPure P (do eqGuard op t p q (.string ⟨a.toArray⟩) (.string ⟨b.toArray⟩);binOp op t (.string ⟨a.toArray⟩) (.string ⟨b.toArray⟩):Sem Value)=some v:=by
 rw[ak,LI]
 show semPure P (binOp op t (.string ⟨a.toArray⟩) (.string ⟨b.toArray⟩))=some v
 have hb:binOp op t (.string ⟨a.toArray⟩) (.string ⟨b.toArray⟩)=Op.stringOp op ⟨a.toArray⟩ ⟨b.toArray⟩:=by cases op<;>rfl
 rw[hb]
 unfold Op.stringOp
 simp only[toList_mk,acs]
 unfold Tk at h
 cases op<;>simp only at h ⊢
 case add =>
  split at h
  .
   rename_i hk;cases h
   have h1:¬(((ByteArray.size ⟨a.toArray⟩+ByteArray.size ⟨b.toArray⟩:Nat):Int)>IntKind.i64.max):=by
    have e1:ByteArray.size ⟨a.toArray⟩=a.length:=by simp[ByteArray.size]
    have e2:ByteArray.size ⟨b.toArray⟩=b.length:=by simp[ByteArray.size]
    have e3:IntKind.i64.max=9223372036854775807:=by decide
    rw[e1,e2,e3];omega
   rw[if_neg h1];show some (Value.string _)=some (Value.string _)
   congr 2
  cases h
 all_goals first|(cases h;rfl)|cases h
theorem Ib (op:BinOp) (t:TypeId) (p q:Operand) (a b:Bool):semPure P (eqGuard op t p q (.bool a) (.bool b))=some ():=by
 unfold eqGuard;cases op<;>rfl
theorem sy {t:TypeId} (hu:P.underlying t=some .bool) (d:Nat) (a b:Bool):semPure P (Op.equalIn (d+1) t (.bool a) (.bool b))=some (a==b):=by
 unfold Op.equalIn
 rw[ak,az hu]
 rfl
theorem LJ {t:TypeId} {k0:IntKind} (hu:P.underlying t=some (.int k0)) (d:Nat) (k:IntKind) (a b:Int):semPure P (Op.equalIn (d+1) t (.int k a) (.int k b))=some (decide (a=b)):=by
 unfold Op.equalIn
 rw[ak,az hu]
 show semPure P (if k=k then pure (a==b) else stuck "==: kinds differ")=_
 rw[if_pos rfl];rfl
theorem LK {t:TypeId} (hu:P.underlying t=some .string) (d:Nat) (a b:List UInt8):semPure P (Op.equalIn (d+1) t (.string ⟨a.toArray⟩) (.string ⟨b.toArray⟩))=some (decide (a=b)):=by
 unfold Op.equalIn
 rw[ak,az hu]
 show some ((⟨a.toArray⟩:ByteArray)==⟨b.toArray⟩)=_
 rw[beq_toListBytes,toList_mk,toList_mk,acs]
theorem iD {α:Type} (k:Program->Sem α):semPure P (program >>= k)=semPure P (k P):=rfl
theorem Dw {d:Nat} {t:TypeId} {fs:Array Field} {xs ys:Array Value} (ht:P.underlying t=some (.struct fs)) (hp:P.stoodInHeld t=false) :
 semPure P (Op.equalIn (d+1) t (.agg xs) (.agg ys))=semPure P (Op.eqFields d xs ys fs.toList):=by
 simp only[Op.equalIn]
 rw[ak,az ht]
 simp only[Option.bind_some]
 rw[iD]
 simp only[hp,Bool.false_eq_true,if_false]
 rw[<-Array.forIn_toList]
 generalize fs.toList=l
 induction l with
 |nil=>simp only[List.forIn_nil,Op.eqFields];rfl
 |
  cons f l ih =>
  simp only[List.forIn_cons,Op.eqFields];split
  .
   simp only[ak] at ih ⊢;cases semPure P (part f.type xs f.offset) with
   |none=>rfl
   |
    some a =>
    simp only[Option.bind_some];cases semPure P (part f.type ys f.offset) with
    |none=>rfl
    |
     some b =>
     simp only[Option.bind_some];cases semPure P (Op.equalIn d f.type a b) with
     |none=>rfl
     |
      some r =>
      simp only[Option.bind_some];cases r
      .
       rfl
      simp only[Bool.not_true,Bool.false_eq_true,if_false,jm,Option.bind_some];exact ih
  simp only[ak,jm,Option.bind_some] at ih ⊢;exact ih
end
end Go.Tv

namespace Go.Tv
open Go.Ev (Tr pick2 Leave Mem Blk alive pick2_eq alive_some semPure pureA opA addrFree withMem orElse)
section
variable {P:Program}
theorem qO {k:Nat} {ks:List Nat} {l m:List AV} {b:Bool} (h:nD (k::ks) l m=some b):∃x l' y m' a c,l=x::l'/\m=y::m'/\XI k x y=some a/\nD ks l' m'=some c/\b=(a&&c):=by
 cases l with
 |nil=>cases m<;>simp[nD] at h
 |
  cons x l =>
  cases m with
  |nil=>simp[nD] at h
  |
   cons y m =>
   unfold nD at h;split at h
   .
    rename_i a ha;split at h
    .
     split at h
     .
      cases h;exact ⟨x,[],y,[],b,true,rfl,rfl,ha,rfl,by simp⟩
     cases h
    split at h
    .
     rename_i c hc;cases h;exact ⟨x,l,y,m,a,c,rfl,rfl,ha,hc,rfl⟩
    cases h
   cases h
theorem wQ:∀{ks ls:List Nat} {l m:List AV} {b:Bool},nD (ks++ls) l m=some b->∃b1 b2,nD ks (l.take ks.length) (m.take ks.length)=some b1/\nD ls (l.drop ks.length) (m.drop ks.length)=some b2/\b=(b1&&b2)
 |[],ls,l,m,b,h=>⟨true,b,by simp[nD],by simpa using h,by simp⟩
 |
  k::ks,ls,l,m,b,h=>by
  obtain ⟨x,l',y,m',a,c,rfl,rfl,h1,h2,rfl⟩:=qO (ks:=ks++ls) h;obtain ⟨b1,b2,e1,e2,rfl⟩:=wQ h2;refine ⟨a&&b1,b2,?_,by simpa using e2,by simp[Bool.and_assoc]⟩
  simp only[List.length_cons,List.take_succ_cons];unfold nD;rw[h1];cases ks with
  |
   nil =>
   have:b1=true:=by simpa[nD] using e1.symm
   subst this;simp
  |cons k' ks'=>simp only at e1 ⊢;rw[e1]
theorem qc:∀{ks:List Nat} {l m:List AV} {b:Bool},nD ks l m=some b->l.length=ks.length/\m.length=ks.length
 |[],l,m,b,h=>by cases l<;>cases m<;>simp[nD] at h ⊢
 |
  k::ks,l,m,b,h=>by
  obtain ⟨x,l',y,m',a,c,rfl,rfl,_,h2,_⟩:=qO h;obtain ⟨e1,e2⟩:=qc h2;simp[e1,e2]
theorem OH {S:Wo} {l:List AV} {L:List Value} (h:LV S l L) (h1:l.length=1):∃x y,l=[x]/\L=[y]/\VR S x y:=by
 match l,h1 with
 |
  [x],_ =>
  obtain ⟨y,m,rfl,h2,h3⟩:=h.cons_inv;rw[h3.dM];exact ⟨x,y,rfl,rfl,h2⟩
def isStr (P:Program) (t:TypeId):Prop:=∃fs,P.underlying t=some (.struct fs)
theorem Ft {f:TypeId} {fs:Array Field} {n:Nat} (hu:P.underlying f=some (.struct fs)) (hn:Ev.aM P f=some n) (cs:Array Value) (off:Nat):semPure P (part f cs off)=some (.agg (cs.extract off (off+n))):=by
 unfold part
 have h1:semPure P (isAgg f)=some true:=by
  unfold isAgg;rw[ak,az hu];rfl
 have h2:semPure P (sizeOf f)=some n:=by
  unfold Ev.aM at hn;cases hi:P.info? f with
  |none=>rw[hi] at hn;cases hn
  |
   some i =>
   rw[hi] at hn;simp at hn;subst hn;unfold sizeOf typeInfo;rw[ak,iD];simp only[hi];rfl
 rw[ak,h1]
 simp only[Option.bind_some,if_true]
 rw[ak,h2];rfl
theorem Fu {f:TypeId} {d:TypeDesc} (hu:P.underlying f=some d) (h1:∀fs,d ≠ .struct fs) (h2:∀n e,d ≠ .array n e) (cs:Array Value) (off:Nat) {v:Value} (hv:cs[off]? = some v):semPure P (part f cs off)=some v:=by
 unfold part
 have h3:semPure P (isAgg f)=some false:=by
  unfold isAgg;rw[ak,az hu];cases d<;>first|rfl|exact absurd rfl (h1 _)|exact absurd rfl (h2 _ _)
 rw[ak,h3]
 simp only[Option.bind_some,Bool.false_eq_true,if_false,hv]
 rfl
theorem J9 (S:Wo):∀d,(∀t ks,oL P d t=some ks->∀D,d<=D->∀l m b L M,nD ks l m=some b->LV S l L->LV S m M ->
 (isStr P t/\semPure P (Op.equalIn D t (.agg L.toArray) (.agg M.toArray))=some b) \/
 (∃u,P.underlying t=some u/\(∀fs,u ≠ .struct fs)/\(∀n e,u ≠ .array n e)/\∃x y,L=[x]/\M=[y]/\semPure P (Op.equalIn D t x y)=some b)) /\
 (∀off fs ks,oL.vq P d off fs=some ks->∀D,d<=D->∀l m b L M,nD ks (l.drop off) (m.drop off)=some b->LV S l L->LV S m M->semPure P (Op.eqFields D L.toArray M.toArray fs)=some b)
 |0=>⟨λt ks h=>by simp[oL] at h,λoff fs ks h=>by simp[oL.vq] at h⟩
 |
  d+1=>by
  obtain ⟨ih1,ih2⟩:=J9 S d;refine ⟨λt ks h D hD l m b L M he hl hm=>?_,λoff fs ks h D hD l m b L M he hl hm=>?_⟩
  .
   obtain ⟨D',rfl⟩:∃D',D=D'+1:=⟨D-1,by omega⟩
   unfold oL at h
   have XO:∀k,ks=[k]->∃x y x' y' ,l=[x]/\m=[y]/\L=[x']/\M=[y']/\VR S x x'/\VR S y y'/\XI k x y=some b:=λk hk=>by
    subst hk;obtain ⟨e1,e2⟩:=qc he;obtain ⟨x,x',rfl,rfl,h1⟩:=OH hl (by simpa using e1)
    obtain ⟨y,y',rfl,rfl,h2⟩:=OH hm (by simpa using e2)
    obtain ⟨_,_,_,_,a,c,r1,r2,h3,h4,rfl⟩:=qO he;cases r1;cases r2;have:c=true:=by simpa[nD] using h4.symm
    subst this;exact ⟨x,y,x',y',rfl,rfl,rfl,rfl,h1,h2,by simpa using h3⟩
   split at h
   .
    rename_i k0 hu;cases h;obtain ⟨x,y,x',y',rfl,rfl,rfl,rfl,h1,h2,h3⟩:=XO 0 rfl;refine .inr ⟨_,hu,λfs=>by simp,λn e=>by simp,x',y',rfl,rfl,?_⟩
    unfold XI at h3;split at h3<;>try (cases h3;done)
    .
     split at h3
     .
      rename_i hk;subst hk;cases h3;cases h1;cases h2;exact LJ hu _ _ _ _
     cases h3
    .
     rename_i hh;cases hh
    rename_i hh;cases hh
   .
    rename_i hu;cases h;obtain ⟨x,y,x',y',rfl,rfl,rfl,rfl,h1,h2,h3⟩:=XO 1 rfl;refine .inr ⟨_,hu,λfs=>by simp,λn e=>by simp,x',y',rfl,rfl,?_⟩
    unfold XI at h3;split at h3<;>try (cases h3;done)
    .
     rename_i hh;cases hh
    .
     cases h3;cases h1;cases h2;exact sy hu _ _ _
    rename_i hh;cases hh
   .
    rename_i hu;cases h;obtain ⟨x,y,x',y',rfl,rfl,rfl,rfl,h1,h2,h3⟩:=XO 2 rfl;refine .inr ⟨_,hu,λfs=>by simp,λn e=>by simp,x',y',rfl,rfl,?_⟩
    unfold XI at h3;split at h3<;>try (cases h3;done)
    .
     rename_i hh;cases hh
    .
     rename_i hh;cases hh
    cases h3;cases h1;cases h2;exact LK hu _ _ _
   .
    rename_i fs hu;rw[pick2_eq] at h;split at h
    .
     cases h
    rename_i hsi;refine .inl ⟨⟨fs,hu⟩,?_⟩;rw[Dw hu (by simpa using hsi)]
    exact ih2 0 fs.toList ks h D' (by omega) l m b L M (by simpa using he) hl hm
   cases h
  cases fs with
  |
   nil =>
   simp only[oL.vq,Option.some.injEq] at h;subst h
   have hb:b=true:=by
    cases h1:l.drop off<;>cases h2:m.drop off<;>rw[h1,h2] at he<;>simp[nD] at he;exact he
   subst hb;rfl
  |
   cons f fs =>
   simp only[oL.vq] at h;split at h
   .
    rename_i k1 n hk1 hn;rw[pick2_eq] at h;split at h
    .
     rename_i hc;simp only[Bool.and_eq_true,decide_eq_true_eq,Nat.beq_eq] at hc;obtain ⟨⟨hnm,ho⟩,hkl⟩:=hc;split at h
     .
      rename_i ls hls;cases h;subst ho;obtain ⟨b1,b2,e1,e2,rfl⟩:=wQ he;rw[hkl] at e1 e2;have g2:=ih2 (f.offset+n) fs ls hls D (by omega) l m b2 L M (by rw[List.drop_drop] at e2;rw[List.drop_drop] at e2;exact e2) hl hm
      have g1:=ih1 f.type k1 hk1 D (by omega) _ _ b1 _ _ e1 ((hl.drop f.offset).take n) ((hm.drop f.offset).take n)
      simp only[Op.eqFields];rw[if_pos hnm]
      have fin:∀a c,semPure P (part f.type L.toArray f.offset)=some a->semPure P (part f.type M.toArray f.offset)=some c->semPure P (Op.equalIn D f.type a c)=some b1 ->
       semPure P (do let a <- part f.type L.toArray f.offset;let b <- part f.type M.toArray f.offset;let r <- Op.equalIn D f.type a b;if (!r)=true then pure false else Op.eqFields D L.toArray M.toArray fs:Sem Bool)=some (b1&&b2):=λa c h1 h2 h3=>by
       rw[ak,h1];simp only[Option.bind_some];rw[ak,h2];simp only[Option.bind_some];rw[ak,h3];simp only[Option.bind_some];cases b1
       .
        rfl
       simp only[Bool.not_true,Bool.false_eq_true,if_false,Bool.true_and];exact g2
      rcases g1 with ⟨⟨fs',hu⟩,g1⟩|⟨u,hu,hu1,hu2,x,y,hx,hy,g1⟩
      .
       refine fin _ _ (Ft hu hn _ _) (Ft hu hn _ _) ?_
       have ex:∀L:List Value,L.toArray.extract f.offset (f.offset+n)=((L.drop f.offset).take n).toArray:=λL=>by
        simp[List.extract_toArray,List.extract_eq_take_drop]
       rw[ex,ex];exact g1
      have ga:∀(L:List Value) x,(L.drop f.offset).take n=[x]->L.toArray[f.offset]? = some x:=λL x h=>by
       have h0:((L.drop f.offset).take n)[0]? = some x:=by rw[h];rfl
       rw[List.getElem?_take] at h0;split at h0
       .
        simpa using h0
       cases h0
      exact fin x y (Fu hu hu1 hu2 _ _ (ga L x hx)) (Fu hu hu1 hu2 _ _ (ga M y hy)) g1
     cases h
    cases h
   cases h
theorem BK {S:Wo}:∀{ks:List Nat} {l m:List AV} {b:Bool} {L M:List Value},nD ks l m=some b->LV S l L->LV S m M->Ev.addrFreeL L=true/\Ev.addrFreeL M=true
 |
  [],l,m,b,L,M,h,hl,hm=>by
  obtain ⟨e1,e2⟩:=qc h;have h1:L=[]:=List.length_eq_zero_iff.1 (by rw[<-hl.1];simpa using e1)
  have h2:M=[]:=List.length_eq_zero_iff.1 (by rw[<-hm.1];simpa using e2)
  subst h1;subst h2;exact ⟨rfl,rfl⟩
 |
  k::ks,l,m,b,L,M,h,hl,hm=>by
  obtain ⟨x,l',y,m',a,c,rfl,rfl,h1,h2,_⟩:=qO h;obtain ⟨x',L',rfl,v1,hl'⟩:=hl.cons_inv;obtain ⟨y',M',rfl,v2,hm'⟩:=hm.cons_inv;obtain ⟨f1,f2⟩:=BK h2 hl' hm'
  have:addrFree x'=true/\addrFree y'=true:=by
   unfold XI at h1;split at h1
   .
    cases v1;cases v2;exact ⟨rfl,rfl⟩
   .
    cases v1;cases v2;exact ⟨rfl,rfl⟩
   .
    cases v1;cases v2;exact ⟨rfl,rfl⟩
   cases h1
  exact ⟨by simp[Ev.addrFreeL,this.1,f1],by simp[Ev.addrFreeL,this.2,f2]⟩
theorem LL {op:BinOp} {t:TypeId} (p q:Operand) (xs ys:Array Value) (hm:P.eqGuardType P.depth t=false):semPure P (eqGuard op t p q (.agg xs) (.agg ys))=some ():=by
 unfold eqGuard
 cases op<;>first
  |rfl
  |(
   show semPure P (program >>= λP1=>program >>= λP2=>if (!P1.eqGuardType P2.depth t)=true then pure () else _)=_
   rw[iD,iD,hm];rfl)
theorem Dx {X:cI} {op:BinOp} {t:TypeId} {S:Wo} {aq:Operand->Value} {call:Ev.aN} {E:Mem} {o:Oper} {p q:Operand} {yt:TypeId} {vx vy:Value} (w:Bool) (hop:o.op = .binOp op t p q yt) (hx:aq p=vx) (hy:aq q=vy) (hf:Ev.yj op vx vy=none)
 (hn:Ev.nJ X.P op t vx vy=some (.bool w)):∃vE,opA X.P call aq o E=some (vE,E)/\VR S (.bool w) vE:=by
 refine ⟨.bool w,?_,.bool w⟩
 unfold opA;rw[hop]
 show Ev.pF X.P aq o op t (aq p) (aq q) E=_
 unfold Ev.pF
 rw[hx,hy,hf,hn];rfl
theorem OI {X:cI} {β:Type} {op:BinOp} {t:TypeId} {x y:AV} {c:AV->Option β} {r:β} (h:Tf X op t x y c=some r) :
 ∃v,c v=some r/\∀(S:Wo) (aq:Operand->Value) (call:Ev.aN) (E:Mem) (o:Oper) (p q:Operand) (yt:TypeId),o.op = .binOp op t p q yt->VR S x (aq p)->VR S y (aq q) ->
  ∃vE,opA X.P call aq o E=some (vE,E)/\VR S v vE:=by
 unfold Tf at h
 split at h
 .
  rename_i k a k' b;obtain ⟨v,vE,h1,h2,h3,h4⟩:=LF h;refine ⟨v,h1,λS aq call E o p q yt hop hx hy=>⟨vE,?_,h4 S⟩⟩
  have ex:aq p = .int k a:=hx.bQ;have ey:aq q = .int k' b:=hy.bQ;refine tX hop (by rw[ex];rfl) (by rw[ey];rfl) h3 (λu hu=>?_) (by rw[ex,ey];exact OE h2 t p q)
  rw[ex,ey] at hu;unfold Ev.nJ at hu;split at hu<;>first|(cases hu;done)|(rename_i h1 h2;cases h1)
 .
  rename_i a b;obtain ⟨v,vE,h1,h2,h3,h4⟩:=LH h;refine ⟨v,h1,λS aq call E o p q yt hop hx hy=>⟨vE,?_,h4 S⟩⟩
  have ex:aq p = .string ⟨a.toArray⟩:=hx.ef;have ey:aq q = .string ⟨b.toArray⟩:=hy.ef;refine tX hop (by rw[ex];rfl) (by rw[ey];rfl) h3 (λu hu=>?_) (by rw[ex,ey];exact OG h2 t p q)
  rw[ex,ey] at hu;unfold Ev.nJ at hu;split at hu<;>first|(cases hu;done)|(rename_i h1 h2;cases h1)
 .
  rename_i a b
  have key:∀(op:BinOp) (w:Bool),(op = .eql/\w=(a==b))\/(op = .neq/\w = !(a==b))->X.P.underlying t=some .bool->∀(S:Wo) (aq:Operand->Value) (call:Ev.aN) (E:Mem) (o:Oper) (p q:Operand) (yt:TypeId),o.op = .binOp op t p q yt->VR S (.bool a) (aq p)->VR S (.bool b) (aq q) ->
   ∃vE,opA X.P call aq o E=some (vE,E)/\VR S (.bool w) vE:=by
   intro op w hw hu S aq call E o p q yt hop hx hy;have ex:aq p = .bool a:=hx.gi;have ey:aq q = .bool b:=hy.gi;refine ⟨.bool w,tX hop (by rw[ex];rfl) (by rw[ey];rfl) rfl (λu hv=>?_) ?_,.bool w⟩
   .
    rw[ex,ey] at hv;unfold Ev.nJ at hv;rw[hu] at hv;rcases hw with ⟨rfl,rfl⟩|⟨rfl,rfl⟩
    .
     simp only[Option.some.injEq] at hv;subst hv;cases a<;>cases b<;>rfl
    simp only[Option.some.injEq] at hv;subst hv;cases a<;>cases b<;>rfl
   rw[ex,ey,ak,Ib];rcases hw with ⟨rfl,rfl⟩|⟨rfl,rfl⟩
   .
    show semPure X.P (Op.equalIn (9999+1) t (.bool a) (.bool b) >>= λb=>pure (Value.bool b))=_
    rw[ak,sy hu];rfl
   show semPure X.P (Op.equalIn (9999+1) t (.bool a) (.bool b) >>= λb=>pure (Value.bool (!b)))=_
   rw[ak,sy hu];rfl
  split at h
  .
   rename_i hu;exact ⟨_,h,key _ _ (.inl ⟨rfl,rfl⟩) hu⟩
  .
   rename_i hu;exact ⟨_,h,key _ _ (.inr ⟨rfl,rfl⟩) hu⟩
  cases h
 .
  rename_i l m;rw[pick2_eq] at h;split at h
  .
   cases h
  rename_i hg;have hg':X.P.eqGuardType X.P.depth t=false:=by simpa using hg
  split at h
  .
   rename_i fs0 ks hu0 hks
   have key:∀(op:BinOp) (b w:Bool),nD ks l m=some b->(op = .eql/\w=b)\/(op = .neq/\w = !b)->∀(S:Wo) (aq:Operand->Value) (call:Ev.aN) (E:Mem) (o:Oper) (p q:Operand) (yt:TypeId),o.op = .binOp op t p q yt->VR S (.agg l) (aq p)->VR S (.agg m) (aq q) ->
    ∃vE,opA X.P call aq o E=some (vE,E)/\VR S (.bool w) vE:=by
    intro op b w hb hw S aq call E o p q yt hop hx hy;generalize hA:aq p=A at hx;generalize hB:aq q=B at hy;cases hx with
    |
     agg _ L hl hv =>
     cases hy with
     |
      agg _ M hl' hv' =>
      obtain ⟨f1,f2⟩:=BK hb ⟨hl,hv⟩ ⟨hl',hv'⟩
      have heq:semPure X.P (Op.equalIn 10000 t (.agg L.toArray) (.agg M.toArray))=some b:=by
       rcases (J9 (P:=X.P) S 40).1 t ks hks 10000 (by omega) l m b L M hb ⟨hl,hv⟩ ⟨hl',hv'⟩ with ⟨_,h1⟩|⟨u,hu,hu1,hu2,x,y,rfl,rfl,h1⟩
       .
        exact h1
       rw[hu0] at hu;cases hu;exact absurd rfl (hu1 _)
      refine ⟨.bool w,tX hop (by rw[hA];exact f1) (by rw[hB];exact f2) rfl (λu hv=>?_) ?_,.bool w⟩
      .
       rw[hA,hB] at hv;unfold Ev.nJ at hv;split at hv<;>first|(cases hv;done)|(rename_i h1 h2;cases h1)
      rw[hA,hB,ak,LL _ _ _ _ hg'];rcases hw with ⟨rfl,rfl⟩|⟨rfl,rfl⟩
      .
       show semPure X.P (Op.equalIn 10000 t (.agg L.toArray) (.agg M.toArray) >>= λb=>pure (Value.bool b))=_
       rw[ak,heq];rfl
      show semPure X.P (Op.equalIn 10000 t (.agg L.toArray) (.agg M.toArray) >>= λb=>pure (Value.bool (!b)))=_
      rw[ak,heq];rfl
   split at h
   .
    rename_i b hb;exact ⟨_,h,key _ _ _ hb (.inl ⟨rfl,rfl⟩)⟩
   .
    rename_i b hb;exact ⟨_,h,key _ _ _ hb (.inr ⟨rfl,rfl⟩)⟩
   cases h
  cases h
 .
  have key:=@Dx X op t;split at h
  .
   rename_i hu
   exact ⟨_,h,λS aq call E o p q yt hop hx hy=>by
    cases hx':aq p<;>rw[hx'] at hx<;>cases hx;cases hy':aq q<;>rw[hy'] at hy<;>cases hy;exact key true hop hx' hy' rfl (by unfold Ev.nJ;rw[hu])⟩
  .
   rename_i hu
   exact ⟨_,h,λS aq call E o p q yt hop hx hy=>by
    cases hx':aq p<;>rw[hx'] at hx<;>cases hx;cases hy':aq q<;>rw[hy'] at hy<;>cases hy;exact key false hop hx' hy' rfl (by unfold Ev.nJ;rw[hu])⟩
  cases h
 .
  have key:=@Dx X op t;split at h
  .
   rename_i hu
   exact ⟨_,h,λS aq call E o p q yt hop hx hy=>by
    cases hx':aq p<;>rw[hx'] at hx<;>cases hx;cases hy':aq q<;>rw[hy'] at hy<;>cases hy;exact key false hop hx' hy' rfl (by unfold Ev.nJ;rw[hu])⟩
  .
   rename_i hu
   exact ⟨_,h,λS aq call E o p q yt hop hx hy=>by
    cases hx':aq p<;>rw[hx'] at hx<;>cases hx;cases hy':aq q<;>rw[hy'] at hy<;>cases hy;exact key true hop hx' hy' rfl (by unfold Ev.nJ;rw[hu])⟩
  cases h
 .
  have key:=@Dx X op t
  have both:∀(w:Bool) (e:TypeId) {i a j b:Nat},X.P.underlying t=some (.pointer e)->(op = .eql/\w=true)\/(op = .neq/\w=false)->(Nat.beq i j&&Nat.beq a b&&(Ev.aM X.P e).isSome)=true ->
   ∀(S:Wo) (aq:Operand->Value) (call:Ev.aN) (E:Mem) (o:Oper) (p q:Operand) (yt:TypeId),o.op = .binOp op t p q yt->VR S (.ptr i a) (aq p)->VR S (.ptr j b) (aq q)->∃vE,opA X.P call aq o E=some (vE,E)/\VR S (.bool w) vE:=by
   intro w e i a j b hu hw hc S aq call E o p q yt hop hx hy;simp only[Bool.and_eq_true,Nat.beq_eq] at hc;obtain ⟨⟨rfl,rfl⟩,hsz⟩:=hc;generalize hx':aq p=A at hx;generalize hy':aq q=B at hy;cases hx with
   |
    ptr _ _ i1 c1 s1 h1 =>
    cases hy with
    |
     ptr _ _ i2 c2 s2 h2 =>
     rw[h1] at h2;cases h2;refine key w hop hx' hy' rfl ?_;unfold Ev.nJ;rw[hu];simp only;have e1:(Nat.beq i1 i1&&Nat.beq a a&&(Ev.aM X.P e).isSome)=true:=by simp[Nat.beq_eq,hsz]
     rw[e1];rcases hw with ⟨rfl,rfl⟩|⟨rfl,rfl⟩<;>rfl
  split at h
  .
   rename_i e hu;rw[pick2_eq] at h;split at h
   .
    rename_i hc;exact ⟨_,h,both true e hu (.inl ⟨rfl,rfl⟩) hc⟩
   cases h
  .
   rename_i e hu;rw[pick2_eq] at h;split at h
   .
    rename_i hc;exact ⟨_,h,both false e hu (.inr ⟨rfl,rfl⟩) hc⟩
   cases h
  cases h
 cases h
end
end Go.Tv

namespace Go.Tv
open Go.Ev (Tr pick2 Leave Mem Blk alive pick2_eq alive_some semPure pureA opA addrFree withMem orElse)
def bx (X:cI) (cf:Nat×Nat->Ev.aN) (o:Oper) (ev:Operand->AV) (H:aa) (v:AV) (H':aa):Prop :=
 ∀(S:Wo) (E:Mem) (aq:Operand->Value),Rel S H E->(∀x∈o.op.operands,VR S (ev x) (aq x)) ->
  ∃S' vE E',(∃N,∀n:Nat×Nat,N<=n.1/\N<=n.2->opA X.P (cf n) aq o E=some (vE,E'))/\S.le S'/\VR S' v vE/\Rel S' H' E'/\St S H E S' H' E'
section
variable {X:cI} {cf:Nat×Nat->Ev.aN} {o:Oper} {ev:Operand->AV} {H:aa} {β:Type} {r:β}
theorem bx.quiet {v:AV} (h:∀(S:Wo) (E:Mem) (aq:Operand->Value),Rel S H E->(∀x∈o.op.operands,VR S (ev x) (aq x))->∃vE,(∀call,opA X.P call aq o E=some (vE,E))/\VR S v vE):bx X cf o ev H v H :=
 λS E aq hr aA=>let ⟨vE,h1,h2⟩:=h S E aq hr aA;⟨S,vE,E,⟨0,λn _=>h1 (cf n)⟩,S.le_refl,h2,hr,St.refl _ _ _⟩
theorem qd {P:Program} {o:Oper} {ev:Operand->Value} {v:Value} (hs:∀a b,o.op ≠ .select a b) (hf:Ev.aQ ev o.op=true) (h:semPure P (execOp ev o)=some (.value v)) (hv:addrFree v=true):pureA P ev o=some v:=by
 unfold pureA
 split
 .
  rename_i a b h1;exact absurd h1 (hs a b)
 rw[if_pos hf,h];simp[hv]
theorem LM {op:BinOp} {t yt:TypeId} {p q:Operand} (hop:o.op = .binOp op t p q yt) {k:AV->Option β} (h:Tf X op t (ev p) (ev q) k=some r):∃v,k v=some r/\bx X cf o ev H v H:=by
 obtain ⟨v,h1,h2⟩:=OI h
 refine ⟨v,h1,.quiet λS E aq hr aA=>?_⟩
 rw[hop] at aA
 obtain ⟨vE,_,h4⟩:=h2 S aq (λ_ _ _=>none) E o p q yt hop (aA p (by simp[Op.operands])) (aA q (by simp[Op.operands]))
 refine ⟨vE,λcall=>?_,h4⟩
 obtain ⟨vE',h5,h6⟩:=h2 S aq call E o p q yt hop (aA p (by simp[Op.operands])) (aA q (by simp[Op.operands]))
 rename_i h3
 have e1:∀c1 c2,opA X.P c1 aq o E=opA X.P c2 aq o E:=λc1 c2=>by unfold opA;rw[hop]
 rw[e1 call (λ_ _ _=>none)];exact h3
theorem XP {op:UnOp} {t:TypeId} {p:Operand} (hop:o.op = .unOp op t p) {k:AV->Option β} (h:unT op (ev p) k=some r):∃v,k v=some r/\bx X cf o ev H v H:=by
 have key:∀(v:AV) (vE:Value) (x:Value),(∀S,VR S v vE)->addrFree vE=true->addrFree x=true->(∀S y,VR S (ev p) y->y=x)->semPure X.P (Op.unary op x)=some vE->bx X cf o ev H v H:=by
  intro v vE x hv hf hx hy hs;refine .quiet λS E aq hr aA=>⟨vE,λcall=>?_,hv S⟩
  rw[hop] at aA;have e:=hy S _ (aA p (by simp[Op.operands]))
  unfold opA;rw[hop];show withMem E (pureA X.P aq o)=_;rw[qd (v:=vE) (λa b=>by rw[hop];simp) (by rw[hop];simp[Ev.aQ,Op.operands,e,hx]) ?_ hf]
  .
   rfl
  unfold execOp;rw[hop];show semPure X.P (Op.unary op (aq p) >>= λx=>pure (Next.value x))=_
  rw[ak,e,hs];rfl
 unfold unT at h
 split at h
 .
  rename_i k0 n hp;exact ⟨_,h,key _ (.int k0 (k0.wrap (0-n))) (.int k0 n) (λS=>.int _ _) rfl rfl (λS y hy=>by rw[hp] at hy;exact hy.bQ) rfl⟩
 .
  rename_i k0 n hp;exact ⟨_,h,key _ (.int k0 _) (.int k0 n) (λS=>.int _ _) rfl rfl (λS y hy=>by rw[hp] at hy;exact hy.bQ) rfl⟩
 .
  rename_i b hp;exact ⟨_,h,key _ (.bool (!b)) (.bool b) (λS=>.bool _) rfl rfl (λS y hy=>by rw[hp] at hy;exact hy.gi) rfl⟩
 cases h
theorem LN {P:Program} {E:Mem} {t:TypeId} {n:Nat} (ha:Ev.rW P t=some true) (hn:Ev.aM P t=some n) (i off:Nat):Ev.kS P E t (.pointer (some ⟨i,off,none⟩))=(Ev.bT E i off n).map λl=>.agg l.toArray:=by
 simp only[Ev.kS,ha,hn]
theorem LO {P:Program} {E:Mem} {t:TypeId} {b:Blk} (ha:Ev.rW P t=some false) {i:Nat} (hb:alive E i=some b) (off:Nat):Ev.kS P E t (.pointer (some ⟨i,off,none⟩))=Ev.yf b.cells[off]? := by
 simp only[Ev.kS,ha,hb]
theorem BL {t:TypeId} {k:AV->Option β}:l9 X t [] k=none:=by
 unfold l9
 split
 .
  rename_i n _ _;rw[pick2_eq];split
  .
   rename_i h;cases n<;>simp[Nat.ble_eq,Nat.beq_eq] at h
  rfl
 .
  rfl
 rfl
theorem qe {t:TypeId} {cs:List AV} {k:AV->Option β} (h:l9 X t cs k=some r):∃v,k v=some r /\
 (∀(S:Wo) (E:Mem) (i off:Nat) (b:Blk) (mid post:List Value),alive E i=some b->off<=b.cells.length->b.cells.drop off=mid++post->LV S cs mid->∃vE,Ev.kS X.P E t (.pointer (some ⟨i,off,none⟩))=some vE/\VR S v vE) /\
 (∀(S:Wo) (L:List Value) (off:Nat),LV S cs (L.drop off)->∃vE,Ev.yg X.P t L.toArray off=some vE/\VR S v vE):=by
 unfold l9 at h
 split at h
 .
  rename_i n ha hn;rw[pick2_eq] at h;split at h
  .
   rename_i hle
   have hle':n<=cs.length:=by
    simp only[Bool.and_eq_true,Nat.ble_eq] at hle;exact hle.1.1
   have hpl:(cs.take n).all l8=true:=by
    simp only[Bool.and_eq_true] at hle;exact hle.2
   refine ⟨_,h,λS E i off b mid post hb ho hd hl=>?_,λS L off hl=>?_⟩
   .
    have hlen:b.cells.length=off+(mid.length+post.length):=by
     have:=congrArg List.length hd;simp at this;omega
    refine ⟨.agg (mid.take n).toArray,?_,.agg _ _ (hl.take n).1 (hl.take n).2⟩;rw[LN ha hn];unfold Ev.bT;rw[hb];have:off+n<=b.cells.length:=by rw[hlen,<-hl.1];omega
    have htk:(mid++post).take n=mid.take n:=List.take_append_of_le_length (by rw[<-hl.1];exact hle')
    simp only[this,if_true,hd,htk];rw[(hl.take n).iI hpl];rfl
   refine ⟨.agg ((L.drop off).take n).toArray,?_,.agg _ _ (hl.take n).1 (hl.take n).2⟩;unfold Ev.yg;rw[ha,hn];simp[List.extract_toArray,List.extract_eq_take_drop]
  cases h
 .
  rename_i ha;split at h
  .
   rename_i c cs';rw[pick2_eq] at h;split at h
   case isFalse=>cases h
   rename_i hpc;refine ⟨_,h,λS E i off b mid post hb ho hd hl=>?_,λS L off hl=>?_⟩
   .
    obtain ⟨y,m',rfl,h1,h2⟩:=hl.cons_inv;refine ⟨y,?_,h1⟩;rw[LO ha hb];have h0:(b.cells.drop off)[0]? = some y:=by rw[hd];rfl
    have h0:b.cells[off]? = some y:=by simpa using h0
    rw[h0];simp only[Ev.yf,h1.iI hpc]
   obtain ⟨y,m',hm,h1,h2⟩:=hl.cons_inv;refine ⟨y,?_,h1⟩;unfold Ev.yg;rw[ha];have h0:(L.drop off)[0]? = some y:=by rw[hm];rfl
   simp at h0;cases Ev.aM X.P t<;>simpa using h0
  cases h
 cases h
theorem Fv {t:TypeId} {a:AV} {k:AV->Option β} (h:loadT X H t a k=some r):∃v,k v=some r/\∀S E y,Rel S H E->VR S a y->∃vE,Ev.kS X.P E t y=some vE/\VR S v vE:=by
 unfold loadT at h
 split at h
 .
  rename_i id off;split at h
  .
   rename_i cs hg;obtain ⟨v,h1,h2,_⟩:=qe h;refine ⟨v,h1,λS E y hr hy=>?_⟩
   cases hy with
   |
    ptr _ _ i c s hρ =>
    obtain ⟨i',c',s',b,k1,k2,k3,_⟩:=hr.row id _ hg;rw[hρ] at k1;cases k1;by_cases ho:off<=b.cells.length
    .
     exact h2 S E i off b (b.cells.drop off) [] k2 ho (by simp) (k3.drop off)
    exfalso;have:cs.drop off=[]:=List.drop_eq_nil_of_le (by rw[k3.1];omega)
    rw[this] at h;rw[BL] at h;cases h
  cases h
 .
  rename_i cs;obtain ⟨v,h1,h2,_⟩:=qe h;refine ⟨v,h1,λS E y hr hy=>?_⟩
  cases hy with
  |
   vp _ i pre mid post hF hl hc =>
   obtain ⟨b,k1,k2⟩:=hr.fz i _ hF;exact h2 S E i pre.length b mid post k1 (by rw[k2];simp) (by rw[k2];simp) ⟨hl,hc⟩
 .
  rename_i id j fo cw cur;split at h
  .
   rename_i t' e l ver' ex ro hg;rw[pick2_eq] at h;split at h
   .
    rename_i hv;have hv':cw=ver':=by simpa[Nat.beq_eq] using hv
    subst hv';obtain ⟨v,h1,h2,_⟩:=qe h;refine ⟨v,h1,λS E y hr hy=>?_⟩
    cases hy with
    |
     AG _ _ _ _ _ i c e' l' y' hρ hΓ hy' hc =>
     obtain ⟨g1,_,g3⟩:=hr.row id _ hg;rw[g1] at hΓ;cases hΓ;rcases g3 with ⟨_,g4,_⟩|⟨i',cap,b,mid,post,q1,q2,q3,q4,q5,q6,q7,q8,q9,rD⟩
     .
      rw[hρ] at g4;cases g4
     rw[hρ] at q1;cases q1;obtain ⟨a,cc,bb,w1,w2,w3,w4,w5⟩:=q5.get (λx c=>CR.length e x c) hy'
     subst hc;have hcc:=CR.length e _ _ w3;have hfl:=mR e y'
     have hfo:fo<=e.size:=by
      by_cases hh:fo<=e.size
      .
       exact hh
      rw[List.drop_eq_nil_of_le (by omega),BL] at h;cases h
     have hbc:b.cells=a++(cc++(bb++post)):=by rw[q4,w1];simp
     refine h2 S E i (j*e.size+fo) b (cc.drop fo) (bb++post) q2 ?_ ?_ ((CR.flat e _ _ w3).drop fo)
     .
      rw[hbc];simp;omega
     rw[hbc,<-w2,<-List.drop_drop,List.drop_left,List.drop_append_of_le_length (by omega)]
   cases h
  cases h
 cases h
theorem OJ {t:TypeId} {p:Operand} (hop:o.op = .load t p) {k:AV->Option β} (h:loadT X H t (ev p) k=some r):∃v,k v=some r/\bx X cf o ev H v H:=by
 obtain ⟨v,h1,hv⟩:=Fv h
 refine ⟨v,h1,.quiet λS E aq hr aA=>?_⟩
 rw[hop] at aA
 obtain ⟨vE,h1,h2⟩:=hv S E _ hr (aA p (by simp[Op.operands]))
 exact ⟨vE,λcall=>by unfold opA;rw[hop];show withMem E (Ev.kS X.P E t (aq p))=_;rw[h1];rfl,h2⟩
theorem jI {α:Type} {l:List α} {i:Int} {y:α} (h:aI l i=some y):∃n:Nat,i=(n:Int)/\l[n]? = some y:=by
 unfold aI at h
 split at h
 .
  rename_i n;exact ⟨n,rfl,h⟩
 cases h
theorem lK {α:Type} {m:Option α} {k:α->Option β} (h:Option.rec (motive:=λ_=>Option β) none k m=some r):∃y,m=some y/\k y=some r:=by
 cases m with
 |none=>cases h
 |some y=>exact ⟨y,rfl,h⟩
theorem tY {i:Int} {k:Nat->Option β}:∀(n j:Nat),HX i k n j=some r->∃m,j<=m/\m<j+n/\i=(m:Int)/\k m=some r
 |0,j,h=>by cases h
 |
  n+1,j,h=>by
  unfold HX at h;rw[pick2_eq] at h;split at h
  .
   rename_i hi;exact ⟨j,Nat.le_refl _,by omega,by rw[Ev.eqI_spec] at hi;simpa using hi,h⟩
  obtain ⟨m,h1,h2,h3,h4⟩:=tY n (j+1) h;exact ⟨m,by omega,by omega,h3,h4⟩
theorem Dy {i:Int} {n m:Nat} (hi:i=(m:Int)) (hm:m<n):Ev.Lm i n=some m:=by
 subst hi
 show pick2 (Nat.ble (Nat.succ m) n) (some m) none=some m
 rw[pick2_eq,Ev.fX,if_pos (by simpa using hm)]
theorem bI {α:Type} {l:List α} {n:Nat} {y:α} (h:l[n]? = some y):n<l.length:=(List.getElem?_eq_some_iff.1 h).1
theorem sA {P:Program} {t te:TypeId} {s:Nat} (hu:P.underlying t=some (.slice te)) (hs:Ev.aM P te=some s) (b off len cap:Nat) (k:IntKind) (m:Nat) (hm:m<len) :
 Ev.CN P t (.slice (some ⟨b,off,none⟩) len cap) (.int k (m:Int))=some (.pointer (some ⟨b,off+m*s,none⟩)):=by
 simp only[Ev.CN,hu,hs,Dy rfl hm];rfl
theorem sB {P:Program} {t te:TypeId} {s n:Nat} (hu:P.underlying t=some (.array n te)) (hs:Ev.aM P te=some s) (b off:Nat) (k:IntKind) (m:Nat) (hm:m<n) :
 Ev.CN P t (.pointer (some ⟨b,off,none⟩)) (.int k (m:Int))=some (.pointer (some ⟨b,off+m*s,none⟩)):=by
 simp only[Ev.CN,hu,hs,Dy rfl hm];rfl
theorem Tl {t:TypeId} {p q:Operand} (hop:o.op = .indexAddr t p q) {k:AV->Option β} (h:XE X H t (ev p) (ev q) k=some r):∃v,k v=some r/\bx X cf o ev H v H:=by
 have fin:∀v,(∀S E x y,Rel S H E->VR S (ev p) x->VR S (ev q) y->∃vE,Ev.CN X.P t x y=some vE/\VR S v vE)->bx X cf o ev H v H:=λv hv=>.quiet λS E aq hr aA=>by
  rw[hop] at aA;obtain ⟨vE,h1,h2⟩:=hv S E _ _ hr (aA p (by simp[Op.operands])) (aA q (by simp[Op.operands]))
  exact ⟨vE,λcall=>by unfold opA;rw[hop];show withMem E (Ev.CN X.P t (aq p) (aq q))=_;rw[h1];rfl,h2⟩
 unfold XE at h
 split at h
 .
  rename_i te ki i hu hq;split at h
  .
   rename_i s hs;split at h
   .
    rename_i e l hp;rw[pick2_eq] at h;split at h
    .
     rename_i SD;have hse':s=e.size:=by simpa[Nat.beq_eq] using SD
     obtain ⟨y,hy,h1⟩:=lK h;obtain ⟨n,rfl,hn⟩:=jI hy;refine ⟨_,h1,fin _ λS E x z hr hx hz=>?_⟩
     rw[hp] at hx;rw[hq] at hz;rw[hz.bQ];cases hx with
     |
      bF _ _ _ hS =>
      rcases hS with ⟨hl,_⟩|⟨i0,pre,mid,post,cap,rfl,hF,hC,hcap⟩
      .
       subst hl;simp at hn
      rw[sA hu hs _ _ _ _ _ _ (bI hn)];obtain ⟨a,cc,bb,w1,w2,w3,w4,w5⟩:=hC.get (λx c=>CR.length e x c) hn
      refine ⟨_,rfl,?_⟩;have:=VR.vp (S:=S) (flat e y) i0 (pre++a) cc (bb++post) (by rw[hF,w1];simp) (CR.flat e _ _ w3).1 (CR.flat e _ _ w3).2
      rw[List.length_append,w2,<-hse'] at this;exact this
    cases h
   .
    rename_i id n0 hp;split at h
    .
     rename_i t' e l cw ex ro hg;rw[pick2_eq] at h;split at h
     .
      rename_i SD;have hse':s=e.size:=by simpa[Nat.beq_eq] using SD
      obtain ⟨y,hy,h1⟩:=lK h;obtain ⟨n,rfl,hn⟩:=jI hy;refine ⟨_,h1,fin _ λS E x z hr hx hz=>?_⟩
      rw[hp] at hx;rw[hq] at hz;rw[hz.bQ];obtain ⟨g1,⟨_,g,g2,g2'⟩,g3⟩:=hr.row id _ hg;cases hx with
      |
       own _ _ i0 jJ s0 hρ g' hg' hn' =>
       rw[g2] at hg';cases hg';rcases g3 with ⟨_,g5,_⟩|⟨i',cap,b,mid,post,q1,q2,q3,q4,q5,q6,q7,q8,q9,rD⟩
       .
        rw[hρ] at g5;cases g5
       rw[hρ] at q1;cases q1;rw[sA hu hs _ _ _ _ _ _ (by have:=bI hn;omega)]
       refine ⟨_,rfl,?_⟩;have:=VR.AG (S:=S) id n 0 cw (flat e y) i0 jJ e l y hρ g1 hn rfl;rw[<-hse'] at this
       simpa using this
      |
       cQ _ g' hg' hn' =>
       rw[g2] at hg';cases hg';have:=bI hn;omega
     cases h
    cases h
   .
    rename_i id off len jJ hp;split at h
    .
     rename_i t' e l cw ex ro hg;rw[pick2_eq] at h;split at h
     .
      rename_i SD;have hse':s=e.size:=by simpa[Nat.beq_eq] using SD
      obtain ⟨y,hy,h1⟩:=lK h;obtain ⟨n,rfl,hn⟩:=jI hy;refine ⟨_,h1,fin _ λS E x z hr hx hz=>?_⟩
      rw[hp] at hx;rw[hq] at hz;rw[hz.bQ];obtain ⟨g1,_,g3⟩:=hr.row id _ hg;rw[List.getElem?_take] at hn;split at hn
      .
       rename_i hlt;cases hx with
       |
        pz _ _ _ _ i0 c0 s0 hρ g' hg' hc hl =>
        rcases g3 with ⟨_,g5,_⟩|⟨i',cap,b,mid,post,q1,q2,q3,q4,q5,q6,q7,q8,q9,rD⟩
        .
         rw[hρ] at g5;cases g5
        rw[hρ] at q1;cases q1;rw[sA hu hs _ _ _ _ _ _ hlt];refine ⟨_,rfl,?_⟩;have:=VR.AG (S:=S) id (off+n) 0 cw (flat e y) i0 c0 e l y hρ g1 (by simpa using hn) rfl
        rw[<-hse',Nat.add_mul] at this;rw[<-hse']
        simpa using this
      cases hn
     cases h
    cases h
   cases h
  cases h
 .
  rename_i n te ki i hu hq;split at h
  .
   rename_i s hs;split at h
   .
    rename_i id off hp;obtain ⟨m,_,hm,rfl,h1⟩:=tY _ _ h;refine ⟨_,h1,fin _ λS E x z hr hx hz=>?_⟩
    rw[hp] at hx;rw[hq] at hz;rw[hz.bQ];cases hx with
    |
     ptr _ _ i0 c s0 hρ =>
     rw[sB hu hs _ _ _ _ (by omega)]
     exact ⟨_,rfl,.ptr _ _ _ _ _ hρ⟩
   .
    rename_i cs hp;obtain ⟨m,_,hm,rfl,h1⟩:=tY _ _ h;rw[pick2_eq] at h1;split at h1
    .
     rename_i hle;have hle':m*s<=cs.length:=by simpa[Nat.ble_eq] using hle
     refine ⟨_,h1,fin _ λS E x z hr hx hz=>?_⟩
     rw[hp] at hx;rw[hq] at hz;rw[hz.bQ];cases hx with
     |
      vp _ i0 pre mid post hF hl hc =>
      rw[sB hu hs _ _ _ _ (by omega)]
      refine ⟨_,rfl,?_⟩;have hd:=LV.drop (S:=S) ⟨hl,hc⟩ (m*s);have:=VR.vp (S:=S) (cs.drop (m*s)) i0 (pre++mid.take (m*s)) (mid.drop (m*s)) post (by rw[hF,List.append_assoc,<-List.append_assoc (mid.take (m*s)),List.take_append_drop]) hd.1 hd.2
      rw[List.length_append,List.length_take,Nat.min_eq_left (by omega)] at this
      exact this
    cases h1
   .
    rename_i id n' hp;split at h
    .
     rename_i t' e l cw ex ro hg;rw[pick2_eq] at h;split at h
     .
      rename_i SD;simp only[Bool.and_eq_true,Nat.beq_eq] at SD;obtain ⟨hse',rfl⟩:=SD;obtain ⟨y,hy,h1⟩:=lK h;obtain ⟨m,rfl,hn⟩:=jI hy;refine ⟨_,h1,fin _ λS E x z hr hx hz=>?_⟩
      rw[hp] at hx;rw[hq] at hz;rw[hz.bQ];obtain ⟨g1,⟨_,g,g2,g2'⟩,g3⟩:=hr.row id _ hg;cases hx with
      |
       Er _ _ i0 jJ s0 hρ g' hg' hn' =>
       rw[g2] at hg';cases hg';rcases g3 with ⟨_,g5,_⟩|⟨i',cap,b,mid,post,q1,q2,q3,q4,q5,q6,q7,q8,q9,rD⟩
       .
        rw[hρ] at g5;cases g5
       rw[hρ] at q1;cases q1;rw[sB hu hs _ _ _ _ (by have:=bI hn;omega)]
       refine ⟨_,rfl,?_⟩;have:=VR.AG (S:=S) id m 0 cw (flat e y) i0 jJ e l y hρ g1 hn rfl;rw[<-hse'] at this
       simpa using this
     cases h
    cases h
   cases h
  cases h
 cases h
theorem LP {s:TypeId} {p:Operand} {f:Nat} (hop:o.op = .fieldAddr s p f) {k:AV->Option β} (h:HY X s (ev p) f k=some r):∃v,k v=some r/\bx X cf o ev H v H:=by
 have fin:∀v,(∀S x,VR S (ev p) x->∃vE,Ev.rX X.P s x f=some vE/\VR S v vE)->bx X cf o ev H v H:=λv hv=>.quiet λS E aq hr aA=>by
  rw[hop] at aA;obtain ⟨vE,h1,h2⟩:=hv S _ (aA p (by simp[Op.operands]))
  exact ⟨vE,λcall=>by unfold opA;rw[hop];show withMem E (Ev.rX X.P s (aq p) f)=_;rw[h1];rfl,h2⟩
 unfold HY at h
 split at h
 .
  rename_i fs hu;split at h
  .
   rename_i fd NT;split at h
   .
    rename_i n hn;rw[pick2_eq] at h;split at h
    .
     cases h
    rename_i hz;have hz':¬n=0:=by simpa[Nat.beq_eq] using hz
    have hA:∀b off,Ev.rX X.P s (.pointer (some ⟨b,off,none⟩)) f=some (.pointer (some ⟨b,off+fd.offset,none⟩)):=λb off=>by
     simp only[Ev.rX,hu,NT,hn,if_neg hz']
    split at h
    .
     rename_i id off hp;refine ⟨_,h,fin _ λS x hx=>?_⟩
     rw[hp] at hx;cases hx with
     |ptr _ _ i c s0 hρ=>rw[hA];exact ⟨_,rfl,.ptr _ _ _ _ _ hρ⟩
    .
     rename_i cs hp;rw[pick2_eq] at h;split at h
     .
      rename_i hle;have hle':fd.offset<=cs.length:=by simpa[Nat.ble_eq] using hle
      refine ⟨_,h,fin _ λS x hx=>?_⟩
      rw[hp] at hx;cases hx with
      |
       vp _ i0 pre mid post hF hl hc =>
       rw[hA];refine ⟨_,rfl,?_⟩;have hd:=LV.drop (S:=S) ⟨hl,hc⟩ fd.offset;have:=VR.vp (S:=S) (cs.drop fd.offset) i0 (pre++mid.take fd.offset) (mid.drop fd.offset) post (by rw[hF,List.append_assoc,<-List.append_assoc (mid.take fd.offset),List.take_append_drop]) hd.1 hd.2
       rw[List.length_append,List.length_take,Nat.min_eq_left (by omega)] at this
       exact this
     cases h
    .
     rename_i id j fo cw cur hp;refine ⟨_,h,fin _ λS x hx=>?_⟩
     rw[hp] at hx;cases hx with
     |
      AG _ _ _ _ _ i c e l y hρ hΓ hy hc =>
      rw[hA];refine ⟨_,rfl,?_⟩;have:=VR.AG (S:=S) id j (fo+fd.offset) cw cur i c e l y hρ hΓ hy hc;rw[<-Nat.add_assoc] at this;exact this
    cases h
   cases h
  cases h
 cases h
theorem Ic {t:TypeId} {p:Operand} {f:Nat} {fs:Array Field} {cs:List AV} {fd:Field} (hop:o.op = .field t p f) (hu:X.P.underlying t=some (.struct fs)) (hp:ev p = .agg cs) (NT:fs[f]? = some fd) {k:AV->Option β}
 (h:l9 X fd.type (cs.drop fd.offset) k=some r):∃v,k v=some r/\bx X cf o ev H v H:=by
 obtain ⟨v,h1,_,h2⟩:=qe h
 refine ⟨v,h1,.quiet λS E aq hr aA=>?_⟩
 rw[hop] at aA
 have hx:=aA p (by simp[Op.operands])
 rw[hp] at hx
 generalize hA:aq p=A at hx
 cases hx with
 |
  agg _ L hl hv =>
  obtain ⟨vE,h3,h4⟩:=h2 S L fd.offset (LV.drop ⟨hl,hv⟩ _);refine ⟨vE,λcall=>?_,h4⟩
  unfold opA;rw[hop];show withMem E (Ev.tj X.P t (aq p) f)=_;rw[hA];simp only[Ev.tj,hu,NT,h3];rfl
theorem LQ {t:TypeId} {p q:Operand} (hop:o.op = .index t p q) {k:AV->aa->Option β}
 (h:(match X.P.underlying t,ev p,ev q with
 |some .string,.str s,.int _ i=>Option.rec (motive:=λ_=>Option β) none (λc=>k (.int .u8 (aF c)) H) (aI s i)
 |
  some (.array n te),.agg cs,.int _ i=>match Ev.aM X.P te with
  |some s=>HX i (λj=>l9 X te (cs.drop (Nat.mul j s)) λv=>k v H) n 0
  |none=>none
 |_,_,_=>none)=some r):∃v,k v H=some r/\bx X cf o ev H v H:=by
 split at h
 .
  rename_i s ki i hu hp hq;obtain ⟨c,hc,h1⟩:=lK h;obtain ⟨n,rfl,hn⟩:=jI hc;refine ⟨_,h1,.quiet λS E aq hr aA=>⟨.int .u8 (aF c),λcall=>?_,.int _ _⟩⟩
  rw[hop] at aA;have hx:=aA p (by simp[Op.operands])
  have hy:=aA q (by simp[Op.operands])
  rw[hp] at hx;rw[hq] at hy;unfold opA;rw[hop];show withMem E (orElse (Ev.j8 X.P t (aq p) (aq q)) _)=_;rw[hx.ef,hy.bQ]
  have e:Ev.j8 X.P t (.string ⟨s.toArray⟩) (.int ki (n:Int))=some (.int .u8 (aF c)):=by
   show (match X.P.underlying t,Value.string ⟨s.toArray⟩,Value.int ki (Int.ofNat n) with
    |
     some .string,.string s,.int _ (.ofNat i)=>match s.data.toList[i]? with
     |some b=>some (Value.int .u8 (.ofNat b.toNat))
     |none=>none
    |_,_,_=>none)=_
   rw[hu];simp[hn,aF]
  rw[e];rfl
 .
  rename_i n te cs ki i hu hp hq;split at h
  .
   rename_i s hs;obtain ⟨m,_,hm,rfl,h1⟩:=tY _ _ h;obtain ⟨v,h2,_,h3⟩:=qe h1;refine ⟨v,h2,.quiet λS E aq hr aA=>?_⟩
   rw[hop] at aA;have hx:=aA p (by simp[Op.operands])
   have hy:=aA q (by simp[Op.operands])
   rw[hp] at hx;rw[hq] at hy;generalize hA:aq p=A at hx;cases hx with
   |
    agg _ L hl hv =>
    obtain ⟨vE,h4,h5⟩:=h3 S L (m*s) (LV.drop ⟨hl,hv⟩ _);refine ⟨vE,λcall=>?_,h5⟩
    unfold opA;rw[hop];show withMem E (orElse (Ev.j8 X.P t (aq p) (aq q)) (orElse (Ev.qG X.P t (aq p) (aq q)) _))=_;rw[hA,hy.bQ];have e1:Ev.j8 X.P t (.agg L.toArray) (.int ki (m:Int))=none:=by simp only[Ev.j8,hu]
    have e2:Ev.qG X.P t (.agg L.toArray) (.int ki (m:Int))=some vE:=by
     simp only[Ev.qG,hu,hs,Dy rfl (show m<n by omega)]
     exact h4
    rw[e1,e2];rfl
  cases h
 cases h
theorem Tm {c:Call} {x:Operand} {t:TypeId} (hop:o.op = .call c) (hc:c.callee = .builtin .len) (h0:c.args[0]? = some x) (h1:c.argTypes[0]? = some t) {k:AV->Option β} (h:XJ X t (ev x) k=some r):∃v,k v=some r/\bx X cf o ev H v H:=by
 have fin:∀n:Nat,(∀S y,VR S (ev x) y->Ev.nu X.P t y=some (goInt n))->bx X cf o ev H (.int .i64 n) H:=λn hn=>.quiet λS E aq hr aA=>by
  refine ⟨goInt n,λcall=>?_,.int _ _⟩
  rw[hop] at aA
  have hx:=aA x (by
   have:=Array.mem_of_getElem? h0;simp only[Op.operands,Call.operands,hc]
   simpa using this)
  unfold opA;rw[hop];show Ev.bp X.P call aq o c E=_;unfold Ev.bp;rw[hc];show Ev.tn X.P aq o c.args c.argTypes E=_;unfold Ev.tn;rw[h0,h1];simp only[hn S _ hx];rfl
 unfold XJ at h
 split at h
 .
  rename_i hu hp;refine ⟨_,h,fin _ λS y hy=>?_⟩
  rw[hp] at hy;cases hy with
  |
   bF _ _ _ hS =>
   rcases hS with ⟨rfl,rfl|rfl⟩|⟨i0,pre,mid,post,cap,rfl,_⟩
   .
    simp only[Ev.nu,hu];rfl
   .
    simp only[Ev.nu,Ev.vd,hu];rfl
   simp only[Ev.nu,hu]
 .
  rename_i hu hp;refine ⟨_,h,fin 0 λS y hy=>?_⟩
  rw[hp] at hy;cases hy;simp only[Ev.nu,hu]
 .
  rename_i hu hp;refine ⟨_,h,fin _ λS y hy=>?_⟩
  rw[hp] at hy;cases hy<;>simp only[Ev.nu,hu]
 .
  rename_i hu hp;refine ⟨_,h,fin _ λS y hy=>?_⟩
  rw[hp] at hy;cases hy;simp only[Ev.nu,hu]
 .
  rename_i s hu hp;refine ⟨_,h,fin _ λS y hy=>?_⟩
  rw[hp] at hy;rw[hy.ef];simp[Ev.nu,hu,ByteArray.size]
 cases h
end
end Go.Tv

/- Lines: what a reader has; pieces of data. A function from one place of its code to a later one. Lines: data, powers: contracts. Lines: where the faults of instructions are. What is read hangs not on where tokens stand: expressions, operands, instructions. Lines: what reading one comes to. -/
import Derived.Test.YtpaddkkfefgkfaaGreatDoorGre
import Derived.Test.YtpaddkkfefgkfaaGreatDoorLyg
set_option linter.unusedVariables false
set_option linter.unusedSimpArgs false

namespace Go.Proofs.YtpaddkkfefgkfaaGreatDoor.ps
open Go.Tv Go.Ev Go.Px Go.Pp Go.Proofs.YtpaddkkfefgkfaaGreatDoor.ex
set_option maxRecDepth 100000
noncomputable section
abbrev Dt:=List UInt8×List Nd
abbrev Dv:Tv.Ty:=.pair .str (.sl bW)
structure RS where
 a:Int
 lab:List UInt8
 kind:Int
 sz:Int
 op:Int
 hint:Int
 args:List Raw
 data:List Dt
 x:List Nd
 times:List Nd
 e:Int
 f:Int
def U0 (n:Int) (l:List Tok) (s:RS) (A:AV):List bI:=[.val (.int .i64 n),.val (.bA aH l),.val (.int .i64 s.a),.val (.str s.lab),.val (.int .i64 s.kind),.val (.int .i64 s.sz),.val (.int .i64 s.op),.val (.int .i64 s.hint),.val A,.list 52 Dv s.data,.list 50 bW s.x,.list 50 bW s.times,.val (.int .i64 s.e),.val (.int .i64 s.f)]
abbrev ahL (n:Int) (l:List Tok) (s:RS):List bI:=U0 n l s .br
abbrev abY (n:Int) (l:List Tok) (s:RS):List bI:=U0 n l s (.bA jX s.args)
def abZ:List (Option (TypeId×Tv.Ty)):=[none,none,none,none,none,none,none,none,none,some (52,Dv),some (50,bW),some (50,bW),none,none]
def afH:List (Option Tv.Ty):=[none,none,none,none,none,none,none,none,some jX]
abbrev FRd:=Int->List Tok->RS->Option (Bool×Bool×RS)
def gRd (F:FRd) (ins:List bI):Option (Bool×List bI×List bI) :=
 match ins with
 |
  [.val (.int .i64 n),.val (.bA e0 l0),.val (.int .i64 a),.val (.str lab),.val (.int .i64 kind),.val (.int .i64 sz),.val (.int .i64 op),.val (.int .i64 hint),.val .br,.list t1 e1 d,.list t2 e2 x,.list t3 e3 tm,.val (.int .i64 e),.val (.int .i64 f)] =>
  match fk e0 aH l0,fk e1 Dv d,fk e2 bW x,fk e3 bW tm with
  |
   some l,some d,some x,some tm=>match F n l ⟨a,lab,kind,sz,op,hint,[],d,x,tm,e,f⟩ with
   |some (c,b,s')=>some (c&&(Nat.beq t1 52&&Nat.beq t2 50&&Nat.beq t3 50&&d.isEmpty&&x.isEmpty),abY n l s',[.val (.bool b)])
   |none=>none
  |_,_,_,_=>none
 |_=>none
def cRd (F:FRd):yU:=⟨some (126,abZ),[],gRd F⟩
abbrev Tb:AV->aa->bD:=abP 126 afH abZ [none]
def U3 (b:Bool) (n:Int) (l:List Tok) (s:RS) (nd nx nt:Nat):bD:=some (abY n l s++[.val (.bool b)],[nd,nx,nt])
section
variable (n:Int) (l:List Tok)
def ab1 (i:Int):Int:=match at? l i with
 |some t=>t.2.2.2
 |none=>n
def nj (s:RS) (e i:Int):Bool×RS:=(false,{ s with e:=e,f:=ab1 n l i })
def HZ (i:Int) (k:Tok->bD):bD:=Option.rec (motive:=λ_=>bD) none k (aS l i)
def ox (s:RS) (nd nx nt:Nat) (e i:Int):bD:=pick2 (ltI i l.length) (HZ l i λy=>U3 false n l { s with e:=e,f:=y.2.2.2 } nd nx nt) (U3 false n l { s with e:=e,f:=n } nd nx nt)
def isN (a k:Int) (t:List UInt8) (no yes:bD):bD:=pick2 (ltI a l.length) (HZ l a λy=>pick2 (eqI y.1 k) (HZ l a λy=>pick2 (!decide (y.2.2.1=t)) no yes) no) no
end
def Good (r:iD):Prop:=∀b st,r=some (b,st)->(b=true->0<=st.a)/\(b=false->0<=st.f)
section
variable {n:Int} {l:List Tok}
end
def zu (s:List UInt8):Int:=match aS s ((s.length:Int)-1) with
 |some c=>if aD c=98 then 1 else if aD c=119 then 2 else if aD c=100 then 4 else 8
 |none=>8
def gSz (args:List AV):Option (Bool×List aZ) :=
 match args with
 |[.str s]=>some (!ltI s.length 1&&Nat.ble s.length 1000000,[.val (.int .i64 (zu s))])
 |_=>none
theorem H6:aI X0 cI 180 gSz :=
 aG (nk rfl) (bR p5 n0) λargs rs hg=>by
  unfold gSz at hg;split at hg
  .
   rename_i s;simp only[Option.some.injEq,Prod.mk.injEq,Bool.and_eq_true,Bool.not_eq_true'] at hg;obtain ⟨⟨g0,g1⟩,rfl⟩:=hg;have g0:=Am g0;have g1:=Nat.le_of_ble_eq_true g1;refine ⟨[.int .i64 (zu s)],bK,5,?_,rfl,rfl⟩;have h:ag X0 (cN P2 [] AV) bK 5 180 [.str s] aa.empty (λv _=>some v)=Option.rec (motive:=λ_=>Option AV) none (λc=>pick2 (eqI (aD c) 98) (some (.int .i64 1)) (pick2 (eqI (aD c) 119) (some (.int .i64 2)) (pick2 (eqI (aD c) 100) (some (.int .i64 4)) (some (.int .i64 8))))) (aS s (IntKind.wrap .i64 (s.length-1))):=by kernel_rfl
   rw[h,i64_in (n:=(s.length:Int)-1) (by omega) (by omega)]
   unfold zu;cases hc:aS s ((s.length:Int)-1) with
   |
    none =>
    rw[getI_at?] at hc;have:=iQ (by omega) hc
    omega
   |
    some c =>
    simp only[az];by_cases h1:aD c=98
    .
     rw[if_pos h1,if_pos h1];rfl
    rw[if_neg h1,if_neg h1];by_cases h2:aD c=119
    .
     rw[if_pos h2,if_pos h2];rfl
    rw[if_neg h2,if_neg h2];by_cases h3:aD c=100
    .
     rw[if_pos h3,if_pos h3];rfl
    rw[if_neg h3,if_neg h3];rfl
  cases hg
def P3:List kH:=(180,[none],gSz)::P2
theorem ab2:cg X0 cI P3:=.cons H6 p5
def mRd (n:Int) (l:List Tok) (s:RS) (nd nx nt:Nat):aa:=Sk [.cells 126 [.int .i64 n,.bA aH l,.int .i64 s.a,.str s.lab,.int .i64 s.kind,.int .i64 s.sz,.int .i64 s.op,.int .i64 s.hint,.br,.own 1 nd,.own 2 nx,.own 3 nt,.int .i64 s.e,.int .i64 s.f],.list 52 Dv s.data 0 false false,.list 50 bW s.x 0 false false,.list 50 bW s.times 0 false false]
def pDt:List Bool:=[true,true,true,false,false]
def ab3:bG:=⟨cG [0] pDt,.none,[]⟩
def jDt (n:Int) (l:List Tok) (r m:Nat) (s:RS) (nd nx nt:Nat):bD:=cK X0 (cN P3 NC _) ab3 r 149 pDt Tb m (fY 45 [(0,.ptr 0 0)]) (mRd n l s nd nx nt)
def jDc (n:Int) (l:List Tok) (r m:Nat) (s:RS) (nd nx nt:Nat):bD:=cK X0 (cN P3 NC _) ab3 r 155 pDt Tb m (fY 38 [(0,.ptr 0 0)]) (mRd n l s nd nx nt)
def exT (n:Int) (l:List Tok) (s:RS) (nd nx nt:Nat) (go:List Nd->Int->bD):bD :=
 pick2 (Nat.ble l.length 1000000) (pick2 (!eqI (ak l s.a).2.2.1 0) (ox n l s nd nx nt (ak l s.a).2.2.1 (ak l s.a).2.2.2) (go (ak l s.a).1 (ak l s.a).2.1)) none
def afN (n:Int) (l:List Tok) (J:RS->Nat->bD) (s:RS) (nd nx nt:Nat):bD :=
 (λgo:Dt->Int->bD=>(λex:bD=>pick2 (eqI nd 64) (ox n l s nd nx nt 3 s.a) (pick2 (ltI s.a l.length) (HZ l s.a λy=>pick2 (eqI y.1 3) (HZ l s.a λy=>go (y.2.2.1,[]) (IntKind.wrap .i64 (s.a+1))) ex) ex)) (exT n l s nd nx nt λx a=>go ([],x) a))
  (λd a=>pick2 (Nat.ble (s.data.length+1) 1000000) (pick2 (eqI a l.length) (U3 true n l { s with a:=a,data:=s.data++[d] } (s.data.length+1) nx nt)
   (isN l a 4 [44] (ox n l { s with a:=a,data:=s.data++[d] } (s.data.length+1) nx nt 4 a) (J { s with a:=IntKind.wrap .i64 (a+1),data:=s.data++[d] } (s.data.length+1)))) none)
def afO (n:Int) (l:List Tok) (J:RS->Nat->bD) (s:RS) (nd nx nt:Nat):bD :=
 pick2 (eqI nd 3) (ox n l s nd nx nt 3 s.a) (exT n l s nd nx nt λx a=>pick2 (Nat.ble (s.data.length+1) 1000000)
  ((
   λcm:bD=>pick2 (eqI a l.length) (pick2 (ltI 1 ((s.data.length+1:Nat):Int)) (U3 true n l { s with a:=a,data:=s.data++[([],x)] } (s.data.length+1) nx nt) cm) cm)
   (isN l a 4 [44] (ox n l { s with a:=a,data:=s.data++[([],x)] } (s.data.length+1) nx nt 4 a) (J { s with a:=IntKind.wrap .i64 (a+1),data:=s.data++[([],x)] } (s.data.length+1)))) none)
end
end Go.Proofs.YtpaddkkfefgkfaaGreatDoor.ps

namespace Go.Tv
open Go.Ev
noncomputable section
variable {β:Type}
def ajN (X:cY) (call:aU β) (an:bG) (rounds:Nat) (id:FuncId) (p q:List Bool) (k:AV->aa->Option β) (K:ck->aa->Option β) (f:ck) (H:aa):Option β :=
 match X.P.funcs[id]? with
 |
  some fn=>match fn.body with
  |some c=>lU X call an.tr (nO X call an.tr an.ja rounds rounds) rounds (WX (vk c p) q) (Jr (wq an.Ki p)) f H (CK (λf H=>Ex (wq (wq an.Ki p) q) f H K) (nP X fn k))
  |none=>none
 |none=>none
end
end Go.Tv

namespace Go.Proofs.YtpaddkkfefgkfaaGreatDoor.ps
open Go.Tv Go.Ev Go.Px Go.Pp Go.Proofs.YtpaddkkfefgkfaaGreatDoor.ex
set_option maxRecDepth 100000
noncomputable section
def sj (n:Int) (l:List Tok) (r:Bool×RS):bD:=U3 r.1 n l r.2 r.2.data.length r.2.x.length r.2.times.length
def exD (n:Int) (l:List Tok) (s:RS) (go:List Nd->Int->Bool×RS):Bool×RS :=
 if (ak l s.a).2.2.1≠0 then nj n l s (ak l s.a).2.2.1 (ak l s.a).2.2.2 else go (ak l s.a).1 (ak l s.a).2.1
def XV (n:Int) (l:List Tok) (fin:Bool) (J:RS->Bool×RS) (s:RS):Bool×RS :=
 if s.a=l.length/\fin=true then (true,s) else if aN l s.a [44]=true then J { s with a:=s.a+1 } else nj n l s 4 s.a
def XW (l:List Tok) (a:Int):Option (List UInt8):=match at? l a with
 |some t=>if t.1=3 then some t.2.2.1 else none
 |none=>none
def dtF (n:Int) (l:List Tok):Nat->RS->Bool×RS
 |0,s=>(false,s)
 |
  m+1,s=>if s.data.length=64 then nj n l s 3 s.a else match XW l s.a with
  |some t=>XV n l true (dtF n l m) { s with a:=s.a+1,data:=s.data++[(t,[])] }
  |none=>exD n l s λx e=>XV n l true (dtF n l m) { s with a:=e,data:=s.data++[([],x)] }
def dcF (n:Int) (l:List Tok):Nat->RS->Bool×RS
 |0,s=>(false,s)
 |m+1,s=>if s.data.length=3 then nj n l s 3 s.a else exD n l s λx e=>XV n l (ltI 1 ((s.data.length+1:Nat):Int)) (dcF n l m) { s with a:=e,data:=s.data++[([],x)] }
section
variable {n:Int} {l:List Tok}
end
def vG (l:List Tok) (a:Int):List UInt8:=match at? l a with
 |some t=>t.2.2.1
 |none=>[]
def inL (l:List Tok) (a:Int):Bool:=Nat.ble l.length 200000 && !ltI a 0&&ltI a l.length
def PB (n:Int) (l:List Tok) (s:RS):Bool×RS:=dtF n l 70 { s with a:=s.a+1,kind:=2,sz:=zu (vG l s.a) }
def XX (n:Int) (l:List Tok) (s:RS):Bool×RS:=dcF n l 70 { s with a:=s.a+1,kind:=9 }
def FDt:FRd:=λn l s=>some (inL l s.a&&(!ltI (vG l s.a).length 1&&Nat.ble (vG l s.a).length 1000000),PB n l s)
def FDc:FRd:=λn l s=>some (inL l s.a,XX n l s)
def ND:List jo:=(149,cRd FDt)::(155,cRd FDc)::NC
end
end Go.Proofs.YtpaddkkfefgkfaaGreatDoor.ps

namespace Go.Proofs.YtpaddkkfefgkfaaGreatDoor.ps
open Go.Tv Go.Ev Go.Px Go.Pp Go.Proofs.YtpaddkkfefgkfaaGreatDoor.ex
set_option maxRecDepth 100000
noncomputable section
end
end Go.Proofs.YtpaddkkfefgkfaaGreatDoor.ps

namespace Go.Proofs.YtpaddkkfefgkfaaGreatDoor.ps
open Go.Tv Go.Ev Go.Px Go.Pp Go.Proofs.YtpaddkkfefgkfaaGreatDoor.ex
set_option maxRecDepth 100000
def zt (t:Tok):Tok:=(t.1,t.2.1,t.2.2.1,0)
def zl (l:List Tok):List Tok:=l.map zt
theorem p7 (l:List Tok):(zl l).length=l.length:=by simp[zl]
theorem mb (l:List Tok) (i:Int):at? (zl l) i=(at? l i).map zt:=by
 cases i with
 |ofNat n=>simp[at?,zl]
 |negSucc n=>rfl
section
variable {nm:List UInt8->Bool} {l:List Tok}
theorem XY (rec:Int->St->iD) (st:St) (k:St->iD):jW nm (zl l) rec st k=jW nm l rec st k:=by
 unfold jW
 rw[mb]
 cases at? l st.a with
 |none=>rfl
 |
  some t =>
  simp only[Option.map_some];have e1:tU nm (zt t)=tU nm t:=rfl;have e2:pref (zt t)=pref t:=rfl;have e3:dO (zt t) [40]=dO t [40]:=rfl;rw[e1,e2,e3];cases tU nm t with
  |some n=>rfl
  |
   none =>
   cases pref t with
   |some op=>rfl
   |
    none =>
    simp only;by_cases h:dO t [40]=true
    .
     rw[if_pos h,if_pos h];refine congrArg (ov st) (funext λs1=>congrArg (LK (rec 1 s1)) (funext λs2=>?_))
     rw[mb];cases at? l s2.a<;>rfl
    rw[if_neg h,if_neg h]
theorem PC (rec:Int->St->iD) (str:Int):∀n:Nat,eO (zl l) rec str n=eO l rec str n
 |0=>rfl
 |
  n+1=>by
  funext st
  unfold eO;rw[mb,PC rec str n];cases at? l st.a with
  |none=>rfl
  |some t=>rfl
theorem JI:∀k:Nat,bf nm (zl l) k=bf nm l k
 |0=>rfl
 |
  k+1=>by
  funext str st
  show jW nm (zl l) (bf nm (zl l) k) st (eO (zl l) (bf nm (zl l) k) str ((zl l).length+1))=jW nm l (bf nm l k) st (eO l (bf nm l k) str (l.length+1));rw[JI k,p7,XY,PC]
theorem Tc (a:Int):iO nm (zl l) a=iO nm l a:=by
 unfold iO
 rw[p7,JI]
end
theorem zw (l:List Tok) (a:Int):ak (zl l) a=ak l a:=by unfold ak;rw[Tc]
def zS (s:TS):TS:={ s with put:=zl s.put }
def zO (o:js):js:=(o.1,o.2.1,o.2.2.1,zS o.2.2.2)
theorem sx (a b:List Tok):zl (a++b)=zl a++zl b:=by simp[zl]
theorem zx (s:List UInt8):zl [oF s]=[oF s]:=rfl
theorem ab4 (l:List Tok) (a b:Int):zi (zl l) a b=zl (zi l a b):=by
 unfold zi zl
 rw[List.map_take,List.map_drop]
theorem nV (l:List Tok) (a:Int) (s:List UInt8):aN (zl l) a s=aN l a s:=by
 unfold aN
 rw[mb]
 cases at? l a<;>rfl
theorem Dw (l:List Tok) (sg:List UInt8) (a b:Int) (s:TS):iP (zl l) sg a b (zS s)=zO (iP l sg a b s):=by
 unfold iP okO zO zS
 simp only
 have hp:(zl s.put≠[])↔s.put≠[]:=by unfold zl;simp
 rw[ab4]
 by_cases h:sg=[45]\/s.put≠[]
 .
  rw[if_pos h,if_pos (h.imp id hp.2),sx,sx,sx,sx,zx,zx,zx]
 rw[if_neg h,if_neg (λq=>h (q.imp id hp.1)),sx,sx,sx,zx,zx]
theorem JJ (sg:List UInt8) (r:Rg) (a:Int) (s:TS):fH sg r a (zS s)=zO (fH sg r a s):=by
 unfold fH
 show (if sg=[45] then ee (zS s) 2 a else if s.bc=0/\s.bn=0 then _ else if s.ic=0/\s.ix=0 then _ else _)=_
 repeat' split
 all_goals rfl
theorem PD (sg:List UInt8) (r:Rg) (a num n:Int) (s:TS):dB sg r a num n (zS s)=zO (dB sg r a num n s):=by
 unfold dB
 show (if sg=[45]\/¬(s.ic=0/\s.ix=0) then ee (zS s) 2 a else if cO n=true then _ else _)=_
 repeat' split
 all_goals rfl
theorem PE (t:Tok):dZ rp (zt t)=dZ rp t:=rfl
theorem ab5 (l:List Tok) (sg:List UInt8) (a b:Int) (s:TS):dR rp (zl l) sg a b (zS s)=zO (dR rp l sg a b s):=by
 unfold dR
 by_cases h0:b-a=0
 .
  rw[if_pos h0,if_pos h0];rfl
 rw[if_neg h0,if_neg h0]
 by_cases h1:b-a=1
 .
  rw[if_pos h1,if_pos h1,mb];cases at? l a with
  |none=>rfl
  |
   some t =>
   simp only[Option.map_some];have e1:dY (zt t) [114,105,112]=dY t [114,105,112]:=rfl;rw[e1,PE];by_cases h2:dY t [114,105,112]=true
   .
    rw[if_pos h2,if_pos h2,JJ]
   rw[if_neg h2,if_neg h2];cases dZ rp t with
   |some r=>exact JJ _ _ _ _
   |none=>exact Dw _ _ _ _ _
 rw[if_neg h1,if_neg h1,nV]
 by_cases h3:b-a=3/\aN l (a+1) [42]=true
 .
  rw[if_pos h3,if_pos h3,mb,mb];cases at? l a with
  |none=>rfl
  |
   some t =>
   cases at? l (a+2) with
   |none=>rfl
   |
    some u =>
    simp only[Option.map_some];rw[PE,PE];have e1:(zt t).1=t.1:=rfl;have e2:(zt u).1=u.1:=rfl;have e3:(zt t).2.1=t.2.1:=rfl;have e4:(zt u).2.1=u.2.1:=rfl;rw[e1,e2,e3,e4,Dw];cases dZ rp t<;>cases dZ rp u<;>simp only<;>(repeat' split)<;>first|rfl|exact PD _ _ _ _ _ _
 rw[if_neg h3,if_neg h3];exact Dw _ _ _ _ _
theorem xx (e:Int):∀(r:List Tok) (p:Tok) (a d:Int),cP e (zt p) (zl r) a d=cP e p r a d
 |[],_,_,_=>rfl
 |
  t::r,p,a,d=>by
  show cP e (zt p) (zt t::zl r) a d=_;unfold cP;rw[xx e r t,xx e r t,xx e r t];rfl
theorem Td (l:List Tok) (a e:Int):bx (zl l) a e=bx l a e:=by
 unfold bx
 rw[mb]
 have h1:((at? l (a-1)).map zt).getD zh=zt ((at? l (a-1)).getD zh):=by cases at? l (a-1)<;>rfl
 have h2:((zl l).take e.toNat).drop a.toNat=zl ((l.take e.toNat).drop a.toNat):=by unfold zl;rw[List.map_drop,List.map_take]
 rw[h1,h2,xx]
theorem uh:∀(r:List Tok) (a d:Int),dK (zl r) a d=dK r a d
 |[],_,_=>rfl
 |
  t::r,a,d=>by
  show dK (zt t::zl r) a d=_;unfold dK;rw[uh r,uh r,uh r];rfl
theorem PF (l:List Tok) (a:Int):dA (zl l) a=dA l a:=by
 unfold dA
 rw[show (zl l).drop a.toNat=zl (l.drop a.toNat) by unfold zl;rw[List.map_drop],uh]
theorem H7 (l:List Tok) (e:Int):∀(n:Nat) (sg:List UInt8) (a:Int) (s:TS),Pp.gw rp (zl l) e n sg a (zS s)=(Pp.gw rp l e n sg a s).map zO
 |0,_,_,_=>rfl
 |
  n+1,sg,a,s=>by
  unfold Pp.gw;rw[Td,ab5,mb];cases h:dR rp l sg a (bx l a e) s with
  |
   mk b q =>
   obtain ⟨x,f,s'⟩:=q;cases b with
   |false=>rfl
   |
    true =>
    show (if bx l a e=e then _ else _)=_;by_cases h1:bx l a e=e
    .
     rw[if_pos h1];simp only;rw[if_pos h1];rfl
    rw[if_neg h1];simp only;rw[if_neg h1];cases at? l (bx l a e) with
    |none=>rfl
    |some t=>exact H7 l e n _ _ s'
theorem XZ (l:List Tok) (op en:Int) (s:TS):fI (zl l) op en (zS s)=zO (fI l op en s):=by
 unfold fI
 rw[nV,nV,p7,mb]
 have h1:(((at? l (op+1)).map zt).getD zh).2.2.1=((at? l (op+1)).getD zh).2.2.1:=by cases at? l (op+1)<;>rfl
 have h2:∀r:Option js,(r.map zO).getD (ee (zS s) 0 0)=zO (r.getD (ee s 0 0)):=λr=>by cases r<;>rfl
 rw[h1,H7,H7]
 split<;>exact h2 _
theorem X3 (l:List Tok) (op en sz:Int) (o:js):sv (zl l) op en sz (zO o)=sv l op en sz o:=by
 obtain ⟨b,x,f,s⟩:=o
 unfold sv zO zS
 simp only
 rw[zw,p7]
 have hp:(zl s.put=[])↔s.put=[]:=by unfold zl;simp
 by_cases h:s.put=[]
 .
  rw[if_pos h,if_pos (hp.2 h)];rfl
 rw[if_neg h,if_neg (λq=>h (hp.1 q))];rfl
theorem Te (l:List Tok) (op sz:Int):eY (zl l) op sz=eY l op sz:=by
 unfold eY
 rw[mb,zw,nV,PF,p7]
 have h1:dY (((at? l (op+1)).map zt).getD zh) [114,101,108]=dY ((at? l (op+1)).getD zh) [114,101,108]:=by cases at? l (op+1)<;>rfl
 rw[h1]
 split
 .
  rfl
 cases dA l (op+1) with
 |none=>rfl
 |
  some en =>
  show sv (zl l) op en sz (fI (zl l) op en (zS FD))=_;rw[XZ,X3]
theorem Lp (l:List Tok) (a:Int):aq (zl l) a=aq l a:=by
 unfold aq
 rw[mb,zw,nV,nV,p7]
 simp only[Te]
 cases at? l a<;>rfl
theorem ab6 (l:List Tok) (a:Int):zY (zl l) a=zY l a:=by
 unfold zY
 rw[mb]
 cases at? l a<;>rfl
theorem X4 (l:List Tok) (a:Int):jt (zl l) a=jt l a:=by
 unfold jt
 rw[mb]
 cases at? l (a+1)<;>rfl
theorem U6 (l:List Tok) (op hint:Int):∀(n:Nat) (a:Int) (args:List Raw),zZ (zl l) op hint n a args=zZ l op hint n a args
 |0,_,_=>rfl
 |
  n+1,a,args=>by
  unfold zZ;rw[Lp,nV,p7,U6 l op hint n]
theorem Lq (l:List Tok) (a:Int):aF (zl l) a=aF l a:=by
 unfold aF HY
 rw[ab6,X4,p7,U6]
end Go.Proofs.YtpaddkkfefgkfaaGreatDoor.ps

namespace Go.Proofs.YtpaddkkfefgkfaaGreatDoor.ps
open Go.Tv Go.Ev Go.Px Go.Pp Go.Proofs.YtpaddkkfefgkfaaGreatDoor.ex
set_option maxRecDepth 100000
noncomputable section
abbrev LR:=Bool×RS
def PG (l:List Tok) (a:Int):Option (List UInt8):=match at? l a with
 |some t=>if t.1=1 then some t.2.2.1 else none
 |none=>none
def X5:List UInt8:=[101,113,117]
def X6:List UInt8:=[116,105,109,101,115]
def PJ:List UInt8:=[111,114,103]
def vH:List UInt8:=[115,116,114,117,99]
def JK:List UInt8:=[101,110,100,115,116,114,117,99]
def Dx:List UInt8:=[97,108,105,103,110]
def ab7:List UInt8:=[100,99,120]
def ab8:List (List UInt8):=[[100,98],[100,119],[100,100],[100,113]]
def afQ:List (List UInt8):=[[114,101,115,98],[114,101,115,119],[114,101,115,100],[114,101,115,113]]
section
variable (n:Int) (l:List Tok)
def X7 (i:Int) (s:RS) (k:RS->LR):LR:=match PG l i with
 |none=>nj n l s 4 i
 |some t=>if lt.pF t=true then nj n l s 7 i else k { s with lab:=t }
def X8 (s:RS):LR:=if s.a=l.length then (true,s) else nj n l s 4 s.a
def JL (kind:Int) (s:RS):LR:=exD n l { s with kind:=kind } λx e=>X8 n l { s with kind:=kind,x:=x,a:=e }
def afR (s:RS):LR:=X7 n l 0 s λs=>JL n l 3 { s with a:=2 }
def ab9 (s:RS):LR:=JL n l 8 { s with sz:=zu (vG l s.a),a:=s.a+1 }
def X9 (s:RS):LR:=X7 n l (s.a+1) { s with kind:=6 } λs=>X8 n l { s with a:=s.a+2 }
def acd (s:RS):LR:=X8 n l { s with kind:=7,a:=s.a+1 }
def afS (s:RS):LR:=if (aF l s.a).2.2.2.1≠0 then nj n l s (aF l s.a).2.2.2.1 (aF l s.a).2.2.2.2
 else (true,{ s with kind:=1,op:=(aF l s.a).1,hint:=(aF l s.a).2.1,args:=(aF l s.a).2.2.1 })
def ace (w:List UInt8) (s:RS):LR :=
 if w∈ab8 then PB n l s
 else if w∈afQ then ab9 n l s
 else if w=Dx then JL n l 4 { s with a:=s.a+1 }
 else if w=PJ then JL n l 5 { s with a:=s.a+1 }
 else if w=vH then X9 n l s
 else if w=JK then acd n l s
 else if w=ab7 then XX n l s
 else if (nm.dz w).2=true then afS n l s
 else nj n l s 4 s.a
def afT (w:List UInt8) (rq:Bool) (s:RS):LR :=
 if (w=PJ\/w=vH\/w=JK)/\(rq=true\/s.lab≠[]) then nj n l s 4 s.a
 else if w=Dx/\rq=true then nj n l s 4 s.a
 else ace n l w s
def U7 (rq:Bool) (s:RS):LR :=
 if s.a=l.length then (if rq=true then nj n l s 4 s.a else (true,s))
 else match PG l s.a with
  |none=>nj n l s 4 s.a
  |some w=>afT n l w rq s
def PK (s:RS):LR :=
 if PG l s.a=some X6 then exD n l { s with a:=s.a+1 } λx e=>U7 n l true { s with times:=x,a:=e } else U7 n l false s
def uj (s:RS):LR :=
 if PG l 1=some X5 then afR n l s
 else if (PG l 0).isSome=true/\aN l 1 [58]=true then X7 n l 0 s λs=>PK n l { s with a:=2 }
 else PK n l s
end
def xy:RS:=⟨0,[],0,0,0,0,[],[],[],[],0,0⟩
def qa (s:List UInt8):RS×Int×Int :=
 if (lt.bM s).2.1≠0 then (xy,(lt.bM s).2.1,(lt.bM s).2.2)
 else if (uj s.length (lt.bM s).1 xy).1=true then ((uj s.length (lt.bM s).1 xy).2,0,0)
 else (xy,(uj s.length (lt.bM s).1 xy).2.e,(uj s.length (lt.bM s).1 xy).2.f)
def zR (r:LR):LR:=(r.1,{ r.2 with f:=0 })
section
variable {n n':Int} {l:List Tok}
end
end
end Go.Proofs.YtpaddkkfefgkfaaGreatDoor.ps

/- Lines: what a reader has; pieces of data. A function from one place of its code to a later one. Lines: data, powers: contracts. Lines: where the faults of instructions are. What is read hangs not on where tokens stand: expressions, operands, instructions. Lines: what reading one comes to. -/
import Derived.Test.YtfggompceldfgaaGreatDoorGre
import Derived.Test.YtfggompceldfgaaGreatDoorLyg
set_option linter.unusedVariables false
set_option linter.unusedSimpArgs false

namespace Go.Proofs.YtfggompceldfgaaGreatDoor.ps
open Go.Tv Go.Ev Go.Px Go.Pp Go.Proofs.YtfggompceldfgaaGreatDoor.ex
set_option maxRecDepth 100000
noncomputable section
abbrev Dt:=List UInt8×List Nd
abbrev EX:Tv.Ty:=.pair .str (.sl fL)
structure RS where
 a:Int
 lab:List UInt8
 aC:Int
 sz:Int
 op:Int
 aL:Int
 args:List Raw
 data:List Dt
 x:List Nd
 ai:List Nd
 e:Int
 f:Int
def acK (n:Int)(l:List Tok)(s:RS)(A:AV):List fK:=[.val (.int .i64 n),.val (.dW dJ l),.val (.int .i64 s.a),.val (.str s.lab),.val (.int .i64 s.aC),.val (.int .i64 s.sz),.val (.int .i64 s.op),.val (.int .i64 s.aL),.val A,.list 158 EX s.data,.list 89 fL s.x,.list 89 fL s.ai,.val (.int .i64 s.e),.val (.int .i64 s.f)]
abbrev G9 (n:Int)(l:List Tok)(s:RS):List fK:=acK n l s .dg
abbrev afv (n:Int)(l:List Tok)(s:RS):List fK:=acK n l s (.dW nu s.args)
def akm:List (Option (TypeId×Tv.Ty)):=[none,none,none,none,none,none,none,none,none,some (158,EX),some (89,fL),some (89,fL),none,none]
def akn:List (Option Tv.Ty):=[none,none,none,none,none,none,none,none,some nu]
abbrev FRd:=Int->List Tok->RS->Option (Bool×Bool×RS)
def gRd (F:FRd)(ins:List fK):Option (Bool×List fK×List fK) :=
 match ins with
 |[.val (.int .i64 n),.val (.dW e0 l0),.val (.int .i64 a),.val (.str lab),.val (.int .i64 aC),.val (.int .i64 sz),.val (.int .i64 op),.val (.int .i64 aL),.val .dg,.list t1 e1 d,.list t2 e2 x,.list t3 e3 tm,.val (.int .i64 e),.val (.int .i64 f)] =>
  match iq e0 dJ l0,iq e1 EX d,iq e2 fL x,iq e3 fL tm with
  |some l,some d,some x,some tm=>match F n l ⟨a,lab,aC,sz,op,aL,[],d,x,tm,e,f⟩ with
   |some (c,b,s')=>some (c&&(Nat.beq t1 158&&Nat.beq t2 89&&Nat.beq t3 89&&d.isEmpty&&x.isEmpty),afv n l s',[.val (.bool b)])
   |none=>none
  |_,_,_,_=>none
 |_=>none
def cRd (F:FRd):FO:=⟨some (77,akm),[],gRd F⟩
theorem aao {F:FRd}{ins outs rs:List fK}(h:gRd F ins=some (true,outs,rs)):∃n l s b s',ins=G9 n l s/\s.args=[]/\s.data=[]/\s.x=[]/\F n l s=some (true,b,s')/\outs=afv n l s'/\rs=[.val (.bool b)]:=by
 unfold gRd at h;split at h;case h_2=>cases h
 rename_i n e0 l0 a lab aC sz op aL t1 e1 d t2 e2 x t3 e3 tm e f;split at h;case h_2=>cases h
 rename_i l d' x' tm' h0 h1 h2 h3;split at h;case h_2=>cases h
 rename_i c b s' hF;simp only[aq,ax,ak]at h;obtain⟨⟨hc,⟨⟨⟨g1,g2⟩,g3⟩,g4⟩,g5⟩,rfl,rfl⟩:=h;subst hc;obtain rfl:=aZ g1;obtain rfl:=aZ g2;obtain rfl:=aZ g3;obtain⟨rfl,h0⟩:=bT h0;obtain⟨rfl,h1⟩:=bT h1;obtain⟨rfl,h2⟩:=bT h2;obtain⟨rfl,h3⟩:=bT h3;have h0:l0=l:=h0;have h1:d=d':=h1;have h2:x=x':=h2;have h3:tm=tm':=h3;subst h0;subst h1;subst h2;subst h3;have hd:d=[]:=gQ.1 g4
 have hx:x=[]:=gQ.1 g5;subst hd;subst hx;exact⟨n,l0,⟨a,lab,aC,sz,op,aL,[],[],[],tm,e,f⟩,b,s',rfl,rfl,rfl,rfl,hF,rfl,rfl⟩
abbrev xZ:AV->aH->dV:=Wp 77 akn akm [none]
def EY (b:Bool)(n:Int)(l:List Tok)(s:RS)(nd nx nt:Nat):dV:=some (afv n l s++[.val (.bool b)],[nd,nx,nt])
theorem OJ {id:FuncId}(hk:lt.inl id=true){M:List xX}{N:List rL}(hM:jx X0 gW M)(hN:js X0 gW N){F:FRd}
 (h:∀n l s b s',s.args=[]->s.data=[]->s.x=[]->F n l s=some (true,b,s')->∃(an:eD) (rounds:Nat),aT X0 (cN M N _) an rounds id [.ptr 0 0] (jg 77 14 (G9 n l s)) xZ=EY b n l s' s'.data.length s'.x.length s'.ai.length) :
 iB X0 gW id (cRd F) :=
 Wq (nk hk) (kA hM hN) akn (tO:=[none]) λins outs rs hg hl=>by
  obtain⟨n,l,s,b,s',rfl,h1,h2,h3,hF,rfl,rfl⟩:=aao hg;obtain⟨an,rounds,hrun⟩:=h n l s b s' h1 h2 h3 hF;exact⟨an,rounds,_,hrun,rfl⟩
section
variable (n:Int) (l:List Tok)
def acL (i:Int):Int:=match at? l i with
 |some t=>t.2.2.2
 |none=>n
def gJ (s:RS)(e i:Int):Bool×RS:=(false,{ s with e:=e,f:=acL n l i })
def x5 (i:Int)(k:Tok->dV):dV:=Option.rec (motive:=λ_=>dV) none k (dX l i)
def nv (s:RS)(nd nx nt:Nat)(e i:Int):dV:=ah (bB i l.length) (x5 l i λy=>EY false n l { s with e:=e,f:=y.2.2.2 } nd nx nt) (EY false n l { s with e:=e,f:=n } nd nx nt)
def isN (a k:Int)(t:List UInt8)(no yes:dV):dV:=ah (bB a l.length) (x5 l a λy=>ah (bI y.1 k) (x5 l a λy=>ah (!decide (y.2.2.1=t)) no yes) no) no
end
def Good (r:mO):Prop:=∀b st,r=some (b,st)->(b=true->0<=st.a)/\(b=false->0<=st.f)
theorem rX {st:St}{e f:Int}(h:0<=f):Good (Ai st e f):=λb s hs=>by
 cases hs;exact⟨λh=>(by cases h),λ_=>h⟩
theorem BN {st:St}{n:Nd}{f:Int}{k:St->mO}(hf:0<=f) (hk:Good (k { st with x:=st.x++[n] })):Good (sF st n f k):=by
 unfold sF;split
 .exact rX hf
 exact hk
theorem He {st:St}{k:St->mO}(hf:0<=st.a) (hk:Good (k { st with d:=st.d+1,a:=st.a+1 })):Good (sG st k):=by
 unfold sG;split
 .exact rX hf
 exact hk
theorem Jm {r:mO}{k:St->mO}(hr:Good r)(hk:∀s,0<=s.a->Good (k s)):Good (Ol r k):=by
 unfold Ol;split
 .rename_i st;exact hk st ((hr true st rfl).1 rfl)
 .rename_i st;intro b s hs;cases hs;exact⟨λh=>(by cases h),λ_=>(hr false st rfl).2 rfl⟩
 intro b s hs;cases hs
theorem SH {l:List Tok}{rec:Int->St->mO}{k:St->mO}(hrec:∀s st,0<=st.a->Good (rec s st))(hk:∀s,0<=s.a->Good (k s)){st:St}(h:0<=st.a):Good (ri bX l rec st k):=by
 have h1:0<=st.a+1:=by omega
 unfold ri;split
 .exact rX h
 split
 .exact BN h (hk _ h1)
 split
 .refine He h (Jm (hrec _ _ h1) λs hs=>?_);split
  .exact hk _ hs
  exact BN h (hk _ hs)
 split
 .refine He h (Jm (hrec _ _ h1) λs hs=>?_);split
  .exact rX hs
  split
  .exact hk _ (by show 0<=s.a+1;omega)
  exact rX hs
 exact rX h
theorem Hg {l:List Tok}{rec:Int->St->mO}(hrec:∀s st,0<=st.a->Good (rec s st))(str:Int):∀(n:Nat) (st:St),0<=st.a->Good (mj l rec str n st)
 |0,st,h=>λb s hs=>by cases hs
 |n+1,st,h=>by
  have ok:Good (some (true,st)):=λb s hs=>by
   cases hs;exact⟨λ_=>h,λh=>(by cases h)⟩
  unfold mj;split
  .exact ok
  split
  .exact ok
  exact Jm (hrec _ _ (by show 0<=st.a+1;omega)) λs hs=>BN h (Hg hrec str n _ hs)
theorem zb (l:List Tok):∀(k:Nat) (str:Int) (st:St),0<=st.a->Good (eK bX l k str st)
 |0,_,_,_=>λb s hs=>by cases hs
 |k+1,str,st,h=>SH (zb l k) (Hg (zb l k) str _) h
theorem EZ (l:List Tok)(a:Int):0<=(bq l a).2.2.2:=by
 obtain⟨r,hr⟩:=vl (nm:=bX) l a;have e1:bq l a=r:=by unfold bq;rw[hr];rfl
 rw[e1];unfold qc at hr;split at hr
 .cases hr;exact bx 0
 rename_i h0;split at hr
 .cases hr;exact bx 0
 .rename_i st hc;cases hr;exact(zb l _ 1 ⟨a,0,[],0,0⟩ (by show 0<=a;omega) false st hc).2 rfl
 cases hr
section
variable {n:Int} {l:List Tok}
theorem wX {s:RS}{nd nx nt:Nat}{e i:Int}(h:0<=i):nv n l s nd nx nt e i=EY false n l (gJ n l s e i).2 nd nx nt:=by
 unfold nv gJ acL x5;rw[cG,getI_at?];cases jw:at? l i with
 |none=>have:=jt h jw;rw[aa (by omega)]
 |some t=>rw[ag (jh jw).2]
theorem afz {a:Int}{t:List UInt8}{no yes:dV}(h:0<=a):isN l a 4 t no yes=if dF l a t=true then yes else no:=by
 unfold isN x5 dF;rw[cG,getI_at?];cases jw:at? l a with
 |none=>have:=jt h jw;rw[aa (by omega)];rfl
 |some c =>
  rw[ag (jh jw).2];show ah (bI c.1 4) (ah (!decide (c.2.2.1=t)) no yes) no=if pJ c t=true then yes else no;rw[Jb];cases bI c.1 4<;>cases decide (c.2.2.1=t)<;>rfl
end
def rq (s:List UInt8):Int:=match dX s ((s.length:Int)-1) with
 |some c=>if cU c=98 then 1 else if cU c=119 then 2 else if cU c=100 then 4 else 8
 |none=>8
def gSz (args:List AV):Option (Bool×List fN) :=
 match args with
 |[.str s]=>some (!bB s.length 1&&Nat.ble s.length 2000000,[.val (.int .i64 (rq s))])
 |_=>none
theorem afA:dh X0 gW 126 gSz :=
 dA (nk rfl) (kA Cp n0) λargs rs hg=>by
  unfold gSz at hg;split at hg
  .rename_i s;simp only[aq,ax,ak,aS]at hg;obtain⟨⟨g0,g1⟩,rfl⟩:=hg;have g0:=I9 g0;have g1:=az g1;refine⟨[.int .i64 (rq s)],ia,5,?_,rfl,rfl⟩;have h:aT X0 (cN P2 [] AV) ia 5 126 [.str s] aH.empty (λv _=>some v)=Option.rec (motive:=λ_=>Option AV) none (λc=>ah (bI (cU c) 98) (some (.int .i64 1)) (ah (bI (cU c) 119) (some (.int .i64 2)) (ah (bI (cU c) 100) (some (.int .i64 4)) (some (.int .i64 8))))) (dX s (IntKind.wrap .i64 (s.length-1))):=by kernel_rfl
   rw[h,i64_in (n:=(s.length:Int)-1) (by omega) (by omega)];unfold rq;cases hc:dX s ((s.length:Int)-1) with
   |none =>
    rw[getI_at?]at hc;have:=jt (by omega) hc;omega
   |some c =>
    simp only[ck];by_cases h1:cU c=98
    .rw[ag h1,ag h1];rfl
    rw[aa h1,aa h1];by_cases h2:cU c=119
    .rw[ag h2,ag h2];rfl
    rw[aa h2,aa h2];by_cases h3:cU c=100
    .rw[ag h3,ag h3];rfl
    rw[aa h3,aa h3];rfl
  cases hg
def P3:List xX:=(126,[none],gSz)::P2
theorem Qz:jx X0 gW P3:=.cons afA Cp
def Hh (n:Int)(l:List Tok)(s:RS)(nd nx nt:Nat):aH:=ZX [.cells 77 [.int .i64 n,.dW dJ l,.int .i64 s.a,.str s.lab,.int .i64 s.aC,.int .i64 s.sz,.int .i64 s.op,.int .i64 s.aL,.dg,.own 1 nd,.own 2 nx,.own 3 nt,.int .i64 s.e,.int .i64 s.f],.list 158 EX s.data 0 false false,.list 89 fL s.x 0 false false,.list 89 fL s.ai 0 false false]
def pDt:List Bool:=[true,true,true,false,false]
def SI:eD:=⟨gZ [0] pDt,.none,[]⟩
def jDt (n:Int)(l:List Tok)(r m:Nat)(s:RS)(nd nx nt:Nat):dV:=jf X0 (cN P3 NC _) SI r 84 pDt xZ m (lz 45 [(0,.ptr 0 0)]) (Hh n l s nd nx nt)
def jDc (n:Int)(l:List Tok)(r m:Nat)(s:RS)(nd nx nt:Nat):dV:=jf X0 (cN P3 NC _) SI r 90 pDt xZ m (lz 38 [(0,.ptr 0 0)]) (Hh n l s nd nx nt)
def exT (n:Int)(l:List Tok)(s:RS)(nd nx nt:Nat)(go:List Nd->Int->dV):dV :=
 ah (Nat.ble l.length 2000000) (ah (!bI (bq l s.a).2.2.1 0) (nv n l s nd nx nt (bq l s.a).2.2.1 (bq l s.a).2.2.2) (go (bq l s.a).1 (bq l s.a).2.1)) none
def WH (n:Int)(l:List Tok)(J:RS->Nat->dV)(s:RS)(nd nx nt:Nat):dV :=
 (λgo:Dt->Int->dV=>(λex:dV=>ah (bI nd 64) (nv n l s nd nx nt 3 s.a) (ah (bB s.a l.length) (x5 l s.a λy=>ah (bI y.1 3) (x5 l s.a λy=>go (y.2.2.1,[]) (IntKind.wrap .i64 (s.a+1))) ex) ex)) (exT n l s nd nx nt λx a=>go ([],x) a))
  (λd a=>ah (Nat.ble (s.data.length+1) 2000000) (ah (bI a l.length) (EY true n l { s with a:=a,data:=s.data++[d] } (s.data.length+1) nx nt)
   (isN l a 4 [44] (nv n l { s with a:=a,data:=s.data++[d] } (s.data.length+1) nx nt 4 a) (J { s with a:=IntKind.wrap .i64 (a+1),data:=s.data++[d] } (s.data.length+1)))) none)
theorem afD (n:Int)(l:List Tok)(r m:Nat)(a:Int)(lab:List UInt8)(aC sz op aL:Int)(data:List Dt)(x ai:List Nd)(e f:Int)(nd nx nt:Nat) :
 jDt n l r (m+1) ⟨a,lab,aC,sz,op,aL,[],data,x,ai,e,f⟩ nd nx nt=WH n l (λs nd=>jDt n l r m s nd nx nt) ⟨a,lab,aC,sz,op,aL,[],data,x,ai,e,f⟩ nd nx nt:=by kernel_rfl
def WI (n:Int)(l:List Tok)(J:RS->Nat->dV)(s:RS)(nd nx nt:Nat):dV :=
 ah (bI nd 3) (nv n l s nd nx nt 3 s.a) (exT n l s nd nx nt λx a=>ah (Nat.ble (s.data.length+1) 2000000)
  ((
   λcm:dV=>ah (bI a l.length) (ah (bB 1 ((s.data.length+1:Nat):Int)) (EY true n l { s with a:=a,data:=s.data++[([],x)] } (s.data.length+1) nx nt) cm) cm)
   (isN l a 4 [44] (nv n l { s with a:=a,data:=s.data++[([],x)] } (s.data.length+1) nx nt 4 a) (J { s with a:=IntKind.wrap .i64 (a+1),data:=s.data++[([],x)] } (s.data.length+1)))) none)
theorem afE (n:Int)(l:List Tok)(r m:Nat)(a:Int)(lab:List UInt8)(aC sz op aL:Int)(data:List Dt)(x ai:List Nd)(e f:Int)(nd nx nt:Nat) :
 jDc n l r (m+1) ⟨a,lab,aC,sz,op,aL,[],data,x,ai,e,f⟩ nd nx nt=WI n l (λs nd=>jDc n l r m s nd nx nt) ⟨a,lab,aC,sz,op,aL,[],data,x,ai,e,f⟩ nd nx nt:=by kernel_rfl
theorem aap (n:Int)(l:List Tok)(r:Nat)(a:Int)(lab:List UInt8)(aC sz op aL:Int)(ai:List Nd)(e f:Int) :
 aT X0 (cN P3 NC _) SI r 84 [.ptr 0 0] (jg 77 14 (G9 n l ⟨a,lab,aC,sz,op,aL,[],[],[],ai,e,f⟩)) xZ =
 x5 l a λy=>ah (!bB y.2.2.1.length 1&&Nat.ble y.2.2.1.length 2000000) (jDt n l r r ⟨IntKind.wrap .i64 (a+1),lab,2,rq y.2.2.1,op,aL,[],[],[],ai,e,f⟩ 0 0 ai.length) none:=by kernel_rfl
theorem aaq (n:Int)(l:List Tok)(r:Nat)(a:Int)(lab:List UInt8)(aC sz op aL:Int)(ai:List Nd)(e f:Int) :
 aT X0 (cN P3 NC _) SI r 90 [.ptr 0 0] (jg 77 14 (G9 n l ⟨a,lab,aC,sz,op,aL,[],[],[],ai,e,f⟩)) xZ =
 jDc n l r r ⟨IntKind.wrap .i64 (a+1),lab,9,sz,op,aL,[],[],[],ai,e,f⟩ 0 0 ai.length:=by kernel_rfl
end
end Go.Proofs.YtfggompceldfgaaGreatDoor.ps
namespace Go.Tv
open Go.Ev
noncomputable section
variable {β:Type}
def OT (X:gU)(call:cI β)(an:eD)(rounds:Nat)(id:FuncId)(p q:List Bool)(k:AV->aH->Option β)(K:fF->aH->Option β)(f:fF)(H:aH):Option β :=
 match X.P.funcs[id]? with
 |some fn=>match fn.body with
  |some c=>gY X call an.tr (ng X call an.tr an.ja rounds rounds) rounds (VS (jL c p) q) (z9 (jX an.C3 p)) f H (xU (λf H=>Cd (jX (jX an.C3 p) q) f H K) (pn X fn k))
  |none=>none
 |none=>none
theorem WR:∀(p q:List Bool) (c:Code),Aa c (p++q)=true->Aa (jL c p) q=true
 |[],_,_,h=>h
 |false::p,q,c,h=>by cases c<;>cases h
 |true::p,q,c,h=>by
  cases c with
  |seq x y=>exact WR p q y h
  |_=>cases h
theorem I6:∀(p q:List Bool) (c:Code),jL c (p++q)=jL (jL c p) q
 |[],_,_=>rfl
 |d::p,q,c=>I6 p q (inside c d)
theorem L7:∀(p q:List Bool) (a:mQ),jX a (p++q)=jX (jX a p) q
 |[],_,_=>rfl
 |d::p,q,a=>L7 p q (ah d a.r a.l)
theorem aas (a:mQ)(d:Bool)(q:List Bool):jX (z9 a) (d::q)=jX a (d::q):=by
 cases a with
 |none=>rfl
 |node o l r=>rfl
theorem WS:∀(p q:List Bool) (c:Code),Aa c (p++q)=true->Aa c p=true
 |[],q,c,h=>by
  cases c with
  |seq x y=>rfl
  |_=>cases q with
   |nil=>cases h
   |cons d q=>cases d<;>cases h
 |false::p,q,c,h=>by cases c<;>cases h
 |true::p,q,c,h=>by
  cases c with
  |seq x y=>exact WS p q y h
  |_=>cases h
theorem ur {X:gU}{call:cI β}{an:eD}{rounds:Nat}{id:FuncId}{p q:List Bool}(hp:Qo X id (p++(true::q))=true)(k:AV->aH->Option β)(f:fF)(H:aH) :
 codeFrom X call an rounds id p k f H=OT X call an rounds id p (true::q) k (codeFrom X call an rounds id (p++(true::q)) k) f H:=by
 unfold Qo at hp;unfold OT;rw[codeFrom];cases hf:X.P.funcs[id]? with
 |none=>rfl
 |some fn =>
  rw[hf]at hp;simp only at hp ⊢;cases hb:fn.body with
  |none=>rfl
  |some c =>
   rw[hb]at hp;simp only at hp ⊢;have h1:=WR p (true::q) c hp;rw[Da X call an.tr _ rounds p c (WS p (true::q) c hp),y6 X call an.tr _ rounds (true::q) (jL c p) h1];have e:(λf H=>gY X call an.tr (ng X call an.tr an.ja rounds rounds) rounds (jL (jL c p) (true::q)) (jX (z9 (jX an.C3 p)) (true::q)) f H (pn X fn k)) =
    λf H=>Cd (jX (jX an.C3 p) (true::q)) f H (codeFrom X call an rounds id (p++(true::q)) k):=by
    funext f H
    rw[aas,BC X call an.tr _ rounds (true::q) (jL c p) h1];congr 1
    funext f H
    unfold codeFrom;rw[hf];simp only;rw[hb];simp only;rw[Da X call an.tr _ rounds (p++(true::q)) c hp,I6,L7]
   rw[e]
end
end Go.Tv
namespace Go.Proofs.YtfggompceldfgaaGreatDoor.ps
open Go.Tv Go.Ev Go.Px Go.Pp Go.Proofs.YtfggompceldfgaaGreatDoor.ex
set_option maxRecDepth 100000
noncomputable section
def eV (n:Int)(l:List Tok)(r:Bool×RS):dV:=EY r.1 n l r.2 r.2.data.length r.2.x.length r.2.ai.length
def JO (n:Int)(l:List Tok)(s:RS)(go:List Nd->Int->Bool×RS):Bool×RS :=
 if (bq l s.a).2.2.1≠0 then gJ n l s (bq l s.a).2.2.1 (bq l s.a).2.2.2 else go (bq l s.a).1 (bq l s.a).2.1
def wY (n:Int)(l:List Tok)(fin:Bool)(J:RS->Bool×RS)(s:RS):Bool×RS :=
 if s.a=l.length/\fin=true then (true,s) else if dF l s.a [44]=true then J { s with a:=s.a+1 } else gJ n l s 4 s.a
def zc (l:List Tok)(a:Int):Option (List UInt8):=match at? l a with
 |some t=>if t.1=3 then some t.2.2.1 else none
 |none=>none
def Jn (n:Int)(l:List Tok):Nat->RS->Bool×RS
 |0,s=>(false,s)
 |m+1,s=>if s.data.length=64 then gJ n l s 3 s.a else match zc l s.a with
  |some t=>wY n l true (Jn n l m) { s with a:=s.a+1,data:=s.data++[(t,[])] }
  |none=>JO n l s λx e=>wY n l true (Jn n l m) { s with a:=e,data:=s.data++[([],x)] }
def Tz (n:Int)(l:List Tok):Nat->RS->Bool×RS
 |0,s=>(false,s)
 |m+1,s=>if s.data.length=3 then gJ n l s 3 s.a else JO n l s λx e=>wY n l (bB 1 ((s.data.length+1:Nat):Int)) (Tz n l m) { s with a:=e,data:=s.data++[([],x)] }
section
variable {n:Int} {l:List Tok}
theorem aar {a:Int}(h0:0<=a)(go:List UInt8->dV)(ex:dV):ah (bB a l.length) (x5 l a λy=>ah (bI y.1 3) (x5 l a λy=>go y.2.2.1) ex) ex=(match zc l a with
 |some t=>go t
 |none=>ex):=by
 unfold x5 zc;rw[cG,getI_at?];cases jw:at? l a with
 |none=>have:=jt h0 jw;rw[aa (by omega)]
 |some c =>
  rw[ag (jh jw).2];show ah (bI c.1 3) (go c.2.2.1) ex=_;rw[ck];by_cases h:c.1=3
  .rw[ag h];simp only;rw[ag h]
  rw[aa h];simp only;rw[aa h]
theorem SJ {a:Int}{t:List UInt8}(h:zc l a=some t):a<l.length:=by
 unfold zc at h;split at h
 .rename_i c hc;exact(jh hc).2
 cases h
theorem afF (hl:l.length<=200000){s:RS}{nd nx nt:Nat}(go:List Nd->Int->dV):exT n l s nd nx nt go=if (bq l s.a).2.2.1≠0 then EY false n l (gJ n l s (bq l s.a).2.2.1 (bq l s.a).2.2.2).2 nd nx nt else go (bq l s.a).1 (bq l s.a).2.1:=by
 unfold exT;rw[ee (show l.length<=2000000 by omega)];show ah (!bI (bq l s.a).2.2.1 0) _ _=_;rw[cX,wX (EZ l s.a)];by_cases h:(bq l s.a).2.2.1=0
 .rw[ag h,aa (show ¬(bq l s.a).2.2.1≠0 from λq=>q h)]
 rw[aa h,ag h]
theorem Jo (hl:l.length<=200000){s:RS}{go:List Nd->Int->dV}{goF:List Nd->Int->Bool×RS}(h:∀x e,s.a<e->e<=l.length->go x e=eV n l (goF x e)) :
 exT n l s s.data.length s.x.length s.ai.length go=eV n l (JO n l s goF):=by
 rw[afF hl];unfold JO;by_cases he:(bq l s.a).2.2.1=0
 .obtain ⟨h1,h2⟩:=uo he;rw[aa (show ¬(bq l s.a).2.2.1≠0 from λq=>q he),aa (show ¬(bq l s.a).2.2.1≠0 from λq=>q he)];exact h _ _ h1 h2
 rw[ag he,ag he];rfl
theorem WJ (hl:l.length<=200000){s:RS}{fin:Bool}{J:RS->dV}{JF:RS->Bool×RS}(h0:0<=s.a)(h1:s.a<=l.length) (ih:s.a<l.length->J { s with a:=s.a+1 }=eV n l (JF { s with a:=s.a+1 })) :
 (λcm:dV=>ah (bI s.a l.length) (ah fin (eV n l (true,s)) cm) cm) (isN l s.a 4 [44] (nv n l s s.data.length s.x.length s.ai.length 4 s.a) (J { s with a:=IntKind.wrap .i64 (s.a+1) }))=eV n l (wY n l fin JF s):=by
 simp only;unfold wY;rw[afz h0,wX h0,i64_in (n:=s.a+1) (by omega) (by omega)];have hcm:(if dF l s.a [44]=true then J { s with a:=s.a+1 } else EY false n l (gJ n l s 4 s.a).2 s.data.length s.x.length s.ai.length)=eV n l (if dF l s.a [44]=true then JF { s with a:=s.a+1 } else gJ n l s 4 s.a):=by
  by_cases hs:dF l s.a [44]=true
  .rw[ag hs,ag hs];obtain⟨c,hc,_⟩:=kg hs;exact ih (jh hc).2
  rw[aa hs,aa hs];rfl
 rw[hcm,ck];by_cases ha:s.a=l.length
 .rw[ag ha];cases fin with
  |true=>rw[ag (show s.a=(l.length:Int)/\true=true from ⟨ha,rfl⟩)]
  |false=>rw[aa (show ¬(s.a=l.length/\false=true) from λh=>by cases h.2)]
 rw[aa ha,aa (show ¬(s.a=l.length/\fin=true) from λh=>ha h.1)]
theorem WK (hl:l.length<=200000){r:Nat}:∀(m:Nat) (s:RS),s.args=[]->0<=s.a->s.a<=l.length->s.data.length<=64->65<=s.data.length+m->jDt n l r m s s.data.length s.x.length s.ai.length=eV n l (Jn n l m s)
 |0,s,_,_,_,h1,h2=>by omega
 |m+1,⟨a,lab,aC,sz,op,aL,args,data,x,ai,e,f⟩,h,h0,h1,h2,h3=>by
  have h:args=[]:=h;subst h;have h0:0<=a:=h0;have h1:a<=l.length:=h1;have h2:data.length<=64:=h2;have h3:65<=data.length+(m+1):=h3;rw[afD];unfold WH Jn;simp only;rw[ee (show data.length+1<=2000000 by omega),ck];by_cases h6:data.length=64
  .rw[ag (show ((data.length:Nat):Int)=64 by omega),ag h6,wX h0];rfl
  rw[aa (show ¬((data.length:Nat):Int)=64 by omega),aa h6];have hgo:∀(d:Dt) (b:Int),a<b->b<=l.length->(ah true (ah (bI b l.length) (EY true n l { a:=b,lab:=lab,aC:=aC,sz:=sz,op:=op,aL:=aL,args:=[],data:=data++[d],x:=x,ai:=ai,e:=e,f:=f } (data.length+1) x.length ai.length)
   (isN l b 4 [44] (nv n l { a:=b,lab:=lab,aC:=aC,sz:=sz,op:=op,aL:=aL,args:=[],data:=data++[d],x:=x,ai:=ai,e:=e,f:=f } (data.length+1) x.length ai.length 4 b)
    (jDt n l r m { a:=IntKind.wrap .i64 (b+1),lab:=lab,aC:=aC,sz:=sz,op:=op,aL:=aL,args:=[],data:=data++[d],x:=x,ai:=ai,e:=e,f:=f } (data.length+1) x.length ai.length))) none) =
   eV n l (wY n l true (Jn n l m) { a:=b,lab:=lab,aC:=aC,sz:=sz,op:=op,aL:=aL,args:=[],data:=data++[d],x:=x,ai:=ai,e:=e,f:=f }):=λd b hb0 xS=>by
   have hlen:(data++[d]).length=data.length+1:=by simp
   have:=WJ (n:=n) hl (s:={ a:=b,lab:=lab,aC:=aC,sz:=sz,op:=op,aL:=aL,args:=[],data:=data++[d],x:=x,ai:=ai,e:=e,f:=f }) (fin:=true) (J:=λs=>jDt n l r m s s.data.length s.x.length s.ai.length) (JF:=Jn n l m) (show 0<=b by omega) xS (λhb=>WK hl m _ rfl (show 0<=b+1 by omega) (show b+1<=l.length by have hb:b<l.length:=hb;omega) (show (data++[d]).length<=64 by omega) (show 65<=(data++[d]).length+m by omega));simp only[hlen]at this;rw[<-this];show ah (bI b l.length) (EY true n l _ (data.length+1) _ _) _=ah (bI b l.length) (EY true n l _ (data++[d]).length _ _) _
   rw[hlen]
  rw[show (IntKind.wrap .i64 (a+1))=a+1 from i64_in (by omega) (by omega)];refine(aar (l:=l) h0 (λt=>ah true (ah (bI (a+1) l.length) (EY true n l { a:=a+1,lab:=lab,aC:=aC,sz:=sz,op:=op,aL:=aL,args:=[],data:=data++[(t,[])],x:=x,ai:=ai,e:=e,f:=f } (data.length+1) x.length ai.length)
   (isN l (a+1) 4 [44] (nv n l { a:=a+1,lab:=lab,aC:=aC,sz:=sz,op:=op,aL:=aL,args:=[],data:=data++[(t,[])],x:=x,ai:=ai,e:=e,f:=f } (data.length+1) x.length ai.length 4 (a+1))
    (jDt n l r m { a:=IntKind.wrap .i64 (a+1+1),lab:=lab,aC:=aC,sz:=sz,op:=op,aL:=aL,args:=[],data:=data++[(t,[])],x:=x,ai:=ai,e:=e,f:=f } (data.length+1) x.length ai.length))) none) _).trans ?_
  cases ht:zc l a with
  |some t=>exact hgo (t,[]) (a+1) (by omega) (by have:=SJ ht;omega)
  |none=>exact Jo (n:=n) hl (s:=⟨a,lab,aC,sz,op,aL,[],data,x,ai,e,f⟩) λx' b hb0 xS=>hgo ([],x') b hb0 xS
theorem WL (hl:l.length<=200000){r:Nat}:∀(m:Nat) (s:RS),s.args=[]->0<=s.a->s.a<=l.length->s.data.length<=3->4<=s.data.length+m->jDc n l r m s s.data.length s.x.length s.ai.length=eV n l (Tz n l m s)
 |0,s,_,_,_,h1,h2=>by omega
 |m+1,⟨a,lab,aC,sz,op,aL,args,data,x,ai,e,f⟩,h,h0,h1,h2,h3=>by
  have h:args=[]:=h;subst h;have h0:0<=a:=h0;have h1:a<=l.length:=h1;have h2:data.length<=3:=h2;have h3:4<=data.length+(m+1):=h3;rw[afE];unfold WI Tz;simp only;rw[ee (show data.length+1<=2000000 by omega),ck];by_cases h6:data.length=3
  .rw[ag (show ((data.length:Nat):Int)=3 by omega),ag h6,wX h0];rfl
  rw[aa (show ¬((data.length:Nat):Int)=3 by omega),aa h6];refine Jo (n:=n) hl (s:=⟨a,lab,aC,sz,op,aL,[],data,x,ai,e,f⟩) λx' b hb0 xS=>?_
  have hlen:(data++[(([],x'):Dt)]).length=data.length+1:=by simp
  have:=WJ (n:=n) hl (s:={ a:=b,lab:=lab,aC:=aC,sz:=sz,op:=op,aL:=aL,args:=[],data:=data++[([],x')],x:=x,ai:=ai,e:=e,f:=f }) (fin:=bB 1 ((data.length+1:Nat):Int)) (J:=λs=>jDc n l r m s s.data.length s.x.length s.ai.length) (JF:=Tz n l m) (show 0<=b by have hb0:a<b:=hb0;omega) xS (λhb=>WL hl m _ rfl (show 0<=b+1 by have hb0:a<b:=hb0;omega) (show b+1<=l.length by have hb:b<l.length:=hb;omega) (show (data++[([],x')]).length<=3 by omega) (show 4<=(data++[([],x')]).length+m by omega))
  simp only[hlen]at this;rw[<-this];show ah (bI b l.length) (ah _ (EY true n l _ (data.length+1) _ _) _) _=ah (bI b l.length) (ah _ (EY true n l _ (data++[([],x')]).length _ _) _) _;rw[hlen]
end
def j4 (l:List Tok)(a:Int):List UInt8:=match at? l a with
 |some t=>t.2.2.1
 |none=>[]
def inL (l:List Tok)(a:Int):Bool:=Nat.ble l.length 200000 && !bB a 0&&bB a l.length
def Ao (n:Int)(l:List Tok)(s:RS):Bool×RS:=Jn n l 70 { s with a:=s.a+1,aC:=2,sz:=rq (j4 l s.a) }
def L3 (n:Int)(l:List Tok)(s:RS):Bool×RS:=Tz n l 70 { s with a:=s.a+1,aC:=9 }
def FDt:FRd:=λn l s=>some (inL l s.a&&(!bB (j4 l s.a).length 1&&Nat.ble (j4 l s.a).length 2000000),Ao n l s)
def FDc:FRd:=λn l s=>some (inL l s.a,L3 n l s)
theorem L4 {l:List Tok}{a:Int}(h:inL l a=true):l.length<=200000/\0<=a/\a<l.length:=by
 unfold inL at h;simp only[ak,aS]at h;have h1:=az h.1.1;have h2:=h.1.2;have h3:=h.2;rw[cB]at h2 h3;refine⟨h1,?_,?_⟩
 .simpa using h2
 simpa using h3
theorem afG:iB X0 gW 84 (cRd FDt) :=
 OJ rfl Qz WG λn l s b s' h1 h2 h3 hF=>by
  obtain⟨a,lab,aC,sz,op,aL,args,data,x,ai,e,f⟩:=s;have h1:args=[]:=h1;have h2:data=[]:=h2;have h3:x=[]:=h3;subst h1;subst h2;subst h3;unfold FDt at hF;simp only[aq,ax,ak,aS]at hF;obtain⟨⟨g1,g2,g3⟩,hF⟩:=hF;obtain⟨g1,g4,g5⟩:=L4 g1;refine⟨SI,70,?_⟩;rw[aap];unfold x5;rw[getI_at?];obtain⟨t,ht⟩:=tq g4 g5;rw[ht];have hw:j4 l a=t.2.2.1:=by unfold j4;rw[ht]
  rw[hw]at g2 g3;show ah (!bB t.2.2.1.length 1&&Nat.ble t.2.2.1.length 2000000) _ _=_;rw[g2,g3,i64_in (n:=a+1) (by omega) (by omega)];have:=WK (n:=n) g1 (r:=70) 70 ⟨a+1,lab,2,rq t.2.2.1,op,aL,[],[],[],ai,e,f⟩ rfl (show 0<=a+1 by omega) (show a+1<=l.length by omega) (by simp) (by simp);refine Eq.trans this ?_;have hd:Ao n l ⟨a,lab,aC,sz,op,aL,[],[],[],ai,e,f⟩=(b,s'):=hF;unfold Ao at hd;simp only[hw]at hd;rw[hd];rfl
theorem afH:iB X0 gW 90 (cRd FDc) :=
 OJ rfl Qz WG λn l s b s' h1 h2 h3 hF=>by
  obtain⟨a,lab,aC,sz,op,aL,args,data,x,ai,e,f⟩:=s;have h1:args=[]:=h1;have h2:data=[]:=h2;have h3:x=[]:=h3;subst h1;subst h2;subst h3;unfold FDc at hF;simp only[aq,ax]at hF;obtain⟨g1,hF⟩:=hF;obtain⟨g1,g4,g5⟩:=L4 g1;refine⟨SI,70,?_⟩;rw[aaq,i64_in (n:=a+1) (by omega) (by omega)];have:=WL (n:=n) g1 (r:=70) 70 ⟨a+1,lab,9,sz,op,aL,[],[],[],ai,e,f⟩ rfl (show 0<=a+1 by omega) (show a+1<=l.length by omega) (by simp) (by simp);refine Eq.trans this ?_
  have hd:L3 n l ⟨a,lab,aC,sz,op,aL,[],[],[],ai,e,f⟩=(b,s'):=hF;unfold L3 at hd;rw[hd];rfl
def ND:List rL:=(84,cRd FDt)::(90,cRd FDc)::NC
theorem acN:js X0 gW ND:=.cons afG (.cons afH WG)
theorem WM {sg:List UInt8}{r:Rg}{a:Int}{s:TS}(h:0<=a):0<=(mG sg r a s).2.2.1:=by
 unfold mG;repeat' split
 all_goals first|exact h|exact bx 0
theorem Hi {sg:List UInt8}{r:Rg}{a num n:Int}{s:TS}(h:0<=a)(h2:0<=num):0<=(iW sg r a num n s).2.2.1:=by
 unfold iW;repeat' split
 all_goals first|exact h|exact h2|exact bx 0
theorem afI {l:List Tok}{sg:List UInt8}{a b:Int}{s:TS}(h:0<=a):0<=(mP rp l sg a b s).2.2.1:=by
 have h2:0<=a+2:=by omega
 unfold mP;repeat' split
 all_goals first|exact h|exact WM h|exact Hi h h2|exact Hi h h|exact bx 0
theorem OK {l:List Tok}{en:Int}(hel:en<l.length):∀(m:Nat) (sg:List UInt8) (a:Int) (s:TS) (o:qL),0<=a->a<=en->Pp.oJ rp l en m sg a s=some o->0<=o.2.2.1
 |0,_,_,_,_,_,_,h=>by cases h
 |m+1,sg,a,s,o,h0,h1,h=>by
  obtain⟨b1,b2⟩:=Am (l:=l) (a:=a) (e:=en) h0 h1 (by omega);have hf:=afI (l:=l) (sg:=sg) (a:=a) (b:=fP l a en) (s:=s) h0;unfold Pp.oJ at h;split at h
  .split at h
   .cases h;exact bx 0
   split at h
   .exact OK hel m _ _ _ o (by omega) (by omega) h
   cases h
  rename_i x f s' hs;cases h;rw[hs]at hf;exact hf
theorem afJ {l:List Tok}{op en:Int}{s:TS}(h0:0<=op)(h1:op+1<=en)(h2:en<l.length)(hc:dF l en [93]=true):0<=(nr l op en s).2.2.1:=by
 obtain⟨ce,hce,YF⟩:=kg hc;have key:∀r:Option qL,(∀o,r=some o->0<=o.2.2.1)->0<=(r.getD (lC s 0 0)).2.2.1:=λr h1=>by
  cases r with
  |none=>exact bx 0
  |some o=>exact h1 o rfl
 unfold nr;refine key _ λo ho=>?_
 split at ho
 .rename_i hsg;have:op+2<=en:=by
   by_cases he:en=op+1
   .exfalso;rw[he]at hce;rcases hsg with h|h<;>(obtain⟨c2,k1,k2⟩:=kg h;rw[hce]at k1;cases k1;rw[ET YF (by decide)]at k2;cases k2)
   omega
  exact OK h2 _ _ _ _ o (by omega) this ho
 exact OK h2 _ _ _ _ o (by omega) h1 ho
theorem L5 {l:List Tok}{op sz:Int}(h0:0<=op)(h1:op<l.length):0<=(oK l op sz).2.2.2:=by
 unfold oK;split
 .split
  .exact EZ _ _
  rename_i he;have he:=dH.1 he;obtain⟨q1,q2⟩:=uo he;split
  .exact bx 0
  show 0<=(bq l (op+2)).2.1;omega
 split
 .show (0:Int)<=l.length;omega
 rename_i en hc;obtain⟨c1,c2,c3⟩:=BM (by omega) (by omega) hc;have hp:=afJ (s:=SF) h0 c1 c2 c3;unfold EU;repeat' split
 all_goals first|exact hp|exact h0|exact bx 0
theorem OM {l:List Tok}{a:Int}:0<=(bC l a).2.2.2:=by
 have LZ:0<=(CJ (bq l a)).2.2.2:=by
  unfold CJ;split
  .exact EZ _ _
  exact bx 0
 unfold bC;split
 .exact bx 0
 split
 .exact LZ
 rename_i t jw;have hlt:=(jh jw).2;split
 .exact bx 0
 split
 .split
  .rename_i hs;obtain⟨c,hc,_⟩:=kg hs;exact L5 (by omega) (jh hc).2
  show 0<=a+1;omega
 split
 .exact L5 (by omega) hlt
 exact LZ
theorem acO {l:List Tok}{op aL:Int}(hl:l.length<=200000):∀(m:Nat) (a:Int) (args:List Raw) (c:Jh),LY l op aL m a args=some c->0<=c.2.2.2.2
 |0,_,_,_,h=>by cases h
 |m+1,a,args,c,h=>by
  unfold LY at h;split at h
  .cases h;exact OM
  rename_i he;have he:=dH.1 he;obtain⟨q0,q1,q2⟩:=Cq hl he;have hp:0<=(bC l a).2.1:=by omega
  split at h
  .cases h;exact bx 0
  split at h
  .cases h;exact hp
  split at h
  .cases h;exact hp
  exact acO hl m _ _ c h
theorem OO {l:List Tok}{a:Int}(hl:l.length<=200000):0<=(ep l a).2.2.2.2:=by
 unfold ep;split
 .exact bx 0
 split
 .show 0<=a;omega
 unfold SG;generalize (if sK l a=0 then a+1 else a+2)=b;by_cases hb:b=(l.length:Int)
 .rw[ag hb];exact bx 0
 rw[aa hb];cases hc:LY l (JN l a).1 (sK l a) 5 b [] with
 |none=>exact bx 0
 |some c=>exact acO hl _ _ _ _ hc
end
end Go.Proofs.YtfggompceldfgaaGreatDoor.ps
namespace Go.Proofs.YtfggompceldfgaaGreatDoor.ps
open Go.Tv Go.Ev Go.Px Go.Pp Go.Proofs.YtfggompceldfgaaGreatDoor.ex
set_option maxRecDepth 100000
section
variable {nm:List UInt8->Bool} {l:List Tok}
end
end Go.Proofs.YtfggompceldfgaaGreatDoor.ps
namespace Go.Proofs.YtfggompceldfgaaGreatDoor.ps
open Go.Tv Go.Ev Go.Px Go.Pp Go.Proofs.YtfggompceldfgaaGreatDoor.ex
set_option maxRecDepth 100000
noncomputable section
abbrev LR:=Bool×RS
def qM (l:List Tok)(a:Int):Option (List UInt8):=match at? l a with
 |some t=>if t.1=1 then some t.2.2.1 else none
 |none=>none
def L6:List UInt8:=[101,113,117]
def E4:List UInt8:=[116,105,109,101,115]
def CL:List UInt8:=[111,114,103]
def qW:List UInt8:=[115,116,114,117,99]
def Ap:List UInt8:=[101,110,100,115,116,114,117,99]
def qf:List UInt8:=[97,108,105,103,110]
def akp:List UInt8:=[100,99,120]
def WN:List (List UInt8):=[[100,98],[100,119],[100,100],[100,113]]
def afK:List (List UInt8):=[[114,101,115,98],[114,101,115,119],[114,101,115,100],[114,101,115,113]]
section
variable (n:Int) (l:List Tok)
def FR (i:Int)(s:RS)(k:RS->LR):LR:=match qM l i with
 |none=>gJ n l s 4 i
 |some t=>if lt.vf t=true then gJ n l s 7 i else k { s with lab:=t }
def BO (s:RS):LR:=if s.a=l.length then (true,s) else gJ n l s 4 s.a
def vF (aC:Int)(s:RS):LR:=JO n l { s with aC:=aC } λx e=>BO n l { s with aC:=aC,x:=x,a:=e }
def aoi (s:RS):LR:=FR n l 0 s λs=>vF n l 3 { s with a:=2 }
def Hl (s:RS):LR:=vF n l 8 { s with sz:=rq (j4 l s.a),a:=s.a+1 }
def OQ (s:RS):LR:=FR n l (s.a+1) { s with aC:=6 } λs=>BO n l { s with a:=s.a+2 }
def WO (s:RS):LR:=BO n l { s with aC:=7,a:=s.a+1 }
def WQ (s:RS):LR:=if (ep l s.a).2.2.2.1≠0 then gJ n l s (ep l s.a).2.2.2.1 (ep l s.a).2.2.2.2
 else (true,{ s with aC:=1,op:=(ep l s.a).1,aL:=(ep l s.a).2.1,args:=(ep l s.a).2.2.1 })
def jR (w:List UInt8)(s:RS):LR :=
 if w∈WN then Ao n l s
 else if w∈afK then Hl n l s
 else if w=qf then vF n l 4 { s with a:=s.a+1 }
 else if w=CL then vF n l 5 { s with a:=s.a+1 }
 else if w=qW then OQ n l s
 else if w=Ap then WO n l s
 else if w=akp then L3 n l s
 else if (nm.lp w).2=true then WQ n l s
 else gJ n l s 4 s.a
def OS (w:List UInt8)(cY:Bool)(s:RS):LR :=
 if (w=CL\/w=qW\/w=Ap)/\(cY=true\/s.lab≠[]) then gJ n l s 4 s.a
 else if w=qf/\cY=true then gJ n l s 4 s.a
 else jR n l w s
def ru (cY:Bool)(s:RS):LR :=
 if s.a=l.length then (if cY=true then gJ n l s 4 s.a else (true,s))
 else match qM l s.a with
  |none=>gJ n l s 4 s.a
  |some w=>OS n l w cY s
def qg (s:RS):LR :=
 if qM l s.a=some E4 then JO n l { s with a:=s.a+1 } λx e=>ru n l true { s with ai:=x,a:=e } else ru n l false s
def pQ (s:RS):LR :=
 if qM l 1=some L6 then aoi n l s
 else if (qM l 0).isSome=true/\dF l 1 [58]=true then FR n l 0 s λs=>qg n l { s with a:=2 }
 else qg n l s
end
def ry:RS:=⟨0,[],0,0,0,0,[],[],[],[],0,0⟩
def iK (s:List UInt8):RS×Int×Int :=
 if (lt.j3 s).2.1≠0 then (ry,(lt.j3 s).2.1,(lt.j3 s).2.2)
 else if (pQ s.length (lt.j3 s).1 ry).1=true then ((pQ s.length (lt.j3 s).1 ry).2,0,0)
 else (ry,(pQ s.length (lt.j3 s).1 ry).2.e,(pQ s.length (lt.j3 s).1 ry).2.f)
section
variable {n n':Int} {l:List Tok}
end
end
end Go.Proofs.YtfggompceldfgaaGreatDoor.ps

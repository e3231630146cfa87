/- Lines: what a reader has; pieces of data. A function from one place of its code to a later one. Lines: data, powers: contracts. Lines: where the faults of instructions are. What is read hangs not on where tokens stand: expressions, operands, instructions. Lines: what reading one comes to. -/
import Derived.Test.YtbeckacfibledaaGreatDoorGre
import Derived.Test.YtbeckacfibledaaGreatDoorLyg
set_option linter.unusedVariables false
set_option linter.unusedSimpArgs false

namespace Go.Proofs.YtbeckacfibledaaGreatDoor.ps
open Go.Tv Go.Ev Go.Px Go.Pp Go.Proofs.YtbeckacfibledaaGreatDoor.ex
set_option maxRecDepth 100000
noncomputable section
abbrev Dt:=List UInt8×List Nd
abbrev Fc:Tv.Ty:=.pair .str (.sl eC)
structure RS where
 a:Int
 lab:List UInt8
 aF:Int
 sz:Int
 op:Int
 aM:Int
 args:List Raw
 data:List Dt
 x:List Nd
 ai:List Nd
 e:Int
 f:Int
def adu (n:Int)(l:List Tok)(s:RS)(A:AV):List fK:=[.val (.int .i64 n),.val (.dH dL l),.val (.int .i64 s.a),.val (.str s.lab),.val (.int .i64 s.aF),.val (.int .i64 s.sz),.val (.int .i64 s.op),.val (.int .i64 s.aM),.val A,.list 145 Fc s.data,.list 76 eC s.x,.list 76 eC s.ai,.val (.int .i64 s.e),.val (.int .i64 s.f)]
abbrev Hy (n:Int)(l:List Tok)(s:RS):List fK:=adu n l s .dG
abbrev agj (n:Int)(l:List Tok)(s:RS):List fK:=adu n l s (.dH jV s.args)
def ale:List (Option (TypeId×Tv.Ty)):=[none,none,none,none,none,none,none,none,none,some (145,Fc),some (76,eC),some (76,eC),none,none]
def alf:List (Option Tv.Ty):=[none,none,none,none,none,none,none,none,some jV]
abbrev FRd:=Int->List Tok->RS->Option (Bool×Bool×RS)
def gRd (F:FRd)(ins:List fK):Option (Bool×List fK×List fK) :=
 match ins with
 |[.val (.int .i64 n),.val (.dH e0 l0),.val (.int .i64 a),.val (.str lab),.val (.int .i64 aF),.val (.int .i64 sz),.val (.int .i64 op),.val (.int .i64 aM),.val .dG,.list t1 e1 d,.list t2 e2 x,.list t3 e3 tm,.val (.int .i64 e),.val (.int .i64 f)] =>
  match iu e0 dL l0,iu e1 Fc d,iu e2 eC x,iu e3 eC tm with
  |some l,some d,some x,some tm=>match F n l ⟨a,lab,aF,sz,op,aM,[],d,x,tm,e,f⟩ with
   |some (c,b,s')=>some (c&&(Nat.beq t1 145&&Nat.beq t2 76&&Nat.beq t3 76&&d.isEmpty&&x.isEmpty),agj n l s',[.val (.bool b)])
   |none=>none
  |_,_,_,_=>none
 |_=>none
def cRd (F:FRd):F6:=⟨some (66,ale),[],gRd F⟩
theorem aaS {F:FRd}{ins outs rs:List fK}(h:gRd F ins=some (true,outs,rs)):∃n l s b s',ins=Hy n l s/\s.args=[]/\s.data=[]/\s.x=[]/\F n l s=some (true,b,s')/\outs=agj n l s'/\rs=[.val (.bool b)]:=by
 unfold gRd at h;split at h;case h_2=>cases h
 rename_i n e0 l0 a lab aF sz op aM t1 e1 d t2 e2 x t3 e3 tm e f;split at h;case h_2=>cases h
 rename_i l d' x' tm' h0 h1 h2 h3;split at h;case h_2=>cases h
 rename_i c b s' hF;simp only[aq,ax,ak]at h;obtain⟨⟨hc,⟨⟨⟨g1,g2⟩,g3⟩,g4⟩,g5⟩,rfl,rfl⟩:=h;subst hc;obtain rfl:=bf g1;obtain rfl:=bf g2;obtain rfl:=bf g3;obtain⟨rfl,h0⟩:=bS h0;obtain⟨rfl,h1⟩:=bS h1;obtain⟨rfl,h2⟩:=bS h2;obtain⟨rfl,h3⟩:=bS h3;have h0:l0=l:=h0;have h1:d=d':=h1;have h2:x=x':=h2;have h3:tm=tm':=h3;subst h0;subst h1;subst h2;subst h3;have hd:d=[]:=gU.1 g4
 have hx:x=[]:=gU.1 g5;subst hd;subst hx;exact⟨n,l0,⟨a,lab,aF,sz,op,aM,[],[],[],tm,e,f⟩,b,s',rfl,rfl,rfl,rfl,hF,rfl,rfl⟩
abbrev yd:AV->aG->dZ:=WS 66 alf ale [none]
def Fe (b:Bool)(n:Int)(l:List Tok)(s:RS)(nd nx nt:Nat):dZ:=some (agj n l s++[.val (.bool b)],[nd,nx,nt])
theorem Pf {id:FuncId}(hk:lt.inl id=true){M:List vW}{N:List pI}(hM:iO X0 fR M)(hN:gR X0 fR N){F:FRd}
 (h:∀n l s b s',s.args=[]->s.data=[]->s.x=[]->F n l s=some (true,b,s')->∃(an:ez) (rounds:Nat),aT X0 (cN M N _) an rounds id [.ptr 0 0] (ji 66 14 (Hy n l s)) yd=Fe b n l s' s'.data.length s'.x.length s'.ai.length) :
 gq X0 fR id (cRd F) :=
 WT (nk hk) (jy hM hN) alf (tQ:=[none]) λins outs rs hg hl=>by
  obtain⟨n,l,s,b,s',rfl,h1,h2,h3,hF,rfl,rfl⟩:=aaS hg;obtain⟨an,rounds,hrun⟩:=h n l s b s' h1 h2 h3 hF;exact⟨an,rounds,_,hrun,rfl⟩
section
variable (n:Int) (l:List Tok)
def adv (i:Int):Int:=match at? l i with
 |some t=>t.2.2.2
 |none=>n
def hU (s:RS)(e i:Int):Bool×RS:=(false,{ s with e:=e,f:=adv n l i })
def ye (i:Int)(k:Tok->dZ):dZ:=Option.rec (motive:=λ_=>dZ) none k (dQ l i)
def nu (s:RS)(nd nx nt:Nat)(e i:Int):dZ:=ah (bB i l.length) (ye l i λy=>Fe false n l { s with e:=e,f:=y.2.2.2 } nd nx nt) (Fe false n l { s with e:=e,f:=n } nd nx nt)
def isN (a k:Int)(t:List UInt8)(no yes:dZ):dZ:=ah (bB a l.length) (ye l a λy=>ah (bI y.1 k) (ye l a λy=>ah (!decide (y.2.2.1=t)) no yes) no) no
end
def Good (r:mP):Prop:=∀b st,r=some (b,st)->(b=true->0<=st.a)/\(b=false->0<=st.f)
theorem rY {st:St}{e f:Int}(h:0<=f):Good (Aq st e f):=λb s hs=>by
 cases hs;exact⟨λh=>(by cases h),λ_=>h⟩
theorem BV {st:St}{n:Nd}{f:Int}{k:St->mP}(hf:0<=f) (hk:Good (k { st with x:=st.x++[n] })):Good (sF st n f k):=by
 unfold sF;split
 .exact rY hf
 exact hk
theorem Hz {st:St}{k:St->mP}(hf:0<=st.a) (hk:Good (k { st with d:=st.d+1,a:=st.a+1 })):Good (sG st k):=by
 unfold sG;split
 .exact rY hf
 exact hk
theorem JH {r:mP}{k:St->mP}(hr:Good r)(hk:∀s,0<=s.a->Good (k s)):Good (OU r k):=by
 unfold OU;split
 .rename_i st;exact hk st ((hr true st rfl).1 rfl)
 .rename_i st;intro b s hs;cases hs;exact⟨λh=>(by cases h),λ_=>(hr false st rfl).2 rfl⟩
 intro b s hs;cases hs
theorem Tg {l:List Tok}{rec:Int->St->mP}{k:St->mP}(hrec:∀s st,0<=st.a->Good (rec s st))(hk:∀s,0<=s.a->Good (k s)){st:St}(h:0<=st.a):Good (ri bX l rec st k):=by
 have h1:0<=st.a+1:=by omega
 unfold ri;split
 .exact rY h
 split
 .exact BV h (hk _ h1)
 split
 .refine Hz h (JH (hrec _ _ h1) λs hs=>?_);split
  .exact hk _ hs
  exact BV h (hk _ hs)
 split
 .refine Hz h (JH (hrec _ _ h1) λs hs=>?_);split
  .exact rY hs
  split
  .exact hk _ (by show 0<=s.a+1;omega)
  exact rY hs
 exact rY h
theorem HA {l:List Tok}{rec:Int->St->mP}(hrec:∀s st,0<=st.a->Good (rec s st))(str:Int):∀(n:Nat) (st:St),0<=st.a->Good (mo l rec str n st)
 |0,st,h=>λb s hs=>by cases hs
 |n+1,st,h=>by
  have ok:Good (some (true,st)):=λb s hs=>by
   cases hs;exact⟨λ_=>h,λh=>(by cases h)⟩
  unfold mo;split
  .exact ok
  split
  .exact ok
  exact JH (hrec _ _ (by show 0<=st.a+1;omega)) λs hs=>BV h (HA hrec str n _ hs)
theorem zk (l:List Tok):∀(k:Nat) (str:Int) (st:St),0<=st.a->Good (eM bX l k str st)
 |0,_,_,_=>λb s hs=>by cases hs
 |k+1,str,st,h=>Tg (zk l k) (HA (zk l k) str _) h
theorem Ff (l:List Tok)(a:Int):0<=(bq l a).2.2.2:=by
 obtain⟨r,hr⟩:=vr (nm:=bX) l a;have e1:bq l a=r:=by unfold bq;rw[hr];rfl
 rw[e1];unfold qd at hr;split at hr
 .cases hr;exact bE 0
 rename_i h0;split at hr
 .cases hr;exact bE 0
 .rename_i st hc;cases hr;exact(zk l _ 1 ⟨a,0,[],0,0⟩ (by show 0<=a;omega) false st hc).2 rfl
 cases hr
section
variable {n:Int} {l:List Tok}
theorem xk {s:RS}{nd nx nt:Nat}{e i:Int}(h:0<=i):nu n l s nd nx nt e i=Fe false n l (hU n l s e i).2 nd nx nt:=by
 unfold nu hU adv ye;rw[cF,getI_at?];cases jx:at? l i with
 |none=>have:=ju h jx;rw[aa (by omega)]
 |some t=>rw[ag (jj jx).2]
theorem agn {a:Int}{t:List UInt8}{no yes:dZ}(h:0<=a):isN l a 4 t no yes=if dI l a t=true then yes else no:=by
 unfold isN ye dI;rw[cF,getI_at?];cases jx:at? l a with
 |none=>have:=ju h jx;rw[aa (by omega)];rfl
 |some c =>
  rw[ag (jj jx).2];show ah (bI c.1 4) (ah (!decide (c.2.2.1=t)) no yes) no=if pO c t=true then yes else no;rw[Jt];cases bI c.1 4<;>cases decide (c.2.2.1=t)<;>rfl
end
def rq (s:List UInt8):Int:=match dQ s ((s.length:Int)-1) with
 |some c=>if cY c=98 then 1 else if cY c=119 then 2 else if cY c=100 then 4 else 8
 |none=>8
def gSz (args:List AV):Option (Bool×List fy) :=
 match args with
 |[.str s]=>some (!bB s.length 1&&Nat.ble s.length 2000000,[.val (.int .i64 (rq s))])
 |_=>none
theorem ago:cZ X0 fR 108 gSz :=
 cR (nk rfl) (jy Cv n0) λargs rs hg=>by
  unfold gSz at hg;split at hg
  .rename_i s;simp only[aq,ax,ak,aS]at hg;obtain⟨⟨g0,g1⟩,rfl⟩:=hg;have g0:=Jr g0;have g1:=ay g1;refine⟨[.int .i64 (rq s)],gG,5,?_,rfl,rfl⟩;have h:aT X0 (cN P2 [] AV) gG 5 108 [.str s] aG.empty (λv _=>some v)=Option.rec (motive:=λ_=>Option AV) none (λc=>ah (bI (cY c) 98) (some (.int .i64 1)) (ah (bI (cY c) 119) (some (.int .i64 2)) (ah (bI (cY c) 100) (some (.int .i64 4)) (some (.int .i64 8))))) (dQ s (IntKind.wrap .i64 (s.length-1))):=by kernel_rfl
   rw[h,i64_in (n:=(s.length:Int)-1) (by omega) (by omega)];unfold rq;cases hc:dQ s ((s.length:Int)-1) with
   |none =>
    rw[getI_at?]at hc;have:=ju (by omega) hc;omega
   |some c =>
    simp only[cq];by_cases h1:cY c=98
    .rw[ag h1,ag h1];rfl
    rw[aa h1,aa h1];by_cases h2:cY c=119
    .rw[ag h2,ag h2];rfl
    rw[aa h2,aa h2];by_cases h3:cY c=100
    .rw[ag h3,ag h3];rfl
    rw[aa h3,aa h3];rfl
  cases hg
def P3:List vW:=(108,[none],gSz)::P2
theorem HB:iO X0 fR P3:=.cons ago Cv
def HC (n:Int)(l:List Tok)(s:RS)(nd nx nt:Nat):aG:=aar [.cells 66 [.int .i64 n,.dH dL l,.int .i64 s.a,.str s.lab,.int .i64 s.aF,.int .i64 s.sz,.int .i64 s.op,.int .i64 s.aM,.dG,.own 1 nd,.own 2 nx,.own 3 nt,.int .i64 s.e,.int .i64 s.f],.list 145 Fc s.data 0 false false,.list 76 eC s.x 0 false false,.list 76 eC s.ai 0 false false]
def pDt:List Bool:=[true,true,true,false,false]
def Th:ez:=⟨gZ [0] pDt,.none,[]⟩
def jDt (n:Int)(l:List Tok)(r m:Nat)(s:RS)(nd nx nt:Nat):dZ:=iH X0 (cN P3 NC _) Th r 68 pDt yd m (lq 45 [(0,.ptr 0 0)]) (HC n l s nd nx nt)
def jDc (n:Int)(l:List Tok)(r m:Nat)(s:RS)(nd nx nt:Nat):dZ:=iH X0 (cN P3 NC _) Th r 74 pDt yd m (lq 38 [(0,.ptr 0 0)]) (HC n l s nd nx nt)
def exT (n:Int)(l:List Tok)(s:RS)(nd nx nt:Nat)(go:List Nd->Int->dZ):dZ :=
 ah (Nat.ble l.length 2000000) (ah (!bI (bq l s.a).2.2.1 0) (nu n l s nd nx nt (bq l s.a).2.2.1 (bq l s.a).2.2.2) (go (bq l s.a).1 (bq l s.a).2.1)) none
def Xd (n:Int)(l:List Tok)(J:RS->Nat->dZ)(s:RS)(nd nx nt:Nat):dZ :=
 (λgo:Dt->Int->dZ=>(λex:dZ=>ah (bI nd 64) (nu n l s nd nx nt 3 s.a) (ah (bB s.a l.length) (ye l s.a λy=>ah (bI y.1 3) (ye l s.a λy=>go (y.2.2.1,[]) (IntKind.wrap .i64 (s.a+1))) ex) ex)) (exT n l s nd nx nt λx a=>go ([],x) a))
  (λd a=>ah (Nat.ble (s.data.length+1) 2000000) (ah (bI a l.length) (Fe true n l { s with a:=a,data:=s.data++[d] } (s.data.length+1) nx nt)
   (isN l a 4 [44] (nu n l { s with a:=a,data:=s.data++[d] } (s.data.length+1) nx nt 4 a) (J { s with a:=IntKind.wrap .i64 (a+1),data:=s.data++[d] } (s.data.length+1)))) none)
theorem agr (n:Int)(l:List Tok)(r m:Nat)(a:Int)(lab:List UInt8)(aF sz op aM:Int)(data:List Dt)(x ai:List Nd)(e f:Int)(nd nx nt:Nat) :
 jDt n l r (m+1) ⟨a,lab,aF,sz,op,aM,[],data,x,ai,e,f⟩ nd nx nt=Xd n l (λs nd=>jDt n l r m s nd nx nt) ⟨a,lab,aF,sz,op,aM,[],data,x,ai,e,f⟩ nd nx nt:=by kernel_rfl
def Xe (n:Int)(l:List Tok)(J:RS->Nat->dZ)(s:RS)(nd nx nt:Nat):dZ :=
 ah (bI nd 3) (nu n l s nd nx nt 3 s.a) (exT n l s nd nx nt λx a=>ah (Nat.ble (s.data.length+1) 2000000)
  ((
   λcm:dZ=>ah (bI a l.length) (ah (bB 1 ((s.data.length+1:Nat):Int)) (Fe true n l { s with a:=a,data:=s.data++[([],x)] } (s.data.length+1) nx nt) cm) cm)
   (isN l a 4 [44] (nu n l { s with a:=a,data:=s.data++[([],x)] } (s.data.length+1) nx nt 4 a) (J { s with a:=IntKind.wrap .i64 (a+1),data:=s.data++[([],x)] } (s.data.length+1)))) none)
theorem ags (n:Int)(l:List Tok)(r m:Nat)(a:Int)(lab:List UInt8)(aF sz op aM:Int)(data:List Dt)(x ai:List Nd)(e f:Int)(nd nx nt:Nat) :
 jDc n l r (m+1) ⟨a,lab,aF,sz,op,aM,[],data,x,ai,e,f⟩ nd nx nt=Xe n l (λs nd=>jDc n l r m s nd nx nt) ⟨a,lab,aF,sz,op,aM,[],data,x,ai,e,f⟩ nd nx nt:=by kernel_rfl
theorem aaT (n:Int)(l:List Tok)(r:Nat)(a:Int)(lab:List UInt8)(aF sz op aM:Int)(ai:List Nd)(e f:Int) :
 aT X0 (cN P3 NC _) Th r 68 [.ptr 0 0] (ji 66 14 (Hy n l ⟨a,lab,aF,sz,op,aM,[],[],[],ai,e,f⟩)) yd =
 ye l a λy=>ah (!bB y.2.2.1.length 1&&Nat.ble y.2.2.1.length 2000000) (jDt n l r r ⟨IntKind.wrap .i64 (a+1),lab,2,rq y.2.2.1,op,aM,[],[],[],ai,e,f⟩ 0 0 ai.length) none:=by kernel_rfl
theorem aaU (n:Int)(l:List Tok)(r:Nat)(a:Int)(lab:List UInt8)(aF sz op aM:Int)(ai:List Nd)(e f:Int) :
 aT X0 (cN P3 NC _) Th r 74 [.ptr 0 0] (ji 66 14 (Hy n l ⟨a,lab,aF,sz,op,aM,[],[],[],ai,e,f⟩)) yd =
 jDc n l r r ⟨IntKind.wrap .i64 (a+1),lab,9,sz,op,aM,[],[],[],ai,e,f⟩ 0 0 ai.length:=by kernel_rfl
end
end Go.Proofs.YtbeckacfibledaaGreatDoor.ps
namespace Go.Tv
open Go.Ev
noncomputable section
variable {β:Type}
def Pm (X:gY)(call:cH β)(an:ez)(rounds:Nat)(id:FuncId)(p q:List Bool)(k:AV->aG->Option β)(K:fM->aG->Option β)(f:fM)(H:aG):Option β :=
 match X.P.funcs[id]? with
 |some fn=>match fn.body with
  |some c=>iw X call an.tr (pG X call an.tr an.ja rounds rounds) rounds (Wl (ku c p) q) (Af (lC an.IU p)) f H (yT (λf H=>CM (lC (lC an.IU p) q) f H K) (qo X fn k))
  |none=>none
 |none=>none
theorem Xm:∀(p q:List Bool) (c:Code),Ai c (p++q)=true->Ai (ku c p) q=true
 |[],_,_,h=>h
 |false::p,q,c,h=>by cases c<;>cases h
 |true::p,q,c,h=>by
  cases c with
  |seq x y=>exact Xm p q y h
  |_=>cases h
theorem Jo:∀(p q:List Bool) (c:Code),ku c (p++q)=ku (ku c p) q
 |[],_,_=>rfl
 |d::p,q,c=>Jo p q (inside c d)
theorem Mq:∀(p q:List Bool) (a:mS),lC a (p++q)=lC (lC a p) q
 |[],_,_=>rfl
 |d::p,q,a=>Mq p q (ah d a.r a.l)
theorem aaX (a:mS)(d:Bool)(q:List Bool):lC (Af a) (d::q)=lC a (d::q):=by
 cases a with
 |none=>rfl
 |node o l r=>rfl
theorem Xn:∀(p q:List Bool) (c:Code),Ai c (p++q)=true->Ai c p=true
 |[],q,c,h=>by
  cases c with
  |seq x y=>rfl
  |_=>cases q with
   |nil=>cases h
   |cons d q=>cases d<;>cases h
 |false::p,q,c,h=>by cases c<;>cases h
 |true::p,q,c,h=>by
  cases c with
  |seq x y=>exact Xn p q y h
  |_=>cases h
theorem uv {X:gY}{call:cH β}{an:ez}{rounds:Nat}{id:FuncId}{p q:List Bool}(hp:QU X id (p++(true::q))=true)(k:AV->aG->Option β)(f:fM)(H:aG) :
 codeFrom X call an rounds id p k f H=Pm X call an rounds id p (true::q) k (codeFrom X call an rounds id (p++(true::q)) k) f H:=by
 unfold QU at hp;unfold Pm;rw[codeFrom];cases hf:X.P.funcs[id]? with
 |none=>rfl
 |some fn =>
  rw[hf]at hp;simp only at hp ⊢;cases hb:fn.body with
  |none=>rfl
  |some c =>
   rw[hb]at hp;simp only at hp ⊢;have h1:=Xm p (true::q) c hp;rw[Di X call an.tr _ rounds p c (Xn p (true::q) c hp),zg X call an.tr _ rounds (true::q) (ku c p) h1];have e:(λf H=>iw X call an.tr (pG X call an.tr an.ja rounds rounds) rounds (ku (ku c p) (true::q)) (lC (Af (lC an.IU p)) (true::q)) f H (qo X fn k)) =
    λf H=>CM (lC (lC an.IU p) (true::q)) f H (codeFrom X call an rounds id (p++(true::q)) k):=by
    funext f H
    rw[aaX,BK X call an.tr _ rounds (true::q) (ku c p) h1];congr 1
    funext f H
    unfold codeFrom;rw[hf];simp only;rw[hb];simp only;rw[Di X call an.tr _ rounds (p++(true::q)) c hp,Jo,Mq]
   rw[e]
end
end Go.Tv
namespace Go.Proofs.YtbeckacfibledaaGreatDoor.ps
open Go.Tv Go.Ev Go.Px Go.Pp Go.Proofs.YtbeckacfibledaaGreatDoor.ex
set_option maxRecDepth 100000
noncomputable section
def eV (n:Int)(l:List Tok)(r:Bool×RS):dZ:=Fe r.1 n l r.2 r.2.data.length r.2.x.length r.2.ai.length
def Mk (n:Int)(l:List Tok)(s:RS)(go:List Nd->Int->Bool×RS):Bool×RS :=
 if (bq l s.a).2.2.1≠0 then hU n l s (bq l s.a).2.2.1 (bq l s.a).2.2.2 else go (bq l s.a).1 (bq l s.a).2.1
def xl (n:Int)(l:List Tok)(fin:Bool)(J:RS->Bool×RS)(s:RS):Bool×RS :=
 if s.a=l.length/\fin=true then (true,s) else if dI l s.a [44]=true then J { s with a:=s.a+1 } else hU n l s 4 s.a
def zl (l:List Tok)(a:Int):Option (List UInt8):=match at? l a with
 |some t=>if t.1=3 then some t.2.2.1 else none
 |none=>none
def JI (n:Int)(l:List Tok):Nat->RS->Bool×RS
 |0,s=>(false,s)
 |m+1,s=>if s.data.length=64 then hU n l s 3 s.a else match zl l s.a with
  |some t=>xl n l true (JI n l m) { s with a:=s.a+1,data:=s.data++[(t,[])] }
  |none=>Mk n l s λx e=>xl n l true (JI n l m) { s with a:=e,data:=s.data++[([],x)] }
def T6 (n:Int)(l:List Tok):Nat->RS->Bool×RS
 |0,s=>(false,s)
 |m+1,s=>if s.data.length=3 then hU n l s 3 s.a else Mk n l s λx e=>xl n l (bB 1 ((s.data.length+1:Nat):Int)) (T6 n l m) { s with a:=e,data:=s.data++[([],x)] }
section
variable {n:Int} {l:List Tok}
theorem aaV {a:Int}(h0:0<=a)(go:List UInt8->dZ)(ex:dZ):ah (bB a l.length) (ye l a λy=>ah (bI y.1 3) (ye l a λy=>go y.2.2.1) ex) ex=(match zl l a with
 |some t=>go t
 |none=>ex):=by
 unfold ye zl;rw[cF,getI_at?];cases jx:at? l a with
 |none=>have:=ju h0 jx;rw[aa (by omega)]
 |some c =>
  rw[ag (jj jx).2];show ah (bI c.1 3) (go c.2.2.1) ex=_;rw[cq];by_cases h:c.1=3
  .rw[ag h];simp only;rw[ag h]
  rw[aa h];simp only;rw[aa h]
theorem Ti {a:Int}{t:List UInt8}(h:zl l a=some t):a<l.length:=by
 unfold zl at h;split at h
 .rename_i c hc;exact(jj hc).2
 cases h
theorem agt (hl:l.length<=200000){s:RS}{nd nx nt:Nat}(go:List Nd->Int->dZ):exT n l s nd nx nt go=if (bq l s.a).2.2.1≠0 then Fe false n l (hU n l s (bq l s.a).2.2.1 (bq l s.a).2.2.2).2 nd nx nt else go (bq l s.a).1 (bq l s.a).2.1:=by
 unfold exT;rw[dS (show l.length<=2000000 by omega)];show ah (!bI (bq l s.a).2.2.1 0) _ _=_;rw[cw,xk (Ff l s.a)];by_cases h:(bq l s.a).2.2.1=0
 .rw[ag h,aa (show ¬(bq l s.a).2.2.1≠0 from λq=>q h)]
 rw[aa h,ag h]
theorem JJ (hl:l.length<=200000){s:RS}{go:List Nd->Int->dZ}{goF:List Nd->Int->Bool×RS}(h:∀x e,s.a<e->e<=l.length->go x e=eV n l (goF x e)) :
 exT n l s s.data.length s.x.length s.ai.length go=eV n l (Mk n l s goF):=by
 rw[agt hl];unfold Mk;by_cases he:(bq l s.a).2.2.1=0
 .obtain ⟨h1,h2⟩:=ur he;rw[aa (show ¬(bq l s.a).2.2.1≠0 from λq=>q he),aa (show ¬(bq l s.a).2.2.1≠0 from λq=>q he)];exact h _ _ h1 h2
 rw[ag he,ag he];rfl
theorem Xf (hl:l.length<=200000){s:RS}{fin:Bool}{J:RS->dZ}{JF:RS->Bool×RS}(h0:0<=s.a)(h1:s.a<=l.length) (ih:s.a<l.length->J { s with a:=s.a+1 }=eV n l (JF { s with a:=s.a+1 })) :
 (λcm:dZ=>ah (bI s.a l.length) (ah fin (eV n l (true,s)) cm) cm) (isN l s.a 4 [44] (nu n l s s.data.length s.x.length s.ai.length 4 s.a) (J { s with a:=IntKind.wrap .i64 (s.a+1) }))=eV n l (xl n l fin JF s):=by
 simp only;unfold xl;rw[agn h0,xk h0,i64_in (n:=s.a+1) (by omega) (by omega)];have hcm:(if dI l s.a [44]=true then J { s with a:=s.a+1 } else Fe false n l (hU n l s 4 s.a).2 s.data.length s.x.length s.ai.length)=eV n l (if dI l s.a [44]=true then JF { s with a:=s.a+1 } else hU n l s 4 s.a):=by
  by_cases hs:dI l s.a [44]=true
  .rw[ag hs,ag hs];obtain⟨c,hc,_⟩:=kg hs;exact ih (jj hc).2
  rw[aa hs,aa hs];rfl
 rw[hcm,cq];by_cases ha:s.a=l.length
 .rw[ag ha];cases fin with
  |true=>rw[ag (show s.a=(l.length:Int)/\true=true from ⟨ha,rfl⟩)]
  |false=>rw[aa (show ¬(s.a=l.length/\false=true) from λh=>by cases h.2)]
 rw[aa ha,aa (show ¬(s.a=l.length/\fin=true) from λh=>ha h.1)]
theorem Xh (hl:l.length<=200000){r:Nat}:∀(m:Nat) (s:RS),s.args=[]->0<=s.a->s.a<=l.length->s.data.length<=64->65<=s.data.length+m->jDt n l r m s s.data.length s.x.length s.ai.length=eV n l (JI n l m s)
 |0,s,_,_,_,h1,h2=>by omega
 |m+1,⟨a,lab,aF,sz,op,aM,args,data,x,ai,e,f⟩,h,h0,h1,h2,h3=>by
  have h:args=[]:=h;subst h;have h0:0<=a:=h0;have h1:a<=l.length:=h1;have h2:data.length<=64:=h2;have h3:65<=data.length+(m+1):=h3;rw[agr];unfold Xd JI;simp only;rw[dS (show data.length+1<=2000000 by omega),cq];by_cases h6:data.length=64
  .rw[ag (show ((data.length:Nat):Int)=64 by omega),ag h6,xk h0];rfl
  rw[aa (show ¬((data.length:Nat):Int)=64 by omega),aa h6];have hgo:∀(d:Dt) (b:Int),a<b->b<=l.length->(ah true (ah (bI b l.length) (Fe true n l { a:=b,lab:=lab,aF:=aF,sz:=sz,op:=op,aM:=aM,args:=[],data:=data++[d],x:=x,ai:=ai,e:=e,f:=f } (data.length+1) x.length ai.length)
   (isN l b 4 [44] (nu n l { a:=b,lab:=lab,aF:=aF,sz:=sz,op:=op,aM:=aM,args:=[],data:=data++[d],x:=x,ai:=ai,e:=e,f:=f } (data.length+1) x.length ai.length 4 b)
    (jDt n l r m { a:=IntKind.wrap .i64 (b+1),lab:=lab,aF:=aF,sz:=sz,op:=op,aM:=aM,args:=[],data:=data++[d],x:=x,ai:=ai,e:=e,f:=f } (data.length+1) x.length ai.length))) none) =
   eV n l (xl n l true (JI n l m) { a:=b,lab:=lab,aF:=aF,sz:=sz,op:=op,aM:=aM,args:=[],data:=data++[d],x:=x,ai:=ai,e:=e,f:=f }):=λd b hb0 x9=>by
   have hlen:(data++[d]).length=data.length+1:=by simp
   have:=Xf (n:=n) hl (s:={ a:=b,lab:=lab,aF:=aF,sz:=sz,op:=op,aM:=aM,args:=[],data:=data++[d],x:=x,ai:=ai,e:=e,f:=f }) (fin:=true) (J:=λs=>jDt n l r m s s.data.length s.x.length s.ai.length) (JF:=JI n l m) (show 0<=b by omega) x9 (λhb=>Xh hl m _ rfl (show 0<=b+1 by omega) (show b+1<=l.length by have hb:b<l.length:=hb;omega) (show (data++[d]).length<=64 by omega) (show 65<=(data++[d]).length+m by omega));simp only[hlen]at this;rw[<-this];show ah (bI b l.length) (Fe true n l _ (data.length+1) _ _) _=ah (bI b l.length) (Fe true n l _ (data++[d]).length _ _) _
   rw[hlen]
  rw[show (IntKind.wrap .i64 (a+1))=a+1 from i64_in (by omega) (by omega)];refine(aaV (l:=l) h0 (λt=>ah true (ah (bI (a+1) l.length) (Fe true n l { a:=a+1,lab:=lab,aF:=aF,sz:=sz,op:=op,aM:=aM,args:=[],data:=data++[(t,[])],x:=x,ai:=ai,e:=e,f:=f } (data.length+1) x.length ai.length)
   (isN l (a+1) 4 [44] (nu n l { a:=a+1,lab:=lab,aF:=aF,sz:=sz,op:=op,aM:=aM,args:=[],data:=data++[(t,[])],x:=x,ai:=ai,e:=e,f:=f } (data.length+1) x.length ai.length 4 (a+1))
    (jDt n l r m { a:=IntKind.wrap .i64 (a+1+1),lab:=lab,aF:=aF,sz:=sz,op:=op,aM:=aM,args:=[],data:=data++[(t,[])],x:=x,ai:=ai,e:=e,f:=f } (data.length+1) x.length ai.length))) none) _).trans ?_
  cases ht:zl l a with
  |some t=>exact hgo (t,[]) (a+1) (by omega) (by have:=Ti ht;omega)
  |none=>exact JJ (n:=n) hl (s:=⟨a,lab,aF,sz,op,aM,[],data,x,ai,e,f⟩) λx' b hb0 x9=>hgo ([],x') b hb0 x9
theorem Xi (hl:l.length<=200000){r:Nat}:∀(m:Nat) (s:RS),s.args=[]->0<=s.a->s.a<=l.length->s.data.length<=3->4<=s.data.length+m->jDc n l r m s s.data.length s.x.length s.ai.length=eV n l (T6 n l m s)
 |0,s,_,_,_,h1,h2=>by omega
 |m+1,⟨a,lab,aF,sz,op,aM,args,data,x,ai,e,f⟩,h,h0,h1,h2,h3=>by
  have h:args=[]:=h;subst h;have h0:0<=a:=h0;have h1:a<=l.length:=h1;have h2:data.length<=3:=h2;have h3:4<=data.length+(m+1):=h3;rw[ags];unfold Xe T6;simp only;rw[dS (show data.length+1<=2000000 by omega),cq];by_cases h6:data.length=3
  .rw[ag (show ((data.length:Nat):Int)=3 by omega),ag h6,xk h0];rfl
  rw[aa (show ¬((data.length:Nat):Int)=3 by omega),aa h6];refine JJ (n:=n) hl (s:=⟨a,lab,aF,sz,op,aM,[],data,x,ai,e,f⟩) λx' b hb0 x9=>?_
  have hlen:(data++[(([],x'):Dt)]).length=data.length+1:=by simp
  have:=Xf (n:=n) hl (s:={ a:=b,lab:=lab,aF:=aF,sz:=sz,op:=op,aM:=aM,args:=[],data:=data++[([],x')],x:=x,ai:=ai,e:=e,f:=f }) (fin:=bB 1 ((data.length+1:Nat):Int)) (J:=λs=>jDc n l r m s s.data.length s.x.length s.ai.length) (JF:=T6 n l m) (show 0<=b by have hb0:a<b:=hb0;omega) x9 (λhb=>Xi hl m _ rfl (show 0<=b+1 by have hb0:a<b:=hb0;omega) (show b+1<=l.length by have hb:b<l.length:=hb;omega) (show (data++[([],x')]).length<=3 by omega) (show 4<=(data++[([],x')]).length+m by omega))
  simp only[hlen]at this;rw[<-this];show ah (bI b l.length) (ah _ (Fe true n l _ (data.length+1) _ _) _) _=ah (bI b l.length) (ah _ (Fe true n l _ (data++[([],x')]).length _ _) _) _;rw[hlen]
end
def jZ (l:List Tok)(a:Int):List UInt8:=match at? l a with
 |some t=>t.2.2.1
 |none=>[]
def inL (l:List Tok)(a:Int):Bool:=Nat.ble l.length 200000 && !bB a 0&&bB a l.length
def Ay (n:Int)(l:List Tok)(s:RS):Bool×RS:=JI n l 70 { s with a:=s.a+1,aF:=2,sz:=rq (jZ l s.a) }
def Ml (n:Int)(l:List Tok)(s:RS):Bool×RS:=T6 n l 70 { s with a:=s.a+1,aF:=9 }
def FDt:FRd:=λn l s=>some (inL l s.a&&(!bB (jZ l s.a).length 1&&Nat.ble (jZ l s.a).length 2000000),Ay n l s)
def FDc:FRd:=λn l s=>some (inL l s.a,Ml n l s)
theorem Mm {l:List Tok}{a:Int}(h:inL l a=true):l.length<=200000/\0<=a/\a<l.length:=by
 unfold inL at h;simp only[ak,aS]at h;have h1:=ay h.1.1;have h2:=h.1.2;have h3:=h.2;rw[cA]at h2 h3;refine⟨h1,?_,?_⟩
 .simpa using h2
 simpa using h3
theorem agu:gq X0 fR 68 (cRd FDt) :=
 Pf rfl HB Xc λn l s b s' h1 h2 h3 hF=>by
  obtain⟨a,lab,aF,sz,op,aM,args,data,x,ai,e,f⟩:=s;have h1:args=[]:=h1;have h2:data=[]:=h2;have h3:x=[]:=h3;subst h1;subst h2;subst h3;unfold FDt at hF;simp only[aq,ax,ak,aS]at hF;obtain⟨⟨g1,g2,g3⟩,hF⟩:=hF;obtain⟨g1,g4,g5⟩:=Mm g1;refine⟨Th,70,?_⟩;rw[aaT];unfold ye;rw[getI_at?];obtain⟨t,ht⟩:=tA g4 g5;rw[ht];have hw:jZ l a=t.2.2.1:=by unfold jZ;rw[ht]
  rw[hw]at g2 g3;show ah (!bB t.2.2.1.length 1&&Nat.ble t.2.2.1.length 2000000) _ _=_;rw[g2,g3,i64_in (n:=a+1) (by omega) (by omega)];have:=Xh (n:=n) g1 (r:=70) 70 ⟨a+1,lab,2,rq t.2.2.1,op,aM,[],[],[],ai,e,f⟩ rfl (show 0<=a+1 by omega) (show a+1<=l.length by omega) (by simp) (by simp);refine Eq.trans this ?_;have hd:Ay n l ⟨a,lab,aF,sz,op,aM,[],[],[],ai,e,f⟩=(b,s'):=hF;unfold Ay at hd;simp only[hw]at hd;rw[hd];rfl
theorem agv:gq X0 fR 74 (cRd FDc) :=
 Pf rfl HB Xc λn l s b s' h1 h2 h3 hF=>by
  obtain⟨a,lab,aF,sz,op,aM,args,data,x,ai,e,f⟩:=s;have h1:args=[]:=h1;have h2:data=[]:=h2;have h3:x=[]:=h3;subst h1;subst h2;subst h3;unfold FDc at hF;simp only[aq,ax]at hF;obtain⟨g1,hF⟩:=hF;obtain⟨g1,g4,g5⟩:=Mm g1;refine⟨Th,70,?_⟩;rw[aaU,i64_in (n:=a+1) (by omega) (by omega)];have:=Xi (n:=n) g1 (r:=70) 70 ⟨a+1,lab,9,sz,op,aM,[],[],[],ai,e,f⟩ rfl (show 0<=a+1 by omega) (show a+1<=l.length by omega) (by simp) (by simp);refine Eq.trans this ?_
  have hd:Ml n l ⟨a,lab,aF,sz,op,aM,[],[],[],ai,e,f⟩=(b,s'):=hF;unfold Ml at hd;rw[hd];rfl
def ND:List pI:=(68,cRd FDt)::(74,cRd FDc)::NC
theorem adx:gR X0 fR ND:=.cons agu (.cons agv Xc)
theorem Xj {sg:List UInt8}{r:Rg}{a:Int}{s:TS}(h:0<=a):0<=(mH sg r a s).2.2.1:=by
 unfold mH;repeat' split
 all_goals first|exact h|exact bE 0
theorem HF {sg:List UInt8}{r:Rg}{a num n:Int}{s:TS}(h:0<=a)(h2:0<=num):0<=(iZ sg r a num n s).2.2.1:=by
 unfold iZ;repeat' split
 all_goals first|exact h|exact h2|exact bE 0
theorem agw {l:List Tok}{sg:List UInt8}{a b:Int}{s:TS}(h:0<=a):0<=(mQ rp l sg a b s).2.2.1:=by
 have h2:0<=a+2:=by omega
 unfold mQ;repeat' split
 all_goals first|exact h|exact Xj h|exact HF h h2|exact HF h h|exact bE 0
theorem Pg {l:List Tok}{en:Int}(hel:en<l.length):∀(m:Nat) (sg:List UInt8) (a:Int) (s:TS) (o:qK),0<=a->a<=en->Pp.oL rp l en m sg a s=some o->0<=o.2.2.1
 |0,_,_,_,_,_,_,h=>by cases h
 |m+1,sg,a,s,o,h0,h1,h=>by
  obtain⟨b1,b2⟩:=Aw (l:=l) (a:=a) (e:=en) h0 h1 (by omega);have hf:=agw (l:=l) (sg:=sg) (a:=a) (b:=fN l a en) (s:=s) h0;unfold Pp.oL at h;split at h
  .split at h
   .cases h;exact bE 0
   split at h
   .exact Pg hel m _ _ _ o (by omega) (by omega) h
   cases h
  rename_i x f s' hs;cases h;rw[hs]at hf;exact hf
theorem agx {l:List Tok}{op en:Int}{s:TS}(h0:0<=op)(h1:op+1<=en)(h2:en<l.length)(hc:dI l en [93]=true):0<=(nr l op en s).2.2.1:=by
 obtain⟨ce,hce,Y6⟩:=kg hc;have key:∀r:Option qK,(∀o,r=some o->0<=o.2.2.1)->0<=(r.getD (lF s 0 0)).2.2.1:=λr h1=>by
  cases r with
  |none=>exact bE 0
  |some o=>exact h1 o rfl
 unfold nr;refine key _ λo ho=>?_
 split at ho
 .rename_i hsg;have:op+2<=en:=by
   by_cases he:en=op+1
   .exfalso;rw[he]at hce;rcases hsg with h|h<;>(obtain⟨c2,k1,k2⟩:=kg h;rw[hce]at k1;cases k1;rw[E8 Y6 (by decide)]at k2;cases k2)
   omega
  exact Pg h2 _ _ _ _ o (by omega) this ho
 exact Pg h2 _ _ _ _ o (by omega) h1 ho
theorem Mn {l:List Tok}{op sz:Int}(h0:0<=op)(h1:op<l.length):0<=(oM l op sz).2.2.2:=by
 unfold oM;split
 .split
  .exact Ff _ _
  rename_i he;have he:=eN.1 he;obtain⟨q1,q2⟩:=ur he;split
  .exact bE 0
  show 0<=(bq l (op+2)).2.1;omega
 split
 .show (0:Int)<=l.length;omega
 rename_i en hc;obtain⟨c1,c2,c3⟩:=BU (by omega) (by omega) hc;have hp:=agx (s:=Te) h0 c1 c2 c3;unfold E9;repeat' split
 all_goals first|exact hp|exact h0|exact bE 0
theorem Ph {l:List Tok}{a:Int}:0<=(bC l a).2.2.2:=by
 have Mj:0<=(CT (bq l a)).2.2.2:=by
  unfold CT;split
  .exact Ff _ _
  exact bE 0
 unfold bC;split
 .exact bE 0
 split
 .exact Mj
 rename_i t jx;have hlt:=(jj jx).2;split
 .exact bE 0
 split
 .split
  .rename_i hs;obtain⟨c,hc,_⟩:=kg hs;exact Mn (by omega) (jj hc).2
  show 0<=a+1;omega
 split
 .exact Mn (by omega) hlt
 exact Mj
theorem ady {l:List Tok}{op aM:Int}(hl:l.length<=200000):∀(m:Nat) (a:Int) (args:List Raw) (c:JA),Mi l op aM m a args=some c->0<=c.2.2.2.2
 |0,_,_,_,h=>by cases h
 |m+1,a,args,c,h=>by
  unfold Mi at h;split at h
  .cases h;exact Ph
  rename_i he;have he:=eN.1 he;obtain⟨q0,q1,q2⟩:=Cw hl he;have hp:0<=(bC l a).2.1:=by omega
  split at h
  .cases h;exact bE 0
  split at h
  .cases h;exact hp
  split at h
  .cases h;exact hp
  exact ady hl m _ _ c h
theorem Pj {l:List Tok}{a:Int}(hl:l.length<=200000):0<=(eA l a).2.2.2.2:=by
 unfold eA;split
 .exact bE 0
 split
 .show 0<=a;omega
 unfold Tf;generalize (if sL l a=0 then a+1 else a+2)=b;by_cases hb:b=(l.length:Int)
 .rw[ag hb];exact bE 0
 rw[aa hb];cases hc:Mi l (J9 l a).1 (sL l a) 5 b [] with
 |none=>exact bE 0
 |some c=>exact ady hl _ _ _ _ hc
end
end Go.Proofs.YtbeckacfibledaaGreatDoor.ps
namespace Go.Proofs.YtbeckacfibledaaGreatDoor.ps
open Go.Tv Go.Ev Go.Px Go.Pp Go.Proofs.YtbeckacfibledaaGreatDoor.ex
set_option maxRecDepth 100000
section
variable {nm:List UInt8->Bool} {l:List Tok}
end
end Go.Proofs.YtbeckacfibledaaGreatDoor.ps
namespace Go.Proofs.YtbeckacfibledaaGreatDoor.ps
open Go.Tv Go.Ev Go.Px Go.Pp Go.Proofs.YtbeckacfibledaaGreatDoor.ex
set_option maxRecDepth 100000
noncomputable section
abbrev LR:=Bool×RS
def rM (l:List Tok)(a:Int):Option (List UInt8):=match at? l a with
 |some t=>if t.1=1 then some t.2.2.1 else none
 |none=>none
def Mo:List UInt8:=[101,113,117]
def Fg:List UInt8:=[116,105,109,101,115]
def CV:List UInt8:=[111,114,103]
def qW:List UInt8:=[115,116,114,117,99]
def Az:List UInt8:=[101,110,100,115,116,114,117,99]
def qg:List UInt8:=[97,108,105,103,110]
def alh:List UInt8:=[100,99,120]
def Xk:List (List UInt8):=[[100,98],[100,119],[100,100],[100,113]]
def agy:List (List UInt8):=[[114,101,115,98],[114,101,115,119],[114,101,115,100],[114,101,115,113]]
section
variable (n:Int) (l:List Tok)
def Mp (i:Int)(s:RS)(k:RS->LR):LR:=match rM l i with
 |none=>hU n l s 4 i
 |some t=>if lt.vk t=true then hU n l s 7 i else k { s with lab:=t }
def BW (s:RS):LR:=if s.a=l.length then (true,s) else hU n l s 4 s.a
def vL (aF:Int)(s:RS):LR:=Mk n l { s with aF:=aF } λx e=>BW n l { s with aF:=aF,x:=x,a:=e }
def apj (s:RS):LR:=Mp n l 0 s λs=>vL n l 3 { s with a:=2 }
def HG (s:RS):LR:=vL n l 8 { s with sz:=rq (jZ l s.a),a:=s.a+1 }
def Pk (s:RS):LR:=Mp n l (s.a+1) { s with aF:=6 } λs=>BW n l { s with a:=s.a+2 }
def Xl (s:RS):LR:=BW n l { s with aF:=7,a:=s.a+1 }
def aaW (s:RS):LR:=if (eA l s.a).2.2.2.1≠0 then hU n l s (eA l s.a).2.2.2.1 (eA l s.a).2.2.2.2
 else (true,{ s with aF:=1,op:=(eA l s.a).1,aM:=(eA l s.a).2.1,args:=(eA l s.a).2.2.1 })
def kj (w:List UInt8)(s:RS):LR :=
 if w∈Xk then Ay n l s
 else if w∈agy then HG n l s
 else if w=qg then vL n l 4 { s with a:=s.a+1 }
 else if w=CV then vL n l 5 { s with a:=s.a+1 }
 else if w=qW then Pk n l s
 else if w=Az then Xl n l s
 else if w=alh then Ml n l s
 else if (nm.lu w).2=true then aaW n l s
 else hU n l s 4 s.a
def Tj (w:List UInt8)(dm:Bool)(s:RS):LR :=
 if (w=CV\/w=qW\/w=Az)/\(dm=true\/s.lab≠[]) then hU n l s 4 s.a
 else if w=qg/\dm=true then hU n l s 4 s.a
 else kj n l w s
def tB (dm:Bool)(s:RS):LR :=
 if s.a=l.length then (if dm=true then hU n l s 4 s.a else (true,s))
 else match rM l s.a with
  |none=>hU n l s 4 s.a
  |some w=>Tj n l w dm s
def sM (s:RS):LR :=
 if rM l s.a=some Fg then Mk n l { s with a:=s.a+1 } λx e=>tB n l true { s with ai:=x,a:=e } else tB n l false s
def ru (s:RS):LR :=
 if rM l 1=some Mo then apj n l s
 else if (rM l 0).isSome=true/\dI l 1 [58]=true then Mp n l 0 s λs=>sM n l { s with a:=2 }
 else sM n l s
end
def rN:RS:=⟨0,[],0,0,0,0,[],[],[],[],0,0⟩
def gI (s:List UInt8):RS×Int×Int :=
 if (lt.kf s).2.1≠0 then (rN,(lt.kf s).2.1,(lt.kf s).2.2)
 else if (ru s.length (lt.kf s).1 rN).1=true then ((ru s.length (lt.kf s).1 rN).2,0,0)
 else (rN,(ru s.length (lt.kf s).1 rN).2.e,(ru s.length (lt.kf s).1 rN).2.f)
section
variable {n n':Int} {l:List Tok}
end
end
end Go.Proofs.YtbeckacfibledaaGreatDoor.ps

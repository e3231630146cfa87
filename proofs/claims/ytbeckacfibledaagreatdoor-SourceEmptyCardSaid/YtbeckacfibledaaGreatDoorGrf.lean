/- Lines: what a reader has; pieces of data. A function from one place of its code to a later one. Lines: data, powers: contracts. Lines: where the faults of instructions are. What is read hangs not on where tokens stand: expressions, operands, instructions. Lines: what reading one comes to. -/
import Derived.Test.YtbeckacfibledaaGreatDoorGre
import Derived.Test.YtbeckacfibledaaGreatDoorLyg
set_option linter.unusedVariables false
set_option linter.unusedSimpArgs false

namespace Go.Proofs.YtbeckacfibledaaGreatDoor.ps
open Go.Tv Go.Ev Go.Px Go.Pp Go.Proofs.YtbeckacfibledaaGreatDoor.ex
set_option maxRecDepth 100000
noncomputable section
abbrev Dt:=List UInt8×List Nd
abbrev Fq:Tv.Ty:=.pair .str (.sl eC)
structure RS where
 a:Int
 lab:List UInt8
 aF:Int
 sz:Int
 op:Int
 aM:Int
 args:List Raw
 data:List Dt
 x:List Nd
 ai:List Nd
 e:Int
 f:Int
def adZ (n:Int)(l:List Tok)(s:RS)(A:AV):List fN:=[.val (.int .i64 n),.val (.dH dL l),.val (.int .i64 s.a),.val (.str s.lab),.val (.int .i64 s.aF),.val (.int .i64 s.sz),.val (.int .i64 s.op),.val (.int .i64 s.aM),.val A,.list 145 Fq s.data,.list 76 eC s.x,.list 76 eC s.ai,.val (.int .i64 s.e),.val (.int .i64 s.f)]
abbrev HM (n:Int)(l:List Tok)(s:RS):List fN:=adZ n l s .dG
abbrev agP (n:Int)(l:List Tok)(s:RS):List fN:=adZ n l s (.dH j3 s.args)
def alQ:List (Option (TypeId×Tv.Ty)):=[none,none,none,none,none,none,none,none,none,some (145,Fq),some (76,eC),some (76,eC),none,none]
def alR:List (Option Tv.Ty):=[none,none,none,none,none,none,none,none,some j3]
abbrev FRd:=Int->List Tok->RS->Option (Bool×Bool×RS)
def gRd (F:FRd)(ins:List fN):Option (Bool×List fN×List fN) :=
 match ins with
 |[.val (.int .i64 n),.val (.dH e0 l0),.val (.int .i64 a),.val (.str lab),.val (.int .i64 aF),.val (.int .i64 sz),.val (.int .i64 op),.val (.int .i64 aM),.val .dG,.list t1 e1 d,.list t2 e2 x,.list t3 e3 tm,.val (.int .i64 e),.val (.int .i64 f)] =>
  match iC e0 dL l0,iC e1 Fq d,iC e2 eC x,iC e3 eC tm with
  |some l,some d,some x,some tm=>match F n l ⟨a,lab,aF,sz,op,aM,[],d,x,tm,e,f⟩ with
   |some (c,b,s')=>some (c&&(Nat.beq t1 145&&Nat.beq t2 76&&Nat.beq t3 76&&d.isEmpty&&x.isEmpty),agP n l s',[.val (.bool b)])
   |none=>none
  |_,_,_,_=>none
 |_=>none
def cRd (F:FRd):Gi:=⟨some (66,alQ),[],gRd F⟩
theorem abn {F:FRd}{ins outs rs:List fN}(h:gRd F ins=some (true,outs,rs)):∃n l s b s',ins=HM n l s/\s.args=[]/\s.data=[]/\s.x=[]/\F n l s=some (true,b,s')/\outs=agP n l s'/\rs=[.val (.bool b)]:=by
 unfold gRd at h;split at h;case h_2=>cases h
 rename_i n e0 l0 a lab aF sz op aM t1 e1 d t2 e2 x t3 e3 tm e f;split at h;case h_2=>cases h
 rename_i l d' x' tm' h0 h1 h2 h3;split at h;case h_2=>cases h
 rename_i c b s' hF;simp only[aq,ay,ak]at h;obtain⟨⟨hc,⟨⟨⟨g1,g2⟩,g3⟩,g4⟩,g5⟩,rfl,rfl⟩:=h;subst hc;obtain rfl:=bf g1;obtain rfl:=bf g2;obtain rfl:=bf g3;obtain⟨rfl,h0⟩:=bT h0;obtain⟨rfl,h1⟩:=bT h1;obtain⟨rfl,h2⟩:=bT h2;obtain⟨rfl,h3⟩:=bT h3;have h0:l0=l:=h0;have h1:d=d':=h1;have h2:x=x':=h2;have h3:tm=tm':=h3;subst h0;subst h1;subst h2;subst h3;have hd:d=[]:=ia.1 g4
 have hx:x=[]:=ia.1 g5;subst hd;subst hx;exact⟨n,l0,⟨a,lab,aF,sz,op,aM,[],[],[],tm,e,f⟩,b,s',rfl,rfl,rfl,rfl,hF,rfl,rfl⟩
abbrev yu:AV->aG->dZ:=Xj 66 alR alQ [none]
def Fs (b:Bool)(n:Int)(l:List Tok)(s:RS)(nd nx nt:Nat):dZ:=some (agP n l s++[.val (.bool b)],[nd,nx,nt])
theorem PC {id:FuncId}(hk:lt.inl id=true){M:List wh}{N:List pQ}(hM:iT X0 fU M)(hN:gY X0 fU N){F:FRd}
 (h:∀n l s b s',s.args=[]->s.data=[]->s.x=[]->F n l s=some (true,b,s')->∃(an:ei) (rounds:Nat),aT X0 (cN M N _) an rounds id [.ptr 0 0] (jn 66 14 (HM n l s)) yu=Fs b n l s' s'.data.length s'.x.length s'.ai.length) :
 gy X0 fU id (cRd F) :=
 Xk (nk hk) (jH hM hN) alR (ud:=[none]) λins outs rs hg hl=>by
  obtain⟨n,l,s,b,s',rfl,h1,h2,h3,hF,rfl,rfl⟩:=abn hg;obtain⟨an,rounds,hrun⟩:=h n l s b s' h1 h2 h3 hF;exact⟨an,rounds,_,hrun,rfl⟩
section
variable (n:Int) (l:List Tok)
def ad0 (i:Int):Int:=match at? l i with
 |some t=>t.2.2.2
 |none=>n
def iq (s:RS)(e i:Int):Bool×RS:=(false,{ s with e:=e,f:=ad0 n l i })
def yw (i:Int)(k:Tok->dZ):dZ:=Option.rec (motive:=λ_=>dZ) none k (dQ l i)
def nD (s:RS)(nd nx nt:Nat)(e i:Int):dZ:=ah (bC i l.length) (yw l i λy=>Fs false n l { s with e:=e,f:=y.2.2.2 } nd nx nt) (Fs false n l { s with e:=e,f:=n } nd nx nt)
def isN (a k:Int)(t:List UInt8)(no yes:dZ):dZ:=ah (bC a l.length) (yw l a λy=>ah (bI y.1 k) (yw l a λy=>ah (!decide (y.2.2.1=t)) no yes) no) no
end
def Good (r:mW):Prop:=∀b st,r=some (b,st)->(b=true->0<=st.a)/\(b=false->0<=st.f)
theorem sk {st:St}{e f:Int}(h:0<=f):Good (AG st e f):=λb s hs=>by
 cases hs;exact⟨λh=>(by cases h),λ_=>h⟩
theorem Cb {st:St}{n:Nd}{f:Int}{k:St->mW}(hf:0<=f) (hk:Good (k { st with x:=st.x++[n] })):Good (sO st n f k):=by
 unfold sO;split
 .exact sk hf
 exact hk
theorem HN {st:St}{k:St->mW}(hf:0<=st.a) (hk:Good (k { st with d:=st.d+1,a:=st.a+1 })):Good (sP st k):=by
 unfold sP;split
 .exact sk hf
 exact hk
theorem JT {r:mW}{k:St->mW}(hr:Good r)(hk:∀s,0<=s.a->Good (k s)):Good (Pe r k):=by
 unfold Pe;split
 .rename_i st;exact hk st ((hr true st rfl).1 rfl)
 .rename_i st;intro b s hs;cases hs;exact⟨λh=>(by cases h),λ_=>(hr false st rfl).2 rfl⟩
 intro b s hs;cases hs
theorem TD {l:List Tok}{rec:Int->St->mW}{k:St->mW}(hrec:∀s st,0<=st.a->Good (rec s st))(hk:∀s,0<=s.a->Good (k s)){st:St}(h:0<=st.a):Good (rD bZ l rec st k):=by
 have h1:0<=st.a+1:=by omega
 unfold rD;split
 .exact sk h
 split
 .exact Cb h (hk _ h1)
 split
 .refine HN h (JT (hrec _ _ h1) λs hs=>?_);split
  .exact hk _ hs
  exact Cb h (hk _ hs)
 split
 .refine HN h (JT (hrec _ _ h1) λs hs=>?_);split
  .exact sk hs
  split
  .exact hk _ (by show 0<=s.a+1;omega)
  exact sk hs
 exact sk h
theorem HO {l:List Tok}{rec:Int->St->mW}(hrec:∀s st,0<=st.a->Good (rec s st))(str:Int):∀(n:Nat) (st:St),0<=st.a->Good (mz l rec str n st)
 |0,st,h=>λb s hs=>by cases hs
 |n+1,st,h=>by
  have ok:Good (some (true,st)):=λb s hs=>by
   cases hs;exact⟨λ_=>h,λh=>(by cases h)⟩
  unfold mz;split
  .exact ok
  split
  .exact ok
  exact JT (hrec _ _ (by show 0<=st.a+1;omega)) λs hs=>Cb h (HO hrec str n _ hs)
theorem zA (l:List Tok):∀(k:Nat) (str:Int) (st:St),0<=st.a->Good (eM bZ l k str st)
 |0,_,_,_=>λb s hs=>by cases hs
 |k+1,str,st,h=>TD (zA l k) (HO (zA l k) str _) h
theorem Ft (l:List Tok)(a:Int):0<=(bq l a).2.2.2:=by
 obtain⟨r,hr⟩:=vF (nm:=bZ) l a;have e1:bq l a=r:=by unfold bq;rw[hr];rfl
 rw[e1];unfold qm at hr;split at hr
 .cases hr;exact bB 0
 rename_i h0;split at hr
 .cases hr;exact bB 0
 .rename_i st hc;cases hr;exact(zA l _ 1 ⟨a,0,[],0,0⟩ (by show 0<=a;omega) false st hc).2 rfl
 cases hr
section
variable {n:Int} {l:List Tok}
theorem xz {s:RS}{nd nx nt:Nat}{e i:Int}(h:0<=i):nD n l s nd nx nt e i=Fs false n l (iq n l s e i).2 nd nx nt:=by
 unfold nD iq ad0 yw;rw[cA,getI_at?];cases jG:at? l i with
 |none=>have:=jz h jG;rw[aa (by omega)]
 |some t=>rw[ag (jo jG).2]
theorem agT {a:Int}{t:List UInt8}{no yes:dZ}(h:0<=a):isN l a 4 t no yes=if dI l a t=true then yes else no:=by
 unfold isN yw dI;rw[cA,getI_at?];cases jG:at? l a with
 |none=>have:=jz h jG;rw[aa (by omega)];rfl
 |some c =>
  rw[ag (jo jG).2];show ah (bI c.1 4) (ah (!decide (c.2.2.1=t)) no yes) no=if pY c t=true then yes else no;rw[JI];cases bI c.1 4<;>cases decide (c.2.2.1=t)<;>rfl
end
def rE (s:List UInt8):Int:=match dQ s ((s.length:Int)-1) with
 |some c=>if cY c=98 then 1 else if cY c=119 then 2 else if cY c=100 then 4 else 8
 |none=>8
def gSz (args:List AV):Option (Bool×List fA) :=
 match args with
 |[.str s]=>some (!bC s.length 1&&Nat.ble s.length 2000000,[.val (.int .i64 (rE s))])
 |_=>none
theorem agU:dc X0 fU 108 gSz :=
 cS (nk rfl) (jH CJ n0) λargs rs hg=>by
  unfold gSz at hg;split at hg
  .rename_i s;simp only[aq,ay,ak,aS]at hg;obtain⟨⟨g0,g1⟩,rfl⟩:=hg;have g0:=JG g0;have g1:=az g1;refine⟨[.int .i64 (rE s)],gO,5,?_,rfl,rfl⟩;have h:aT X0 (cN P2 [] AV) gO 5 108 [.str s] aG.empty (λv _=>some v)=Option.rec (motive:=λ_=>Option AV) none (λc=>ah (bI (cY c) 98) (some (.int .i64 1)) (ah (bI (cY c) 119) (some (.int .i64 2)) (ah (bI (cY c) 100) (some (.int .i64 4)) (some (.int .i64 8))))) (dQ s (IntKind.wrap .i64 (s.length-1))):=by kernel_rfl
   rw[h,i64_in (n:=(s.length:Int)-1) (by omega) (by omega)];unfold rE;cases hc:dQ s ((s.length:Int)-1) with
   |none =>
    rw[getI_at?]at hc;have:=jz (by omega) hc;omega
   |some c =>
    simp only[cq];by_cases h1:cY c=98
    .rw[ag h1,ag h1];rfl
    rw[aa h1,aa h1];by_cases h2:cY c=119
    .rw[ag h2,ag h2];rfl
    rw[aa h2,aa h2];by_cases h3:cY c=100
    .rw[ag h3,ag h3];rfl
    rw[aa h3,aa h3];rfl
  cases hg
def P3:List wh:=(108,[none],gSz)::P2
theorem HP:iT X0 fU P3:=.cons agU CJ
def HQ (n:Int)(l:List Tok)(s:RS)(nd nx nt:Nat):aG:=aaV [.cells 66 [.int .i64 n,.dH dL l,.int .i64 s.a,.str s.lab,.int .i64 s.aF,.int .i64 s.sz,.int .i64 s.op,.int .i64 s.aM,.dG,.own 1 nd,.own 2 nx,.own 3 nt,.int .i64 s.e,.int .i64 s.f],.list 145 Fq s.data 0 false false,.list 76 eC s.x 0 false false,.list 76 eC s.ai 0 false false]
def pDt:List Bool:=[true,true,true,false,false]
def TE:ei:=⟨gD [0] pDt,.none,[]⟩
def jDt (n:Int)(l:List Tok)(r m:Nat)(s:RS)(nd nx nt:Nat):dZ:=iF X0 (cN P3 NC _) TE r 68 pDt yu m (kr 45 [(0,.ptr 0 0)]) (HQ n l s nd nx nt)
def jDc (n:Int)(l:List Tok)(r m:Nat)(s:RS)(nd nx nt:Nat):dZ:=iF X0 (cN P3 NC _) TE r 74 pDt yu m (kr 38 [(0,.ptr 0 0)]) (HQ n l s nd nx nt)
def exT (n:Int)(l:List Tok)(s:RS)(nd nx nt:Nat)(go:List Nd->Int->dZ):dZ :=
 ah (Nat.ble l.length 2000000) (ah (!bI (bq l s.a).2.2.1 0) (nD n l s nd nx nt (bq l s.a).2.2.1 (bq l s.a).2.2.2) (go (bq l s.a).1 (bq l s.a).2.1)) none
def XA (n:Int)(l:List Tok)(J:RS->Nat->dZ)(s:RS)(nd nx nt:Nat):dZ :=
 (λgo:Dt->Int->dZ=>(λex:dZ=>ah (bI nd 64) (nD n l s nd nx nt 3 s.a) (ah (bC s.a l.length) (yw l s.a λy=>ah (bI y.1 3) (yw l s.a λy=>go (y.2.2.1,[]) (IntKind.wrap .i64 (s.a+1))) ex) ex)) (exT n l s nd nx nt λx a=>go ([],x) a))
  (λd a=>ah (Nat.ble (s.data.length+1) 2000000) (ah (bI a l.length) (Fs true n l { s with a:=a,data:=s.data++[d] } (s.data.length+1) nx nt)
   (isN l a 4 [44] (nD n l { s with a:=a,data:=s.data++[d] } (s.data.length+1) nx nt 4 a) (J { s with a:=IntKind.wrap .i64 (a+1),data:=s.data++[d] } (s.data.length+1)))) none)
theorem agX (n:Int)(l:List Tok)(r m:Nat)(a:Int)(lab:List UInt8)(aF sz op aM:Int)(data:List Dt)(x ai:List Nd)(e f:Int)(nd nx nt:Nat) :
 jDt n l r (m+1) ⟨a,lab,aF,sz,op,aM,[],data,x,ai,e,f⟩ nd nx nt=XA n l (λs nd=>jDt n l r m s nd nx nt) ⟨a,lab,aF,sz,op,aM,[],data,x,ai,e,f⟩ nd nx nt:=by kernel_rfl
def XB (n:Int)(l:List Tok)(J:RS->Nat->dZ)(s:RS)(nd nx nt:Nat):dZ :=
 ah (bI nd 3) (nD n l s nd nx nt 3 s.a) (exT n l s nd nx nt λx a=>ah (Nat.ble (s.data.length+1) 2000000)
  ((
   λcm:dZ=>ah (bI a l.length) (ah (bC 1 ((s.data.length+1:Nat):Int)) (Fs true n l { s with a:=a,data:=s.data++[([],x)] } (s.data.length+1) nx nt) cm) cm)
   (isN l a 4 [44] (nD n l { s with a:=a,data:=s.data++[([],x)] } (s.data.length+1) nx nt 4 a) (J { s with a:=IntKind.wrap .i64 (a+1),data:=s.data++[([],x)] } (s.data.length+1)))) none)
theorem agY (n:Int)(l:List Tok)(r m:Nat)(a:Int)(lab:List UInt8)(aF sz op aM:Int)(data:List Dt)(x ai:List Nd)(e f:Int)(nd nx nt:Nat) :
 jDc n l r (m+1) ⟨a,lab,aF,sz,op,aM,[],data,x,ai,e,f⟩ nd nx nt=XB n l (λs nd=>jDc n l r m s nd nx nt) ⟨a,lab,aF,sz,op,aM,[],data,x,ai,e,f⟩ nd nx nt:=by kernel_rfl
theorem abo (n:Int)(l:List Tok)(r:Nat)(a:Int)(lab:List UInt8)(aF sz op aM:Int)(ai:List Nd)(e f:Int) :
 aT X0 (cN P3 NC _) TE r 68 [.ptr 0 0] (jn 66 14 (HM n l ⟨a,lab,aF,sz,op,aM,[],[],[],ai,e,f⟩)) yu =
 yw l a λy=>ah (!bC y.2.2.1.length 1&&Nat.ble y.2.2.1.length 2000000) (jDt n l r r ⟨IntKind.wrap .i64 (a+1),lab,2,rE y.2.2.1,op,aM,[],[],[],ai,e,f⟩ 0 0 ai.length) none:=by kernel_rfl
theorem abp (n:Int)(l:List Tok)(r:Nat)(a:Int)(lab:List UInt8)(aF sz op aM:Int)(ai:List Nd)(e f:Int) :
 aT X0 (cN P3 NC _) TE r 74 [.ptr 0 0] (jn 66 14 (HM n l ⟨a,lab,aF,sz,op,aM,[],[],[],ai,e,f⟩)) yu =
 jDc n l r r ⟨IntKind.wrap .i64 (a+1),lab,9,sz,op,aM,[],[],[],ai,e,f⟩ 0 0 ai.length:=by kernel_rfl
end
end Go.Proofs.YtbeckacfibledaaGreatDoor.ps
namespace Go.Tv
open Go.Ev
noncomputable section
variable {β:Type}
def PJ (X:ij)(call:cI β)(an:ei)(rounds:Nat)(id:FuncId)(p q:List Bool)(k:AV->aG->Option β)(K:fJ->aG->Option β)(f:fJ)(H:aG):Option β :=
 match X.P.funcs[id]? with
 |some fn=>match fn.body with
  |some c=>iD X call an.tr (pN X call an.tr an.ja rounds rounds) rounds (WJ (kB c p) q) (Aw (lH an.I6 p)) f H (y8 (λf H=>CZ (lH (lH an.I6 p) q) f H K) (qz X fn k))
  |none=>none
 |none=>none
theorem XI:∀(p q:List Bool) (c:Code),Ay c (p++q)=true->Ay (kB c p) q=true
 |[],_,_,h=>h
 |false::p,q,c,h=>by cases c<;>cases h
 |true::p,q,c,h=>by
  cases c with
  |seq x y=>exact XI p q y h
  |_=>cases h
theorem JB:∀(p q:List Bool) (c:Code),kB c (p++q)=kB (kB c p) q
 |[],_,_=>rfl
 |d::p,q,c=>JB p q (inside c d)
theorem ME:∀(p q:List Bool) (a:mY),lH a (p++q)=lH (lH a p) q
 |[],_,_=>rfl
 |d::p,q,a=>ME p q (ah d a.r a.l)
theorem abt (a:mY)(d:Bool)(q:List Bool):lH (Aw a) (d::q)=lH a (d::q):=by
 cases a with
 |none=>rfl
 |node o l r=>rfl
theorem XJ:∀(p q:List Bool) (c:Code),Ay c (p++q)=true->Ay c p=true
 |[],q,c,h=>by
  cases c with
  |seq x y=>rfl
  |_=>cases q with
   |nil=>cases h
   |cons d q=>cases d<;>cases h
 |false::p,q,c,h=>by cases c<;>cases h
 |true::p,q,c,h=>by
  cases c with
  |seq x y=>exact XJ p q y h
  |_=>cases h
theorem uG {X:ij}{call:cI β}{an:ei}{rounds:Nat}{id:FuncId}{p q:List Bool}(hp:Rc X id (p++(true::q))=true)(k:AV->aG->Option β)(f:fJ)(H:aG) :
 codeFrom X call an rounds id p k f H=PJ X call an rounds id p (true::q) k (codeFrom X call an rounds id (p++(true::q)) k) f H:=by
 unfold Rc at hp;unfold PJ;rw[codeFrom];cases hf:X.P.funcs[id]? with
 |none=>rfl
 |some fn =>
  rw[hf]at hp;simp only at hp ⊢;cases hb:fn.body with
  |none=>rfl
  |some c =>
   rw[hb]at hp;simp only at hp ⊢;have h1:=XI p (true::q) c hp;rw[Dv X call an.tr _ rounds p c (XJ p (true::q) c hp),zu X call an.tr _ rounds (true::q) (kB c p) h1];have e:(λf H=>iD X call an.tr (pN X call an.tr an.ja rounds rounds) rounds (kB (kB c p) (true::q)) (lH (Aw (lH an.I6 p)) (true::q)) f H (qz X fn k)) =
    λf H=>CZ (lH (lH an.I6 p) (true::q)) f H (codeFrom X call an rounds id (p++(true::q)) k):=by
    funext f H
    rw[abt,BZ X call an.tr _ rounds (true::q) (kB c p) h1];congr 1
    funext f H
    unfold codeFrom;rw[hf];simp only;rw[hb];simp only;rw[Dv X call an.tr _ rounds (p++(true::q)) c hp,JB,ME]
   rw[e]
end
end Go.Tv
namespace Go.Proofs.YtbeckacfibledaaGreatDoor.ps
open Go.Tv Go.Ev Go.Px Go.Pp Go.Proofs.YtbeckacfibledaaGreatDoor.ex
set_option maxRecDepth 100000
noncomputable section
def eW (n:Int)(l:List Tok)(r:Bool×RS):dZ:=Fs r.1 n l r.2 r.2.data.length r.2.x.length r.2.ai.length
def Mx (n:Int)(l:List Tok)(s:RS)(go:List Nd->Int->Bool×RS):Bool×RS :=
 if (bq l s.a).2.2.1≠0 then iq n l s (bq l s.a).2.2.1 (bq l s.a).2.2.2 else go (bq l s.a).1 (bq l s.a).2.1
def xA (n:Int)(l:List Tok)(fin:Bool)(J:RS->Bool×RS)(s:RS):Bool×RS :=
 if s.a=l.length/\fin=true then (true,s) else if dI l s.a [44]=true then J { s with a:=s.a+1 } else iq n l s 4 s.a
def zB (l:List Tok)(a:Int):Option (List UInt8):=match at? l a with
 |some t=>if t.1=3 then some t.2.2.1 else none
 |none=>none
def JU (n:Int)(l:List Tok):Nat->RS->Bool×RS
 |0,s=>(false,s)
 |m+1,s=>if s.data.length=64 then iq n l s 3 s.a else match zB l s.a with
  |some t=>xA n l true (JU n l m) { s with a:=s.a+1,data:=s.data++[(t,[])] }
  |none=>Mx n l s λx e=>xA n l true (JU n l m) { s with a:=e,data:=s.data++[([],x)] }
def Us (n:Int)(l:List Tok):Nat->RS->Bool×RS
 |0,s=>(false,s)
 |m+1,s=>if s.data.length=3 then iq n l s 3 s.a else Mx n l s λx e=>xA n l (bC 1 ((s.data.length+1:Nat):Int)) (Us n l m) { s with a:=e,data:=s.data++[([],x)] }
section
variable {n:Int} {l:List Tok}
theorem abq {a:Int}(h0:0<=a)(go:List UInt8->dZ)(ex:dZ):ah (bC a l.length) (yw l a λy=>ah (bI y.1 3) (yw l a λy=>go y.2.2.1) ex) ex=(match zB l a with
 |some t=>go t
 |none=>ex):=by
 unfold yw zB;rw[cA,getI_at?];cases jG:at? l a with
 |none=>have:=jz h0 jG;rw[aa (by omega)]
 |some c =>
  rw[ag (jo jG).2];show ah (bI c.1 3) (go c.2.2.1) ex=_;rw[cq];by_cases h:c.1=3
  .rw[ag h];simp only;rw[ag h]
  rw[aa h];simp only;rw[aa h]
theorem TG {a:Int}{t:List UInt8}(h:zB l a=some t):a<l.length:=by
 unfold zB at h;split at h
 .rename_i c hc;exact(jo hc).2
 cases h
theorem agZ (hl:l.length<=200000){s:RS}{nd nx nt:Nat}(go:List Nd->Int->dZ):exT n l s nd nx nt go=if (bq l s.a).2.2.1≠0 then Fs false n l (iq n l s (bq l s.a).2.2.1 (bq l s.a).2.2.2).2 nd nx nt else go (bq l s.a).1 (bq l s.a).2.1:=by
 unfold exT;rw[dS (show l.length<=2000000 by omega)];show ah (!bI (bq l s.a).2.2.1 0) _ _=_;rw[cn,xz (Ft l s.a)];by_cases h:(bq l s.a).2.2.1=0
 .rw[ag h,aa (show ¬(bq l s.a).2.2.1≠0 from λq=>q h)]
 rw[aa h,ag h]
theorem JV (hl:l.length<=200000){s:RS}{go:List Nd->Int->dZ}{goF:List Nd->Int->Bool×RS}(h:∀x e,s.a<e->e<=l.length->go x e=eW n l (goF x e)) :
 exT n l s s.data.length s.x.length s.ai.length go=eW n l (Mx n l s goF):=by
 rw[agZ hl];unfold Mx;by_cases he:(bq l s.a).2.2.1=0
 .obtain ⟨h1,h2⟩:=uD he;rw[aa (show ¬(bq l s.a).2.2.1≠0 from λq=>q he),aa (show ¬(bq l s.a).2.2.1≠0 from λq=>q he)];exact h _ _ h1 h2
 rw[ag he,ag he];rfl
theorem XC (hl:l.length<=200000){s:RS}{fin:Bool}{J:RS->dZ}{JF:RS->Bool×RS}(h0:0<=s.a)(h1:s.a<=l.length) (ih:s.a<l.length->J { s with a:=s.a+1 }=eW n l (JF { s with a:=s.a+1 })) :
 (λcm:dZ=>ah (bI s.a l.length) (ah fin (eW n l (true,s)) cm) cm) (isN l s.a 4 [44] (nD n l s s.data.length s.x.length s.ai.length 4 s.a) (J { s with a:=IntKind.wrap .i64 (s.a+1) }))=eW n l (xA n l fin JF s):=by
 simp only;unfold xA;rw[agT h0,xz h0,i64_in (n:=s.a+1) (by omega) (by omega)];have hcm:(if dI l s.a [44]=true then J { s with a:=s.a+1 } else Fs false n l (iq n l s 4 s.a).2 s.data.length s.x.length s.ai.length)=eW n l (if dI l s.a [44]=true then JF { s with a:=s.a+1 } else iq n l s 4 s.a):=by
  by_cases hs:dI l s.a [44]=true
  .rw[ag hs,ag hs];obtain⟨c,hc,_⟩:=ku hs;exact ih (jo hc).2
  rw[aa hs,aa hs];rfl
 rw[hcm,cq];by_cases ha:s.a=l.length
 .rw[ag ha];cases fin with
  |true=>rw[ag (show s.a=(l.length:Int)/\true=true from ⟨ha,rfl⟩)]
  |false=>rw[aa (show ¬(s.a=l.length/\false=true) from λh=>by cases h.2)]
 rw[aa ha,aa (show ¬(s.a=l.length/\fin=true) from λh=>ha h.1)]
theorem XD (hl:l.length<=200000){r:Nat}:∀(m:Nat) (s:RS),s.args=[]->0<=s.a->s.a<=l.length->s.data.length<=64->65<=s.data.length+m->jDt n l r m s s.data.length s.x.length s.ai.length=eW n l (JU n l m s)
 |0,s,_,_,_,h1,h2=>by omega
 |m+1,⟨a,lab,aF,sz,op,aM,args,data,x,ai,e,f⟩,h,h0,h1,h2,h3=>by
  have h:args=[]:=h;subst h;have h0:0<=a:=h0;have h1:a<=l.length:=h1;have h2:data.length<=64:=h2;have h3:65<=data.length+(m+1):=h3;rw[agX];unfold XA JU;simp only;rw[dS (show data.length+1<=2000000 by omega),cq];by_cases h6:data.length=64
  .rw[ag (show ((data.length:Nat):Int)=64 by omega),ag h6,xz h0];rfl
  rw[aa (show ¬((data.length:Nat):Int)=64 by omega),aa h6];have hgo:∀(d:Dt) (b:Int),a<b->b<=l.length->(ah true (ah (bI b l.length) (Fs true n l { a:=b,lab:=lab,aF:=aF,sz:=sz,op:=op,aM:=aM,args:=[],data:=data++[d],x:=x,ai:=ai,e:=e,f:=f } (data.length+1) x.length ai.length)
   (isN l b 4 [44] (nD n l { a:=b,lab:=lab,aF:=aF,sz:=sz,op:=op,aM:=aM,args:=[],data:=data++[d],x:=x,ai:=ai,e:=e,f:=f } (data.length+1) x.length ai.length 4 b)
    (jDt n l r m { a:=IntKind.wrap .i64 (b+1),lab:=lab,aF:=aF,sz:=sz,op:=op,aM:=aM,args:=[],data:=data++[d],x:=x,ai:=ai,e:=e,f:=f } (data.length+1) x.length ai.length))) none) =
   eW n l (xA n l true (JU n l m) { a:=b,lab:=lab,aF:=aF,sz:=sz,op:=op,aM:=aM,args:=[],data:=data++[d],x:=x,ai:=ai,e:=e,f:=f }):=λd b hb0 yo=>by
   have hlen:(data++[d]).length=data.length+1:=by simp
   have:=XC (n:=n) hl (s:={ a:=b,lab:=lab,aF:=aF,sz:=sz,op:=op,aM:=aM,args:=[],data:=data++[d],x:=x,ai:=ai,e:=e,f:=f }) (fin:=true) (J:=λs=>jDt n l r m s s.data.length s.x.length s.ai.length) (JF:=JU n l m) (show 0<=b by omega) yo (λhb=>XD hl m _ rfl (show 0<=b+1 by omega) (show b+1<=l.length by have hb:b<l.length:=hb;omega) (show (data++[d]).length<=64 by omega) (show 65<=(data++[d]).length+m by omega));simp only[hlen]at this;rw[<-this];show ah (bI b l.length) (Fs true n l _ (data.length+1) _ _) _=ah (bI b l.length) (Fs true n l _ (data++[d]).length _ _) _
   rw[hlen]
  rw[show (IntKind.wrap .i64 (a+1))=a+1 from i64_in (by omega) (by omega)];refine(abq (l:=l) h0 (λt=>ah true (ah (bI (a+1) l.length) (Fs true n l { a:=a+1,lab:=lab,aF:=aF,sz:=sz,op:=op,aM:=aM,args:=[],data:=data++[(t,[])],x:=x,ai:=ai,e:=e,f:=f } (data.length+1) x.length ai.length)
   (isN l (a+1) 4 [44] (nD n l { a:=a+1,lab:=lab,aF:=aF,sz:=sz,op:=op,aM:=aM,args:=[],data:=data++[(t,[])],x:=x,ai:=ai,e:=e,f:=f } (data.length+1) x.length ai.length 4 (a+1))
    (jDt n l r m { a:=IntKind.wrap .i64 (a+1+1),lab:=lab,aF:=aF,sz:=sz,op:=op,aM:=aM,args:=[],data:=data++[(t,[])],x:=x,ai:=ai,e:=e,f:=f } (data.length+1) x.length ai.length))) none) _).trans ?_
  cases ht:zB l a with
  |some t=>exact hgo (t,[]) (a+1) (by omega) (by have:=TG ht;omega)
  |none=>exact JV (n:=n) hl (s:=⟨a,lab,aF,sz,op,aM,[],data,x,ai,e,f⟩) λx' b hb0 yo=>hgo ([],x') b hb0 yo
theorem XE (hl:l.length<=200000){r:Nat}:∀(m:Nat) (s:RS),s.args=[]->0<=s.a->s.a<=l.length->s.data.length<=3->4<=s.data.length+m->jDc n l r m s s.data.length s.x.length s.ai.length=eW n l (Us n l m s)
 |0,s,_,_,_,h1,h2=>by omega
 |m+1,⟨a,lab,aF,sz,op,aM,args,data,x,ai,e,f⟩,h,h0,h1,h2,h3=>by
  have h:args=[]:=h;subst h;have h0:0<=a:=h0;have h1:a<=l.length:=h1;have h2:data.length<=3:=h2;have h3:4<=data.length+(m+1):=h3;rw[agY];unfold XB Us;simp only;rw[dS (show data.length+1<=2000000 by omega),cq];by_cases h6:data.length=3
  .rw[ag (show ((data.length:Nat):Int)=3 by omega),ag h6,xz h0];rfl
  rw[aa (show ¬((data.length:Nat):Int)=3 by omega),aa h6];refine JV (n:=n) hl (s:=⟨a,lab,aF,sz,op,aM,[],data,x,ai,e,f⟩) λx' b hb0 yo=>?_
  have hlen:(data++[(([],x'):Dt)]).length=data.length+1:=by simp
  have:=XC (n:=n) hl (s:={ a:=b,lab:=lab,aF:=aF,sz:=sz,op:=op,aM:=aM,args:=[],data:=data++[([],x')],x:=x,ai:=ai,e:=e,f:=f }) (fin:=bC 1 ((data.length+1:Nat):Int)) (J:=λs=>jDc n l r m s s.data.length s.x.length s.ai.length) (JF:=Us n l m) (show 0<=b by have hb0:a<b:=hb0;omega) yo (λhb=>XE hl m _ rfl (show 0<=b+1 by have hb0:a<b:=hb0;omega) (show b+1<=l.length by have hb:b<l.length:=hb;omega) (show (data++[([],x')]).length<=3 by omega) (show 4<=(data++[([],x')]).length+m by omega))
  simp only[hlen]at this;rw[<-this];show ah (bI b l.length) (ah _ (Fs true n l _ (data.length+1) _ _) _) _=ah (bI b l.length) (ah _ (Fs true n l _ (data++[([],x')]).length _ _) _) _;rw[hlen]
end
def j6 (l:List Tok)(a:Int):List UInt8:=match at? l a with
 |some t=>t.2.2.1
 |none=>[]
def inL (l:List Tok)(a:Int):Bool:=Nat.ble l.length 200000 && !bC a 0&&bC a l.length
def AO (n:Int)(l:List Tok)(s:RS):Bool×RS:=JU n l 70 { s with a:=s.a+1,aF:=2,sz:=rE (j6 l s.a) }
def My (n:Int)(l:List Tok)(s:RS):Bool×RS:=Us n l 70 { s with a:=s.a+1,aF:=9 }
def FDt:FRd:=λn l s=>some (inL l s.a&&(!bC (j6 l s.a).length 1&&Nat.ble (j6 l s.a).length 2000000),AO n l s)
def FDc:FRd:=λn l s=>some (inL l s.a,My n l s)
theorem Mz {l:List Tok}{a:Int}(h:inL l a=true):l.length<=200000/\0<=a/\a<l.length:=by
 unfold inL at h;simp only[ak,aS]at h;have h1:=az h.1.1;have h2:=h.1.2;have h3:=h.2;rw[cD]at h2 h3;refine⟨h1,?_,?_⟩
 .simpa using h2
 simpa using h3
theorem ag0:gy X0 fU 68 (cRd FDt) :=
 PC rfl HP Xz λn l s b s' h1 h2 h3 hF=>by
  obtain⟨a,lab,aF,sz,op,aM,args,data,x,ai,e,f⟩:=s;have h1:args=[]:=h1;have h2:data=[]:=h2;have h3:x=[]:=h3;subst h1;subst h2;subst h3;unfold FDt at hF;simp only[aq,ay,ak,aS]at hF;obtain⟨⟨g1,g2,g3⟩,hF⟩:=hF;obtain⟨g1,g4,g5⟩:=Mz g1;refine⟨TE,70,?_⟩;rw[abo];unfold yw;rw[getI_at?];obtain⟨t,ht⟩:=tK g4 g5;rw[ht];have hw:j6 l a=t.2.2.1:=by unfold j6;rw[ht]
  rw[hw]at g2 g3;show ah (!bC t.2.2.1.length 1&&Nat.ble t.2.2.1.length 2000000) _ _=_;rw[g2,g3,i64_in (n:=a+1) (by omega) (by omega)];have:=XD (n:=n) g1 (r:=70) 70 ⟨a+1,lab,2,rE t.2.2.1,op,aM,[],[],[],ai,e,f⟩ rfl (show 0<=a+1 by omega) (show a+1<=l.length by omega) (by simp) (by simp);refine Eq.trans this ?_;have hd:AO n l ⟨a,lab,aF,sz,op,aM,[],[],[],ai,e,f⟩=(b,s'):=hF;unfold AO at hd;simp only[hw]at hd;rw[hd];rfl
theorem ag1:gy X0 fU 74 (cRd FDc) :=
 PC rfl HP Xz λn l s b s' h1 h2 h3 hF=>by
  obtain⟨a,lab,aF,sz,op,aM,args,data,x,ai,e,f⟩:=s;have h1:args=[]:=h1;have h2:data=[]:=h2;have h3:x=[]:=h3;subst h1;subst h2;subst h3;unfold FDc at hF;simp only[aq,ay]at hF;obtain⟨g1,hF⟩:=hF;obtain⟨g1,g4,g5⟩:=Mz g1;refine⟨TE,70,?_⟩;rw[abp,i64_in (n:=a+1) (by omega) (by omega)];have:=XE (n:=n) g1 (r:=70) 70 ⟨a+1,lab,9,sz,op,aM,[],[],[],ai,e,f⟩ rfl (show 0<=a+1 by omega) (show a+1<=l.length by omega) (by simp) (by simp);refine Eq.trans this ?_
  have hd:My n l ⟨a,lab,aF,sz,op,aM,[],[],[],ai,e,f⟩=(b,s'):=hF;unfold My at hd;rw[hd];rfl
def ND:List pQ:=(68,cRd FDt)::(74,cRd FDc)::NC
theorem ad2:gY X0 fU ND:=.cons ag0 (.cons ag1 Xz)
theorem XF {sg:List UInt8}{r:Rg}{a:Int}{s:TS}(h:0<=a):0<=(mL sg r a s).2.2.1:=by
 unfold mL;repeat' split
 all_goals first|exact h|exact bB 0
theorem HR {sg:List UInt8}{r:Rg}{a num n:Int}{s:TS}(h:0<=a)(h2:0<=num):0<=(jf sg r a num n s).2.2.1:=by
 unfold jf;repeat' split
 all_goals first|exact h|exact h2|exact bB 0
theorem ag2 {l:List Tok}{sg:List UInt8}{a b:Int}{s:TS}(h:0<=a):0<=(mX rp l sg a b s).2.2.1:=by
 have h2:0<=a+2:=by omega
 unfold mX;repeat' split
 all_goals first|exact h|exact XF h|exact HR h h2|exact HR h h|exact bB 0
theorem PD {l:List Tok}{en:Int}(hel:en<l.length):∀(m:Nat) (sg:List UInt8) (a:Int) (s:TS) (o:qU),0<=a->a<=en->Pp.oR rp l en m sg a s=some o->0<=o.2.2.1
 |0,_,_,_,_,_,_,h=>by cases h
 |m+1,sg,a,s,o,h0,h1,h=>by
  obtain⟨b1,b2⟩:=AL (l:=l) (a:=a) (e:=en) h0 h1 (by omega);have hf:=ag2 (l:=l) (sg:=sg) (a:=a) (b:=fQ l a en) (s:=s) h0;unfold Pp.oR at h;split at h
  .split at h
   .cases h;exact bB 0
   split at h
   .exact PD hel m _ _ _ o (by omega) (by omega) h
   cases h
  rename_i x f s' hs;cases h;rw[hs]at hf;exact hf
theorem ag3 {l:List Tok}{op en:Int}{s:TS}(h0:0<=op)(h1:op+1<=en)(h2:en<l.length)(hc:dI l en [93]=true):0<=(nC l op en s).2.2.1:=by
 obtain⟨ce,hce,ZA⟩:=ku hc;have key:∀r:Option qU,(∀o,r=some o->0<=o.2.2.1)->0<=(r.getD (lJ s 0 0)).2.2.1:=λr h1=>by
  cases r with
  |none=>exact bB 0
  |some o=>exact h1 o rfl
 unfold nC;refine key _ λo ho=>?_
 split at ho
 .rename_i hsg;have:op+2<=en:=by
   by_cases he:en=op+1
   .exfalso;rw[he]at hce;rcases hsg with h|h<;>(obtain⟨c2,k1,k2⟩:=ku h;rw[hce]at k1;cases k1;rw[Fk ZA (by decide)]at k2;cases k2)
   omega
  exact PD h2 _ _ _ _ o (by omega) this ho
 exact PD h2 _ _ _ _ o (by omega) h1 ho
theorem MA {l:List Tok}{op sz:Int}(h0:0<=op)(h1:op<l.length):0<=(oS l op sz).2.2.2:=by
 unfold oS;split
 .split
  .exact Ft _ _
  rename_i he;have he:=eN.1 he;obtain⟨q1,q2⟩:=uD he;split
  .exact bB 0
  show 0<=(bq l (op+2)).2.1;omega
 split
 .show (0:Int)<=l.length;omega
 rename_i en hc;obtain⟨c1,c2,c3⟩:=Ca (by omega) (by omega) hc;have hp:=ag3 (s:=TB) h0 c1 c2 c3;unfold Fl;repeat' split
 all_goals first|exact hp|exact h0|exact bB 0
theorem PE {l:List Tok}{a:Int}:0<=(bD l a).2.2.2:=by
 have Mw:0<=(C7 (bq l a)).2.2.2:=by
  unfold C7;split
  .exact Ft _ _
  exact bB 0
 unfold bD;split
 .exact bB 0
 split
 .exact Mw
 rename_i t jG;have hlt:=(jo jG).2;split
 .exact bB 0
 split
 .split
  .rename_i hs;obtain⟨c,hc,_⟩:=ku hs;exact MA (by omega) (jo hc).2
  show 0<=a+1;omega
 split
 .exact MA (by omega) hlt
 exact Mw
theorem ad3 {l:List Tok}{op aM:Int}(hl:l.length<=200000):∀(m:Nat) (a:Int) (args:List Raw) (c:JO),Mv l op aM m a args=some c->0<=c.2.2.2.2
 |0,_,_,_,h=>by cases h
 |m+1,a,args,c,h=>by
  unfold Mv at h;split at h
  .cases h;exact PE
  rename_i he;have he:=eN.1 he;obtain⟨q0,q1,q2⟩:=CK hl he;have hp:0<=(bD l a).2.1:=by omega
  split at h
  .cases h;exact bB 0
  split at h
  .cases h;exact hp
  split at h
  .cases h;exact hp
  exact ad3 hl m _ _ c h
theorem PF {l:List Tok}{a:Int}(hl:l.length<=200000):0<=(eA l a).2.2.2.2:=by
 unfold eA;split
 .exact bB 0
 split
 .show 0<=a;omega
 unfold TC;generalize (if sV l a=0 then a+1 else a+2)=b;by_cases hb:b=(l.length:Int)
 .rw[ag hb];exact bB 0
 rw[aa hb];cases hc:Mv l (Kn l a).1 (sV l a) 5 b [] with
 |none=>exact bB 0
 |some c=>exact ad3 hl _ _ _ _ hc
end
end Go.Proofs.YtbeckacfibledaaGreatDoor.ps
namespace Go.Proofs.YtbeckacfibledaaGreatDoor.ps
open Go.Tv Go.Ev Go.Px Go.Pp Go.Proofs.YtbeckacfibledaaGreatDoor.ex
set_option maxRecDepth 100000
section
variable {nm:List UInt8->Bool} {l:List Tok}
end
end Go.Proofs.YtbeckacfibledaaGreatDoor.ps
namespace Go.Proofs.YtbeckacfibledaaGreatDoor.ps
open Go.Tv Go.Ev Go.Px Go.Pp Go.Proofs.YtbeckacfibledaaGreatDoor.ex
set_option maxRecDepth 100000
noncomputable section
abbrev LR:=Bool×RS
def rW (l:List Tok)(a:Int):Option (List UInt8):=match at? l a with
 |some t=>if t.1=1 then some t.2.2.1 else none
 |none=>none
def MB:List UInt8:=[101,113,117]
def Fu:List UInt8:=[116,105,109,101,115]
def C9:List UInt8:=[111,114,103]
def rA:List UInt8:=[115,116,114,117,99]
def AP:List UInt8:=[101,110,100,115,116,114,117,99]
def qp:List UInt8:=[97,108,105,103,110]
def alU:List UInt8:=[100,99,120]
def XG:List (List UInt8):=[[100,98],[100,119],[100,100],[100,113]]
def ag4:List (List UInt8):=[[114,101,115,98],[114,101,115,119],[114,101,115,100],[114,101,115,113]]
section
variable (n:Int) (l:List Tok)
def MD (i:Int)(s:RS)(k:RS->LR):LR:=match rW l i with
 |none=>iq n l s 4 i
 |some t=>if lt.vu t=true then iq n l s 7 i else k { s with lab:=t }
def Cc (s:RS):LR:=if s.a=l.length then (true,s) else iq n l s 4 s.a
def vU (aF:Int)(s:RS):LR:=Mx n l { s with aF:=aF } λx e=>Cc n l { s with aF:=aF,x:=x,a:=e }
def apQ (s:RS):LR:=MD n l 0 s λs=>vU n l 3 { s with a:=2 }
def HS (s:RS):LR:=vU n l 8 { s with sz:=rE (j6 l s.a),a:=s.a+1 }
def PG (s:RS):LR:=MD n l (s.a+1) { s with aF:=6 } λs=>Cc n l { s with a:=s.a+2 }
def XH (s:RS):LR:=Cc n l { s with aF:=7,a:=s.a+1 }
def abr (s:RS):LR:=if (eA l s.a).2.2.2.1≠0 then iq n l s (eA l s.a).2.2.2.1 (eA l s.a).2.2.2.2
 else (true,{ s with aF:=1,op:=(eA l s.a).1,aM:=(eA l s.a).2.1,args:=(eA l s.a).2.2.1 })
def kz (w:List UInt8)(s:RS):LR :=
 if w∈XG then AO n l s
 else if w∈ag4 then HS n l s
 else if w=qp then vU n l 4 { s with a:=s.a+1 }
 else if w=C9 then vU n l 5 { s with a:=s.a+1 }
 else if w=rA then PG n l s
 else if w=AP then XH n l s
 else if w=alU then My n l s
 else if (nm.lC w).2=true then abr n l s
 else iq n l s 4 s.a
def TH (w:List UInt8)(dx:Bool)(s:RS):LR :=
 if (w=C9\/w=rA\/w=AP)/\(dx=true\/s.lab≠[]) then iq n l s 4 s.a
 else if w=qp/\dx=true then iq n l s 4 s.a
 else kz n l w s
def tL (dx:Bool)(s:RS):LR :=
 if s.a=l.length then (if dx=true then iq n l s 4 s.a else (true,s))
 else match rW l s.a with
  |none=>iq n l s 4 s.a
  |some w=>TH n l w dx s
def sW (s:RS):LR :=
 if rW l s.a=some Fu then Mx n l { s with a:=s.a+1 } λx e=>tL n l true { s with ai:=x,a:=e } else tL n l false s
def qa (s:RS):LR :=
 if rW l 1=some MB then apQ n l s
 else if (rW l 0).isSome=true/\dI l 1 [58]=true then MD n l 0 s λs=>sW n l { s with a:=2 }
 else sW n l s
end
def qq:RS:=⟨0,[],0,0,0,0,[],[],[],[],0,0⟩
def eP (s:List UInt8):RS×Int×Int :=
 if (lt.jZ s).2.1≠0 then (qq,(lt.jZ s).2.1,(lt.jZ s).2.2)
 else if (qa s.length (lt.jZ s).1 qq).1=true then ((qa s.length (lt.jZ s).1 qq).2,0,0)
 else (qq,(qa s.length (lt.jZ s).1 qq).2.e,(qa s.length (lt.jZ s).1 qq).2.f)
section
variable {n n':Int} {l:List Tok}
end
end
end Go.Proofs.YtbeckacfibledaaGreatDoor.ps

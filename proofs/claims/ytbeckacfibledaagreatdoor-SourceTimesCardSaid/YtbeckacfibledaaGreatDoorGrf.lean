/- Lines: what a reader has; pieces of data. -/
import Derived.Test.YtbeckacfibledaaGreatDoorGre
import Derived.Test.YtbeckacfibledaaGreatDoorLyg
set_option linter.unusedVariables false
set_option linter.unusedSimpArgs false

namespace Go.Proofs.YtbeckacfibledaaGreatDoor.ps
open Go.Tv Go.Ev Go.Px Go.Pp Go.Proofs.YtbeckacfibledaaGreatDoor.ex
set_option maxRecDepth 100000
noncomputable section
abbrev Dt:=au×bz
abbrev GG:Tv.Ty:=.pair .str (.sl fA)
structure RS where
 a:Int
 lab:au
 aC:Int
 sz:Int
 op:Int
 aM:Int
 args:eO
 data:List Dt
 x:bz
 ai:bz
 e:Int
 f:Int
def agC (n:Int)(l:aX)(s:RS)(A:AV):eZ:=[.val (.int .i64 n),.val (.eC eE l),.val (.int .i64 s.a),.val (.str s.lab),.val (.int .i64 s.aC),.val (.int .i64 s.sz),.val (.int .i64 s.op),.val (.int .i64 s.aM),.val A,.list 145 GG s.data,.list 76 fA s.x,.list 76 fA s.ai,.val (.int .i64 s.e),.val (.int .i64 s.f)]
abbrev Jr (n:Int)(l:aX)(s:RS):eZ:=agC n l s .eB
abbrev ajA (n:Int)(l:aX)(s:RS):eZ:=agC n l s (.eC lD s.args)
def ao7:List (Option (TypeId×Tv.Ty)):=[none,none,none,none,none,none,none,none,none,some (145,GG),some (76,fA),some (76,fA),none,none]
def ao8:List (Option Tv.Ty):=[none,none,none,none,none,none,none,none,some lD]
abbrev FRd:=Int->aX->RS->Option (Bool×Bool×RS)
def gRd (F:FRd)(ins:eZ):Option (Bool×eZ×eZ) :=
 match ins with
 |[.val (.int .i64 n),.val (.eC e0 h),.val (.int .i64 a),.val (.str lab),.val (.int .i64 aC),.val (.int .i64 sz),.val (.int .i64 op),.val (.int .i64 aM),.val .eB,.list i j d,.list k e2 x,.list m o g,.val (.int .i64 e),.val (.int .i64 f)] =>
  match jl e0 eE h,jl j GG d,jl e2 fA x,jl o fA g with
  |some l,some d,some x,some g=>match F n l ⟨a,lab,aC,sz,op,aM,[],d,x,g,e,f⟩ with
   |some (c,b,p)=>some (c&&(Nat.beq i 145&&Nat.beq k 76&&Nat.beq m 76&&d.isEmpty&&x.isEmpty),ajA n l p,[.val (.bool b)])
   |none=>none
  |_,_,_,_=>none
 |_=>none
def cRd (F:FRd):HZ:=⟨some (66,ao7),[],gRd F⟩
theorem ad0 {F:FRd}{ins outs rs:eZ}(h:gRd F ins=some (true,outs,rs)):∃n l s b m,ins=Jr n l s/\s.args=[]/\s.data=[]/\s.x=[]/\F n l s=some (true,b,m)/\outs=ajA n l m/\rs=[.val (.bool b)]:=by
 unfold gRd at h;split at h;case h_2=>cases h
 rename_i n e0 p a lab aC sz op aM D E d G e2 x H I q e f;split at h;case h_2=>cases h
 rename_i l r t o g i j k;split at h;case h_2=>cases h
 rename_i c b m u;simp only[aq,az,ak]at h;obtain⟨⟨v,⟨⟨⟨g1,w⟩,y⟩,z⟩,A⟩,rfl,rfl⟩:=h;subst v;obtain rfl:=bt g1;obtain rfl:=bt w;obtain rfl:=bt y;obtain⟨rfl,g⟩:=cr g;obtain⟨rfl,i⟩:=cr i;obtain⟨rfl,j⟩:=cr j;obtain⟨rfl,k⟩:=cr k;have g:p=l:=g;have i:d=r:=i;have j:x=t:=j;have k:q=o:=k;subst g;subst i;subst j;subst k;have B:d=[]:=jg.1 z
 have C:x=[]:=jg.1 A;subst B;subst C;exact⟨n,p,⟨a,lab,aC,sz,op,aM,[],[],[],q,e,f⟩,b,m,rfl,rfl,rfl,rfl,u,rfl,rfl⟩
abbrev zA:AV->aH->eW:=Zn 66 ao8 ao7 [none]
def GH (b:Bool)(n:Int)(l:aX)(s:RS)(nd nx a:Nat):eW:=some (ajA n l s++[.val (.bool b)],[nd,nx,a])
theorem Rq {id:FuncId}(d:lt.inl id=true){M:List xw}{N:List rf}(e:jy X0 gR M)(f:jc X0 gR N){F:FRd}
 (h:∀n l s b a,s.args=[]->s.data=[]->s.x=[]->F n l s=some (true,b,a)->∃(an:fe) (rounds:Nat),aT X0 (cN M N _) an rounds id [.ptr 0 0] (kA 66 14 (Jr n l s)) zA=GH b n l a a.data.length a.x.length a.ai.length) :
 iI X0 gR id (cRd F) :=
 Zo (nk d) (kP e f) ao8 (vn:=[none]) λins outs rs g o=>by
  obtain⟨n,l,s,b,a,rfl,i,j,k,m,rfl,rfl⟩:=ad0 g;obtain⟨an,rounds,c⟩:=h n l s b a i j k m;exact⟨an,rounds,_,c,rfl⟩
section
variable (n:Int) (l:aX)
def agD (i:Int):Int:=match at? l i with
 |some t=>t.2.2.2
 |none=>n
def iT (s:RS)(e i:Int):Bool×RS:=(false,{ s with e:=e,f:=agD n l i })
def zB (i:Int)(k:Tok->eW):eW:=Option.rec (motive:=λ_=>eW) none k (eL l i)
def oP (s:RS)(nd nx a:Nat)(e i:Int):eW:=ah (bN i l.length) (zB l i λy=>GH false n l { s with e:=e,f:=y.2.2.2 } nd nx a) (GH false n l { s with e:=e,f:=n } nd nx a)
def isN (a k:Int)(t:au)(no yes:eW):eW:=ah (bN a l.length) (zB l a λy=>ah (bS y.1 k) (zB l a λy=>ah (!decide (y.2.2.1=t)) no yes) no) no
end
def Good (r:l7):Prop:=∀b st,r=some (b,st)->(b=true->0<=st.a)/\(b=false->0<=st.f)
theorem tK {st:St}{e f:Int}(h:0<=f):Good (ym st e f):=λb s a=>by
 cases a;exact⟨λh=>(by cases h),λ_=>h⟩
theorem Di {st:St}{n:Nd}{f:Int}{k:St->l7}(a:0<=f) (b:Good (k { st with x:=st.x++[n] })):Good (rE st n f k):=by
 unfold rE;split
 .exact tK a
 exact b
theorem Js {st:St}{k:St->l7}(b:0<=st.a) (c:Good (k { st with d:=st.d+1,a:=st.a+1 })):Good (ri st k):=by
 unfold ri;split
 .exact tK b
 exact c
theorem Ly {r:l7}{k:St->l7}(d:Good r)(e:∀s,0<=s.a->Good (k s)):Good (Le r k):=by
 unfold Le;split
 .rename_i st;exact e st ((d true st rfl).1 rfl)
 .rename_i st;intro b s c;cases c;exact⟨λh=>(by cases h),λ_=>(d false st rfl).2 rfl⟩
 intro b s c;cases c
theorem VE {l:aX}{rec:Int->St->l7}{k:St->l7}(b:∀s st,0<=st.a->Good (rec s st))(d:∀s,0<=s.a->Good (k s)){st:St}(h:0<=st.a):Good (ou bZ l rec st k):=by
 have e:0<=st.a+1:=by omega
 unfold ou;split
 .exact tK h
 split
 .exact Di h (d _ e)
 split
 .refine Js h (Ly (b _ _ e) λs c=>?_);split
  .exact d _ c
  exact Di h (d _ c)
 split
 .refine Js h (Ly (b _ _ e) λs c=>?_);split
  .exact tK c
  split
  .exact d _ (by show 0<=s.a+1;omega)
  exact tK c
 exact tK h
theorem Jt {l:aX}{rec:Int->St->l7}(c:∀s st,0<=st.a->Good (rec s st))(str:Int):∀(n:Nat) (st:St),0<=st.a->Good (jQ l rec str n st)
 |0,st,h=>λb s d=>by cases d
 |n+1,st,h=>by
  have ok:Good (some (true,st)):=λb s d=>by
   cases d;exact⟨λ_=>h,λh=>(by cases h)⟩
  unfold jQ;split
  .exact ok
  split
  .exact ok
  exact Ly (c _ _ (by show 0<=st.a+1;omega)) λs d=>Di h (Jt c str n _ d)
theorem AP (l:aX):∀(k:Nat) (str:Int) (st:St),0<=st.a->Good (ef bZ l k str st)
 |0,_,_,_=>λb s c=>by cases c
 |k+1,str,st,h=>VE (AP l k) (Jt (AP l k) str _) h
theorem GI (l:aX)(a:Int):0<=(bp l a).2.2.2:=by
 obtain⟨r,b⟩:=rQ (nm:=bZ) l a;have c:bp l a=r:=by unfold bp;rw[b];rfl
 rw[c];unfold oa at b;split at b
 .cases b;exact bL 0
 rename_i e;split at b
 .cases b;exact bL 0
 .rename_i st d;cases b;exact(AP l _ 1 ⟨a,0,[],0,0⟩ (by show 0<=a;omega) false st d).2 rfl
 cases b
section
variable {n:Int} {l:aX}
theorem yB {s:RS}{nd nx a:Nat}{e i:Int}(h:0<=i):oP n l s nd nx a e i=GH false n l (iT n l s e i).2 nd nx a:=by
 unfold oP iT agD zB;rw[de,getI_at?];cases b:at? l i with
 |none=>have:=kM h b;rw[aa (by omega)]
 |some t=>rw[ag (jR b).2]
theorem ajE {a:Int}{t:au}{no yes:eW}(h:0<=a):isN l a 4 t no yes=if dK l a t=true then yes else no:=by
 unfold isN zB dK;rw[de,getI_at?];cases b:at? l a with
 |none=>have:=kM h b;rw[aa (by omega)];rfl
 |some c =>
  rw[ag (jR b).2];show ah (bS c.1 4) (ah (!decide (c.2.2.1=t)) no yes) no=if qP c t=true then yes else no;rw[Lm];cases bS c.1 4<;>cases decide (c.2.2.1=t)<;>rfl
end
def qc (s:au):Int:=match eL s ((s.length:Int)-1) with
 |some c=>if cS c=98 then 1 else if cS c=119 then 2 else if cS c=100 then 4 else 8
 |none=>8
def gSz (args:aI):Option (Bool×List gj) :=
 match args with
 |[.str s]=>some (!bN s.length 1&&Nat.ble s.length 2000000,[.val (.int .i64 (qc s))])
 |_=>none
theorem ajF:dQ X0 gR 108 gSz :=
 dG (nk rfl) (kP DN n0) λargs rs a=>by
  unfold gSz at a;split at a
  .rename_i s;simp only[aq,az,ak,aU]at a;obtain⟨⟨g0,g1⟩,rfl⟩:=a;have g0:=Lj g0;have g1:=aB g1;refine⟨[.int .i64 (qc s)],gC,5,?_,rfl,rfl⟩;have h:aT X0 (cN P2 [] AV) gC 5 108 [.str s] aH.empty (λv _=>some v)=Option.rec (motive:=λ_=>bx) none (λc=>ah (bS (cS c) 98) (some (.int .i64 1)) (ah (bS (cS c) 119) (some (.int .i64 2)) (ah (bS (cS c) 100) (some (.int .i64 4)) (some (.int .i64 8))))) (eL s (IntKind.wrap .i64 (s.length-1))):=by kernel_rfl
   rw[h,i64_in (n:=(s.length:Int)-1) (by omega) (by omega)];unfold qc;cases f:eL s ((s.length:Int)-1) with
   |none =>
    rw[getI_at?]at f;have:=kM (by omega) f;omega
   |some c =>
    simp only[cH];by_cases b:cS c=98
    .rw[ag b,ag b];rfl
    rw[aa b,aa b];by_cases d:cS c=119
    .rw[ag d,ag d];rfl
    rw[aa d,aa d];by_cases e:cS c=100
    .rw[ag e,ag e];rfl
    rw[aa e,aa e];rfl
  cases a
def P3:List xw:=(108,[none],gSz)::P2
theorem Ju:jy X0 gR P3:=.cons ajF DN
def Jv (n:Int)(l:aX)(s:RS)(nd nx b:Nat):aH:=ady [.cells 66 [.int .i64 n,.eC eE l,.int .i64 s.a,.str s.lab,.int .i64 s.aC,.int .i64 s.sz,.int .i64 s.op,.int .i64 s.aM,.eB,.own 1 nd,.own 2 nx,.own 3 b,.int .i64 s.e,.int .i64 s.f],.list 145 GG s.data 0 false false,.list 76 fA s.x 0 false false,.list 76 fA s.ai 0 false false]
def pDt:eJ:=[true,true,true,false,false]
def VF:fe:=⟨iM [0] pDt,.none,[]⟩
def jDt (n:Int)(l:aX)(r m:Nat)(s:RS)(nd nx a:Nat):eW:=jo X0 (cN P3 NC _) VF r 68 pDt zA m (lS 45 [(0,.ptr 0 0)]) (Jv n l s nd nx a)
def jDc (n:Int)(l:aX)(r m:Nat)(s:RS)(nd nx a:Nat):eW:=jo X0 (cN P3 NC _) VF r 74 pDt zA m (lS 38 [(0,.ptr 0 0)]) (Jv n l s nd nx a)
def exT (n:Int)(l:aX)(s:RS)(nd nx b:Nat)(go:bz->Int->eW):eW :=
 ah (Nat.ble l.length 2000000) (ah (!bS (bp l s.a).2.2.1 0) (oP n l s nd nx b (bp l s.a).2.2.1 (bp l s.a).2.2.2) (go (bp l s.a).1 (bp l s.a).2.1)) none
def ZC (n:Int)(l:aX)(J:RS->Nat->eW)(s:RS)(nd nx b:Nat):eW :=
 (λgo:Dt->Int->eW=>(λex:eW=>ah (bS nd 64) (oP n l s nd nx b 3 s.a) (ah (bN s.a l.length) (zB l s.a λy=>ah (bS y.1 3) (zB l s.a λy=>go (y.2.2.1,[]) (IntKind.wrap .i64 (s.a+1))) ex) ex)) (exT n l s nd nx b λx a=>go ([],x) a))
  (λd a=>ah (Nat.ble (s.data.length+1) 2000000) (ah (bS a l.length) (GH true n l { s with a:=a,data:=s.data++[d] } (s.data.length+1) nx b)
   (isN l a 4 [44] (oP n l { s with a:=a,data:=s.data++[d] } (s.data.length+1) nx b 4 a) (J { s with a:=IntKind.wrap .i64 (a+1),data:=s.data++[d] } (s.data.length+1)))) none)
theorem ajI (n:Int)(l:aX)(r m:Nat)(a:Int)(lab:au)(aC sz op aM:Int)(data:List Dt)(x ai:bz)(e f:Int)(nd nx b:Nat) :
 jDt n l r (m+1) ⟨a,lab,aC,sz,op,aM,[],data,x,ai,e,f⟩ nd nx b=ZC n l (λs nd=>jDt n l r m s nd nx b) ⟨a,lab,aC,sz,op,aM,[],data,x,ai,e,f⟩ nd nx b:=by kernel_rfl
def ZD (n:Int)(l:aX)(J:RS->Nat->eW)(s:RS)(nd nx b:Nat):eW :=
 ah (bS nd 3) (oP n l s nd nx b 3 s.a) (exT n l s nd nx b λx a=>ah (Nat.ble (s.data.length+1) 2000000)
  ((
   λc:eW=>ah (bS a l.length) (ah (bN 1 ((s.data.length+1:Nat):Int)) (GH true n l { s with a:=a,data:=s.data++[([],x)] } (s.data.length+1) nx b) c) c)
   (isN l a 4 [44] (oP n l { s with a:=a,data:=s.data++[([],x)] } (s.data.length+1) nx b 4 a) (J { s with a:=IntKind.wrap .i64 (a+1),data:=s.data++[([],x)] } (s.data.length+1)))) none)
theorem ajJ (n:Int)(l:aX)(r m:Nat)(a:Int)(lab:au)(aC sz op aM:Int)(data:List Dt)(x ai:bz)(e f:Int)(nd nx b:Nat) :
 jDc n l r (m+1) ⟨a,lab,aC,sz,op,aM,[],data,x,ai,e,f⟩ nd nx b=ZD n l (λs nd=>jDc n l r m s nd nx b) ⟨a,lab,aC,sz,op,aM,[],data,x,ai,e,f⟩ nd nx b:=by kernel_rfl
theorem ad1 (n:Int)(l:aX)(r:Nat)(a:Int)(lab:au)(aC sz op aM:Int)(ai:bz)(e f:Int) :
 aT X0 (cN P3 NC _) VF r 68 [.ptr 0 0] (kA 66 14 (Jr n l ⟨a,lab,aC,sz,op,aM,[],[],[],ai,e,f⟩)) zA =
 zB l a λy=>ah (!bN y.2.2.1.length 1&&Nat.ble y.2.2.1.length 2000000) (jDt n l r r ⟨IntKind.wrap .i64 (a+1),lab,2,qc y.2.2.1,op,aM,[],[],[],ai,e,f⟩ 0 0 ai.length) none:=by kernel_rfl
theorem ad2 (n:Int)(l:aX)(r:Nat)(a:Int)(lab:au)(aC sz op aM:Int)(ai:bz)(e f:Int) :
 aT X0 (cN P3 NC _) VF r 74 [.ptr 0 0] (kA 66 14 (Jr n l ⟨a,lab,aC,sz,op,aM,[],[],[],ai,e,f⟩)) zA =
 jDc n l r r ⟨IntKind.wrap .i64 (a+1),lab,9,sz,op,aM,[],[],[],ai,e,f⟩ 0 0 ai.length:=by kernel_rfl
end
end Go.Proofs.YtbeckacfibledaaGreatDoor.ps
namespace Go.Tv
open Go.Ev
noncomputable section
variable {β:Type}
def Rx (X:ji)(call:dz β)(an:fe)(rounds:Nat)(id:FuncId)(p q:eJ)(k:AV->aH->Option β)(K:gJ->aH->Option β)(f:gJ)(H:aH):Option β :=
 match X.P.funcs[id]? with
 |some fn=>match fn.body with
  |some c=>jm X call an.tr (qY X call an.tr an.ja rounds rounds) rounds (YT (lV c p) q) (BQ (mQ an.KB p)) f H (Aj (λf H=>D4 (mQ (mQ an.KB p) q) f H K) (r8 X fn k))
  |none=>none
 |none=>none
theorem ZT:∀(p q:eJ) (c:Code),BS c (p++q)=true->BS (lV c p) q=true
 |[],_,_,h=>h
 |false::p,q,c,h=>by cases c<;>cases h
 |true::p,q,c,h=>by
  cases c with
  |seq x y=>exact ZT p q y h
  |_=>cases h
theorem Lg:∀(p q:eJ) (c:Code),lV c (p++q)=lV (lV c p) q
 |[],_,_=>rfl
 |d::p,q,c=>Lg p q (inside c d)
theorem OH:∀(p q:eJ) (a:oz),mQ a (p++q)=mQ (mQ a p) q
 |[],_,_=>rfl
 |d::p,q,a=>OH p q (ah d a.r a.l)
theorem ad8 (a:oz)(d:Bool)(q:eJ):mQ (BQ a) (d::q)=mQ a (d::q):=by
 cases a with
 |none=>rfl
 |node o l r=>rfl
theorem ZU:∀(p q:eJ) (c:Code),BS c (p++q)=true->BS c p=true
 |[],q,c,h=>by
  cases c with
  |seq x y=>rfl
  |_=>cases q with
   |nil=>cases h
   |cons d q=>cases d<;>cases h
 |false::p,q,c,h=>by cases c<;>cases h
 |true::p,q,c,h=>by
  cases c with
  |seq x y=>exact ZU p q y h
  |_=>cases h
theorem vP {X:ji}{call:dz β}{an:fe}{rounds:Nat}{id:FuncId}{p q:eJ}(a:Ti X id (p++(true::q))=true)(k:AV->aH->Option β)(f:gJ)(H:aH) :
 codeFrom X call an rounds id p k f H=Rx X call an rounds id p (true::q) k (codeFrom X call an rounds id (p++(true::q)) k) f H:=by
 unfold Ti at a;unfold Rx;rw[codeFrom];cases b:X.P.funcs[id]? with
 |none=>rfl
 |some fn =>
  rw[b]at a;simp only at a ⊢;cases d:fn.body with
  |none=>rfl
  |some c =>
   rw[d]at a;simp only at a ⊢;have g:=ZT p (true::q) c a;rw[EB X call an.tr _ rounds p c (ZU p (true::q) c a),AH X call an.tr _ rounds (true::q) (lV c p) g];have e:(λf H=>jm X call an.tr (qY X call an.tr an.ja rounds rounds) rounds (lV (lV c p) (true::q)) (mQ (BQ (mQ an.KB p)) (true::q)) f H (r8 X fn k)) =
    λf H=>D4 (mQ (mQ an.KB p) (true::q)) f H (codeFrom X call an rounds id (p++(true::q)) k):=by
    funext f H
    rw[ad8,C8 X call an.tr _ rounds (true::q) (lV c p) g];congr 1
    funext f H
    unfold codeFrom;rw[b];simp only;rw[d];simp only;rw[EB X call an.tr _ rounds (p++(true::q)) c a,Lg,OH]
   rw[e]
end
end Go.Tv
namespace Go.Proofs.YtbeckacfibledaaGreatDoor.ps
open Go.Tv Go.Ev Go.Px Go.Pp Go.Proofs.YtbeckacfibledaaGreatDoor.ex
set_option maxRecDepth 100000
noncomputable section
def fV (n:Int)(l:aX)(r:Bool×RS):eW:=GH r.1 n l r.2 r.2.data.length r.2.x.length r.2.ai.length
def Dj (n:Int)(l:aX)(s:RS)(go:bz->Int->Bool×RS):Bool×RS :=
 if (bp l s.a).2.2.1≠0 then iT n l s (bp l s.a).2.2.1 (bp l s.a).2.2.2 else go (bp l s.a).1 (bp l s.a).2.1
def rR (n:Int)(l:aX)(fin:Bool)(J:RS->Bool×RS)(s:RS):Bool×RS :=
 if s.a=l.length/\fin=true then (true,s) else if dK l s.a [44]=true then J { s with a:=s.a+1 } else iT n l s 4 s.a
def rS (l:aX)(a:Int):Option au:=match at? l a with
 |some t=>if t.1=3 then some t.2.2.1 else none
 |none=>none
def B5 (n:Int)(l:aX):Nat->RS->Bool×RS
 |0,s=>(false,s)
 |m+1,s=>if s.data.length=64 then iT n l s 3 s.a else match rS l s.a with
  |some t=>rR n l true (B5 n l m) { s with a:=s.a+1,data:=s.data++[(t,[])] }
  |none=>Dj n l s λx e=>rR n l true (B5 n l m) { s with a:=e,data:=s.data++[([],x)] }
def HM (n:Int)(l:aX):Nat->RS->Bool×RS
 |0,s=>(false,s)
 |m+1,s=>if s.data.length=3 then iT n l s 3 s.a else Dj n l s λx e=>rR n l (bN 1 ((s.data.length+1:Nat):Int)) (HM n l m) { s with a:=e,data:=s.data++[([],x)] }
section
variable {n:Int} {l:aX}
theorem ad3 {a:Int}(d:0<=a)(go:au->eW)(ex:eW):ah (bN a l.length) (zB l a λy=>ah (bS y.1 3) (zB l a λy=>go y.2.2.1) ex) ex=(match rS l a with
 |some t=>go t
 |none=>ex):=by
 unfold zB rS;rw[de,getI_at?];cases b:at? l a with
 |none=>have:=kM d b;rw[aa (by omega)]
 |some c =>
  rw[ag (jR b).2];show ah (bS c.1 3) (go c.2.2.1) ex=_;rw[cH];by_cases h:c.1=3
  .rw[ag h];simp only;rw[ag h]
  rw[aa h];simp only;rw[aa h]
theorem VG {a:Int}{t:au}(h:rS l a=some t):a<l.length:=by
 unfold rS at h;split at h
 .rename_i c b;exact(jR b).2
 cases h
theorem ajK (c:l.length<=200000){s:RS}{nd nx b:Nat}(go:bz->Int->eW):exT n l s nd nx b go=if (bp l s.a).2.2.1≠0 then GH false n l (iT n l s (bp l s.a).2.2.1 (bp l s.a).2.2.2).2 nd nx b else go (bp l s.a).1 (bp l s.a).2.1:=by
 unfold exT;rw[eN (show l.length<=2000000 by omega)];show ah (!bS (bp l s.a).2.2.1 0) _ _=_;rw[cF,yB (GI l s.a)];by_cases h:(bp l s.a).2.2.1=0
 .rw[ag h,aa (show ¬(bp l s.a).2.2.1≠0 from λq=>q h)]
 rw[aa h,ag h]
theorem Lz (c:l.length<=200000){s:RS}{go:bz->Int->eW}{goF:bz->Int->Bool×RS}(h:∀x e,s.a<e->e<=l.length->go x e=fV n l (goF x e)) :
 exT n l s s.data.length s.x.length s.ai.length go=fV n l (Dj n l s goF):=by
 rw[ajK c];unfold Dj;by_cases b:(bp l s.a).2.2.1=0
 .obtain ⟨d,f⟩:=qM b;rw[aa (show ¬(bp l s.a).2.2.1≠0 from λq=>q b),aa (show ¬(bp l s.a).2.2.1≠0 from λq=>q b)];exact h _ _ d f
 rw[ag b,ag b];rfl
theorem ZE (k:l.length<=200000){s:RS}{fin:Bool}{J:RS->eW}{JF:RS->Bool×RS}(f:0<=s.a)(m:s.a<=l.length) (i:s.a<l.length->J { s with a:=s.a+1 }=fV n l (JF { s with a:=s.a+1 })) :
 (λg:eW=>ah (bS s.a l.length) (ah fin (fV n l (true,s)) g) g) (isN l s.a 4 [44] (oP n l s s.data.length s.x.length s.ai.length 4 s.a) (J { s with a:=IntKind.wrap .i64 (s.a+1) }))=fV n l (rR n l fin JF s):=by
 simp only;unfold rR;rw[ajE f,yB f,i64_in (n:=s.a+1) (by omega) (by omega)];have e:(if dK l s.a [44]=true then J { s with a:=s.a+1 } else GH false n l (iT n l s 4 s.a).2 s.data.length s.x.length s.ai.length)=fV n l (if dK l s.a [44]=true then JF { s with a:=s.a+1 } else iT n l s 4 s.a):=by
  by_cases b:dK l s.a [44]=true
  .rw[ag b,ag b];obtain⟨c,j,_⟩:=jV b;exact i (jR j).2
  rw[aa b,aa b];rfl
 rw[e,cH];by_cases d:s.a=l.length
 .rw[ag d];cases fin with
  |true=>rw[ag (show s.a=(l.length:Int)/\true=true from ⟨d,rfl⟩)]
  |false=>rw[aa (show ¬(s.a=l.length/\false=true) from λh=>by cases h.2)]
 rw[aa d,aa (show ¬(s.a=l.length/\fin=true) from λh=>d h.1)]
theorem ZF (j:l.length<=200000){r:Nat}:∀(m:Nat) (s:RS),s.args=[]->0<=s.a->s.a<=l.length->s.data.length<=64->65<=s.data.length+m->jDt n l r m s s.data.length s.x.length s.ai.length=fV n l (B5 n l m s)
 |0,s,_,_,_,k,o=>by omega
 |m+1,⟨a,lab,aC,sz,op,aM,args,data,x,ai,e,f⟩,h,i,k,o,q=>by
  have h:args=[]:=h;subst h;have i:0<=a:=i;have k:a<=l.length:=k;have o:data.length<=64:=o;have q:65<=data.length+(m+1):=q;rw[ajI];unfold ZC B5;simp only;rw[eN (show data.length+1<=2000000 by omega),cH];by_cases u:data.length=64
  .rw[ag (show ((data.length:Nat):Int)=64 by omega),ag u,yB i];rfl
  rw[aa (show ¬((data.length:Nat):Int)=64 by omega),aa u];have c:∀(d:Dt) (b:Int),a<b->b<=l.length->(ah true (ah (bS b l.length) (GH true n l { a:=b,lab:=lab,aC:=aC,sz:=sz,op:=op,aM:=aM,args:=[],data:=data++[d],x:=x,ai:=ai,e:=e,f:=f } (data.length+1) x.length ai.length)
   (isN l b 4 [44] (oP n l { a:=b,lab:=lab,aC:=aC,sz:=sz,op:=op,aM:=aM,args:=[],data:=data++[d],x:=x,ai:=ai,e:=e,f:=f } (data.length+1) x.length ai.length 4 b)
    (jDt n l r m { a:=IntKind.wrap .i64 (b+1),lab:=lab,aC:=aC,sz:=sz,op:=op,aM:=aM,args:=[],data:=data++[d],x:=x,ai:=ai,e:=e,f:=f } (data.length+1) x.length ai.length))) none) =
   fV n l (rR n l true (B5 n l m) { a:=b,lab:=lab,aC:=aC,sz:=sz,op:=op,aM:=aM,args:=[],data:=data++[d],x:=x,ai:=ai,e:=e,f:=f }):=λd b g p=>by
   have hlen:(data++[d]).length=data.length+1:=by simp
   have:=ZE (n:=n) j (s:={ a:=b,lab:=lab,aC:=aC,sz:=sz,op:=op,aM:=aM,args:=[],data:=data++[d],x:=x,ai:=ai,e:=e,f:=f }) (fin:=true) (J:=λs=>jDt n l r m s s.data.length s.x.length s.ai.length) (JF:=B5 n l m) (show 0<=b by omega) p (λv=>ZF j m _ rfl (show 0<=b+1 by omega) (show b+1<=l.length by have v:b<l.length:=v;omega) (show (data++[d]).length<=64 by omega) (show 65<=(data++[d]).length+m by omega));simp only[hlen]at this;rw[<-this];show ah (bS b l.length) (GH true n l _ (data.length+1) _ _) _=ah (bS b l.length) (GH true n l _ (data++[d]).length _ _) _
   rw[hlen]
  rw[show (IntKind.wrap .i64 (a+1))=a+1 from i64_in (by omega) (by omega)];refine(ad3 (l:=l) i (λt=>ah true (ah (bS (a+1) l.length) (GH true n l { a:=a+1,lab:=lab,aC:=aC,sz:=sz,op:=op,aM:=aM,args:=[],data:=data++[(t,[])],x:=x,ai:=ai,e:=e,f:=f } (data.length+1) x.length ai.length)
   (isN l (a+1) 4 [44] (oP n l { a:=a+1,lab:=lab,aC:=aC,sz:=sz,op:=op,aM:=aM,args:=[],data:=data++[(t,[])],x:=x,ai:=ai,e:=e,f:=f } (data.length+1) x.length ai.length 4 (a+1))
    (jDt n l r m { a:=IntKind.wrap .i64 (a+1+1),lab:=lab,aC:=aC,sz:=sz,op:=op,aM:=aM,args:=[],data:=data++[(t,[])],x:=x,ai:=ai,e:=e,f:=f } (data.length+1) x.length ai.length))) none) _).trans ?_
  cases w:rS l a with
  |some t=>exact c (t,[]) (a+1) (by omega) (by have:=VG w;omega)
  |none=>exact Lz (n:=n) j (s:=⟨a,lab,aC,sz,op,aM,[],data,x,ai,e,f⟩) λy b g p=>c ([],y) b g p
theorem ZG (g:l.length<=200000){r:Nat}:∀(m:Nat) (s:RS),s.args=[]->0<=s.a->s.a<=l.length->s.data.length<=3->4<=s.data.length+m->jDc n l r m s s.data.length s.x.length s.ai.length=fV n l (HM n l m s)
 |0,s,_,_,_,i,j=>by omega
 |m+1,⟨a,lab,aC,sz,op,aM,args,data,x,ai,e,f⟩,h,k,i,j,o=>by
  have h:args=[]:=h;subst h;have k:0<=a:=k;have i:a<=l.length:=i;have j:data.length<=3:=j;have o:4<=data.length+(m+1):=o;rw[ajJ];unfold ZD HM;simp only;rw[eN (show data.length+1<=2000000 by omega),cH];by_cases p:data.length=3
  .rw[ag (show ((data.length:Nat):Int)=3 by omega),ag p,yB k];rfl
  rw[aa (show ¬((data.length:Nat):Int)=3 by omega),aa p];refine Lz (n:=n) g (s:=⟨a,lab,aC,sz,op,aM,[],data,x,ai,e,f⟩) λd b c t=>?_
  have hlen:(data++[(([],d):Dt)]).length=data.length+1:=by simp
  have:=ZE (n:=n) g (s:={ a:=b,lab:=lab,aC:=aC,sz:=sz,op:=op,aM:=aM,args:=[],data:=data++[([],d)],x:=x,ai:=ai,e:=e,f:=f }) (fin:=bN 1 ((data.length+1:Nat):Int)) (J:=λs=>jDc n l r m s s.data.length s.x.length s.ai.length) (JF:=HM n l m) (show 0<=b by have c:a<b:=c;omega) t (λq=>ZG g m _ rfl (show 0<=b+1 by have c:a<b:=c;omega) (show b+1<=l.length by have q:b<l.length:=q;omega) (show (data++[([],d)]).length<=3 by omega) (show 4<=(data++[([],d)]).length+m by omega))
  simp only[hlen]at this;rw[<-this];show ah (bS b l.length) (ah _ (GH true n l _ (data.length+1) _ _) _) _=ah (bS b l.length) (ah _ (GH true n l _ (data++[([],d)]).length _ _) _) _;rw[hlen]
end
def iJ (l:aX)(a:Int):au:=match at? l a with
 |some t=>t.2.2.1
 |none=>[]
def inL (l:aX)(a:Int):Bool:=Nat.ble l.length 200000 && !bN a 0&&bN a l.length
def yC (n:Int)(l:aX)(s:RS):Bool×RS:=B5 n l 70 { s with a:=s.a+1,aC:=2,sz:=qc (iJ l s.a) }
def LA (n:Int)(l:aX)(s:RS):Bool×RS:=HM n l 70 { s with a:=s.a+1,aC:=9 }
def FDt:FRd:=λn l s=>some (inL l s.a&&(!bN (iJ l s.a).length 1&&Nat.ble (iJ l s.a).length 2000000),yC n l s)
def FDc:FRd:=λn l s=>some (inL l s.a,LA n l s)
theorem OB {l:aX}{a:Int}(h:inL l a=true):l.length<=200000/\0<=a/\a<l.length:=by
 unfold inL at h;simp only[ak,aU]at h;have d:=aB h.1.1;have b:=h.1.2;have c:=h.2;rw[dc]at b c;refine⟨d,?_,?_⟩
 .simpa using b
 simpa using c
theorem ajL:iI X0 gR 68 (cRd FDt) :=
 Rq rfl Ju ZB λn l s b p d g h c=>by
  obtain⟨a,lab,aC,sz,op,aM,args,data,x,ai,e,f⟩:=s;have d:args=[]:=d;have g:data=[]:=g;have h:x=[]:=h;subst d;subst g;subst h;unfold FDt at c;simp only[aq,az,ak,aU]at c;obtain⟨⟨g1,j,k⟩,c⟩:=c;obtain⟨g1,q,u⟩:=OB g1;refine⟨VF,70,?_⟩;rw[ad1];unfold zB;rw[getI_at?];obtain⟨t,m⟩:=tq q u;rw[m];have o:iJ l a=t.2.2.1:=by unfold iJ;rw[m]
  rw[o]at j k;show ah (!bN t.2.2.1.length 1&&Nat.ble t.2.2.1.length 2000000) _ _=_;rw[j,k,i64_in (n:=a+1) (by omega) (by omega)];have:=ZF (n:=n) g1 (r:=70) 70 ⟨a+1,lab,2,qc t.2.2.1,op,aM,[],[],[],ai,e,f⟩ rfl (show 0<=a+1 by omega) (show a+1<=l.length by omega) (by simp) (by simp);refine Eq.trans this ?_;have i:yC n l ⟨a,lab,aC,sz,op,aM,[],[],[],ai,e,f⟩=(b,p):=c;unfold yC at i;simp only[o]at i;rw[i];rfl
theorem ajM:iI X0 gR 74 (cRd FDc) :=
 Rq rfl Ju ZB λn l s b j d g h c=>by
  obtain⟨a,lab,aC,sz,op,aM,args,data,x,ai,e,f⟩:=s;have d:args=[]:=d;have g:data=[]:=g;have h:x=[]:=h;subst d;subst g;subst h;unfold FDc at c;simp only[aq,az]at c;obtain⟨g1,c⟩:=c;obtain⟨g1,k,m⟩:=OB g1;refine⟨VF,70,?_⟩;rw[ad2,i64_in (n:=a+1) (by omega) (by omega)];have:=ZG (n:=n) g1 (r:=70) 70 ⟨a+1,lab,9,sz,op,aM,[],[],[],ai,e,f⟩ rfl (show 0<=a+1 by omega) (show a+1<=l.length by omega) (by simp) (by simp);refine Eq.trans this ?_
  have i:LA n l ⟨a,lab,aC,sz,op,aM,[],[],[],ai,e,f⟩=(b,j):=c;unfold LA at i;rw[i];rfl
def ND:List rf:=(68,cRd FDt)::(74,cRd FDc)::NC
theorem agF:jc X0 gR ND:=.cons ajL (.cons ajM ZB)
theorem ZH {sg:au}{r:Rg}{a:Int}{s:TS}(h:0<=a):0<=(kL sg r a s).2.2.1:=by
 unfold kL;repeat' split
 all_goals first|exact h|exact bL 0
theorem Jw {sg:au}{r:Rg}{a num n:Int}{s:TS}(h:0<=a)(b:0<=num):0<=(gY sg r a num n s).2.2.1:=by
 unfold gY;repeat' split
 all_goals first|exact h|exact b|exact bL 0
theorem ajN {l:aX}{sg:au}{a b:Int}{s:TS}(h:0<=a):0<=(lH rp l sg a b s).2.2.1:=by
 have c:0<=a+2:=by omega
 unfold lH;repeat' split
 all_goals first|exact h|exact ZH h|exact Jw h c|exact Jw h h|exact bL 0
theorem Rs {l:aX}{en:Int}(c:en<l.length):∀(m:Nat) (sg:au) (a:Int) (s:TS) (o:qa),0<=a->a<=en->Pp.n9 rp l en m sg a s=some o->0<=o.2.2.1
 |0,_,_,_,_,_,_,h=>by cases h
 |m+1,sg,a,s,o,d,i,h=>by
  obtain⟨b1,b2⟩:=yz (l:=l) (a:=a) (e:=en) d i (by omega);have g:=ajN (l:=l) (sg:=sg) (a:=a) (b:=eP l a en) (s:=s) d;unfold Pp.n9 at h;split at h
  .split at h
   .cases h;exact bL 0
   split at h
   .exact Rs c m _ _ _ o (by omega) (by omega) h
   cases h
  rename_i x f k j;cases h;rw[j]at g;exact g
theorem ajO {l:aX}{op en:Int}{s:TS}(k:0<=op)(b:op+1<=en)(e:en<l.length)(g:dK l en [93]=true):0<=(lB l op en s).2.2.1:=by
 obtain⟨ce,a,i⟩:=jV g;have key:∀r:Option qa,(∀o,r=some o->0<=o.2.2.1)->0<=(r.getD (lC s 0 0)).2.2.1:=λr b=>by
  cases r with
  |none=>exact bL 0
  |some o=>exact b o rfl
 unfold lB;refine key _ λo c=>?_
 split at c
 .rename_i d;have:op+2<=en:=by
   by_cases j:en=op+1
   .exfalso;rw[j]at a;rcases d with h|h<;>(obtain⟨c2,f,k2⟩:=jV h;rw[a]at f;cases f;rw[Dh i (by decide)]at k2;cases k2)
   omega
  exact Rs e _ _ _ _ o (by omega) this c
 exact Rs e _ _ _ _ o (by omega) b c
theorem OC {l:aX}{op sz:Int}(b:0<=op)(f:op<l.length):0<=(l5 l op sz).2.2.2:=by
 unfold l5;split
 .split
  .exact GI _ _
  rename_i a;have a:=cD.1 a;obtain⟨q1,q2⟩:=qM a;split
  .exact bL 0
  show 0<=(bp l (op+2)).2.1;omega
 split
 .show (0:Int)<=l.length;omega
 rename_i en c;obtain⟨c1,c2,d⟩:=zc (by omega) (by omega) c;have e:=ajO (s:=Jn) b c1 c2 d;unfold xz;repeat' split
 all_goals first|exact e|exact b|exact bL 0
theorem Rt {l:aX}{a:Int}:0<=(bE l a).2.2.2:=by
 have d:0<=(AO (bp l a)).2.2.2:=by
  unfold AO;split
  .exact GI _ _
  exact bL 0
 unfold bE;split
 .exact bL 0
 split
 .exact d
 rename_i t e;have b:=(jR e).2;split
 .exact bL 0
 split
 .split
  .rename_i f;obtain⟨c,g,_⟩:=jV f;exact OC (by omega) (jR g).2
  show 0<=a+1;omega
 split
 .exact OC (by omega) b
 exact d
theorem agG {l:aX}{op aM:Int}(d:l.length<=200000):∀(m:Nat) (a:Int) (args:eO) (c:H7),Ed l op aM m a args=some c->0<=c.2.2.2.2
 |0,_,_,_,h=>by cases h
 |m+1,a,args,c,h=>by
  unfold Ed at h;split at h
  .cases h;exact Rt
  rename_i b;have b:=cD.1 b;obtain⟨f,q1,q2⟩:=yA d b;have e:0<=(bE l a).2.1:=by omega
  split at h
  .cases h;exact bL 0
  split at h
  .cases h;exact e
  split at h
  .cases h;exact e
  exact agG d m _ _ c h
theorem Ru {l:aX}{a:Int}(e:l.length<=200000):0<=(dY l a).2.2.2.2:=by
 unfold dY;split
 .exact bL 0
 split
 .show 0<=a;omega
 unfold Oy;generalize (if lI l a=0 then a+1 else a+2)=b;by_cases d:b=(l.length:Int)
 .rw[ag d];exact bL 0
 rw[aa d];cases f:Ed l (Eb l a).1 (lI l a) 5 b [] with
 |none=>exact bL 0
 |some c=>exact agG e _ _ _ _ f
end
end Go.Proofs.YtbeckacfibledaaGreatDoor.ps
namespace Go.Proofs.YtbeckacfibledaaGreatDoor.ps
open Go.Tv Go.Ev Go.Px Go.Pp Go.Proofs.YtbeckacfibledaaGreatDoor.ex
set_option maxRecDepth 100000
def zt (t:Tok):Tok:=(t.1,t.2.1,t.2.2.1,0)
def zl (l:aX):aX:=l.map zt
theorem um (l:aX):(zl l).length=l.length:=by simp[zl]
theorem sI (l:aX)(i:Int):at? (zl l) i=(at? l i).map zt:=by
 cases i with
 |ofNat n=>simp[at?,zl]
 |negSucc n=>rfl
section
variable {nm:au->Bool} {l:aX}
theorem ajP (rec:Int->St->l7)(st:St)(k:St->l7):ou nm (zl l) rec st k=ou nm l rec st k:=by
 unfold ou;rw[sI];cases at? l st.a with
 |none=>rfl
 |some t =>
  simp only[bP];have b:zy nm (zt t)=zy nm t:=rfl;have e2:pref (zt t)=pref t:=rfl;have c:qP (zt t) [40]=qP t [40]:=rfl;rw[b,e2,c];cases zy nm t with
  |some n=>rfl
  |none =>
   cases pref t with
   |some op=>rfl
   |none =>
    simp only;by_cases h:qP t [40]=true
    .rw[ag h,ag h];refine bO (ri st) (funext λd=>bO (Le (rec 1 d)) (funext λe=>?_));rw[sI];cases at? l e.a<;>rfl
    rw[aa h,aa h]
theorem ZI (rec:Int->St->l7)(str:Int):∀n:Nat,jQ (zl l) rec str n=jQ l rec str n
 |0=>rfl
 |n+1=>by
  funext st
  unfold jQ;rw[sI,ZI rec str n];cases at? l st.a with
  |none=>rfl
  |some t=>rfl
theorem Tz:∀k:Nat,ef nm (zl l) k=ef nm l k
 |0=>rfl
 |k+1=>by
  funext str st
  show ou nm (zl l) (ef nm (zl l) k) st (jQ (zl l) (ef nm (zl l) k) str ((zl l).length+1))=ou nm l (ef nm l k) st (jQ l (ef nm l k) str (l.length+1));rw[Tz k,um,ajP,ZI]
theorem ad4 (a:Int):oa nm (zl l) a=oa nm l a:=by
 unfold oa;rw[um,Tz]
end
theorem B6 (l:aX)(a:Int):bp (zl l) a=bp l a:=by unfold bp;rw[ad4]
def zS (s:TS):TS:={ s with put:=zl s.put }
def zO (o:qa):qa:=(o.1,o.2.1,o.2.2.1,zS o.2.2.2)
theorem AQ (a b:aX):zl (a++b)=zl a++zl b:=by simp[zl]
theorem GJ (s:au):zl [Gq s]=[Gq s]:=rfl
theorem apa (l:aX)(a b:Int):Df (zl l) a b=zl (Df l a b):=by
 unfold Df zl;rw[List.map_take,List.map_drop]
theorem tv (l:aX)(a:Int)(s:au):dK (zl l) a s=dK l a s:=by
 unfold dK;rw[sI];cases at? l a<;>rfl
theorem LB (l:aX)(sg:au)(a b:Int)(s:TS):od (zl l) sg a b (zS s)=zO (od l sg a b s):=by
 unfold od okO zO zS;simp only;have c:(zl s.put≠[])↔s.put≠[]:=by unfold zl;simp
 rw[apa];by_cases h:sg=[45]\/s.put≠[]
 .rw[ag h,ag (h.imp id c.2),AQ,AQ,AQ,AQ,GJ,GJ,GJ]
 rw[aa h,aa (λq=>h (q.imp id c.1)),AQ,AQ,AQ,GJ,GJ]
theorem TA (sg:au)(r:Rg)(a:Int)(s:TS):kL sg r a (zS s)=zO (kL sg r a s):=by
 unfold kL;show (if sg=[45] then lC (zS s) 2 a else if s.bc=0/\s.bn=0 then _ else if s.ic=0/\s.ix=0 then _ else _)=_;repeat' split
 all_goals rfl
theorem ZJ (sg:au)(r:Rg)(a num n:Int)(s:TS):gY sg r a num n (zS s)=zO (gY sg r a num n s):=by
 unfold gY;show (if sg=[45]\/¬(s.ic=0/\s.ix=0) then lC (zS s) 2 a else if ru n=true then _ else _)=_;repeat' split
 all_goals rfl
theorem ZK (t:Tok):qb rp (zt t)=qb rp t:=rfl
theorem apb (l:aX)(sg:au)(a b:Int)(s:TS):lH rp (zl l) sg a b (zS s)=zO (lH rp l sg a b s):=by
 unfold lH;by_cases c:b-a=0
 .rw[ag c,ag c];rfl
 rw[aa c,aa c];by_cases d:b-a=1
 .rw[ag d,ag d,sI];cases at? l a with
  |none=>rfl
  |some t =>
   simp only[bP];have g:oO (zt t) [114,105,112]=oO t [114,105,112]:=rfl;rw[g,ZK];by_cases e:oO t [114,105,112]=true
   .rw[ag e,ag e,TA]
   rw[aa e,aa e];cases qb rp t with
   |some r=>exact TA _ _ _ _
   |none=>exact LB _ _ _ _ _
 rw[aa d,aa d,tv];by_cases f:b-a=3/\dK l (a+1) [42]=true
 .rw[ag f,ag f,sI,sI];cases at? l a with
  |none=>rfl
  |some t =>
   cases at? l (a+2) with
   |none=>rfl
   |some u =>
    simp only[bP];rw[ZK,ZK];have g:(zt t).1=t.1:=rfl;have e2:(zt u).1=u.1:=rfl;have h:(zt t).2.1=t.2.1:=rfl;have i:(zt u).2.1=u.2.1:=rfl;rw[g,e2,h,i,LB];cases qb rp t<;>cases qb rp u<;>simp only<;>(repeat' split)<;>first|rfl|exact ZJ _ _ _ _ _ _
 rw[aa f,aa f];exact LB _ _ _ _ _
theorem EG (e:Int):∀(r:aX) (p:Tok) (a d:Int),pq e (zt p) (zl r) a d=pq e p r a d
 |[],_,_,_=>rfl
 |t::r,p,a,d=>by
  show pq e (zt p) (zt t::zl r) a d=_;unfold pq;rw[EG e r t,EG e r t,EG e r t];rfl
theorem ad5 (l:aX)(a e:Int):eP (zl l) a e=eP l a e:=by
 unfold eP;rw[sI];have b:((at? l (a-1)).map zt).getD Ea=zt ((at? l (a-1)).getD Ea):=by cases at? l (a-1)<;>rfl
 have c:((zl l).take e.toNat).drop a.toNat=zl ((l.take e.toNat).drop a.toNat):=by unfold zl;rw[List.map_drop,List.map_take]
 rw[b,c,EG]
theorem B7:∀(r:aX) (a d:Int),lZ (zl r) a d=lZ r a d
 |[],_,_=>rfl
 |t::r,a,d=>by
  show lZ (zt t::zl r) a d=_;unfold lZ;rw[B7 r,B7 r,B7 r];rfl
theorem ZL (l:aX)(a:Int):jU (zl l) a=jU l a:=by
 unfold jU;rw[show (zl l).drop a.toNat=zl (l.drop a.toNat) by unfold zl;rw[List.map_drop],B7]
theorem Rv (l:aX)(e:Int):∀(n:Nat) (sg:au) (a:Int) (s:TS),Pp.n9 rp (zl l) e n sg a (zS s)=(Pp.n9 rp l e n sg a s).map zO
 |0,_,_,_=>rfl
 |n+1,sg,a,s=>by
  unfold Pp.n9;rw[ad5,apb,sI];cases h:lH rp l sg a (eP l a e) s with
  |mk b q =>
   obtain⟨x,f,d⟩:=q;cases b with
   |false=>rfl
   |true =>
    show (if eP l a e=e then _ else _)=_;by_cases c:eP l a e=e
    .rw[ag c];simp only;rw[ag c];rfl
    rw[aa c];simp only;rw[aa c];cases at? l (eP l a e) with
    |none=>rfl
    |some t=>exact Rv l e n _ _ d
theorem ajQ (l:aX)(op en:Int)(s:TS):lB (zl l) op en (zS s)=zO (lB l op en s):=by
 unfold lB;rw[tv,tv,um,sI];have a:(((at? l (op+1)).map zt).getD Ea).2.2.1=((at? l (op+1)).getD Ea).2.2.1:=by cases at? l (op+1)<;>rfl
 have b:∀r:Option qa,(r.map zO).getD (lC (zS s) 0 0)=zO (r.getD (lC s 0 0)):=λr=>by cases r<;>rfl
 rw[a,Rv,Rv];split<;>exact b _
theorem ajR (l:aX)(op en sz:Int)(o:qa):xz (zl l) op en sz (zO o)=xz l op en sz o:=by
 obtain⟨b,x,f,s⟩:=o;unfold xz zO zS;simp only;rw[B6,um];have a:(zl s.put=[])↔s.put=[]:=by unfold zl;simp
 by_cases h:s.put=[]
 .rw[ag h,ag (a.2 h)];rfl
 rw[aa h,aa (λq=>h (a.1 q))];rfl
theorem ad6 (l:aX)(op sz:Int):l5 (zl l) op sz=l5 l op sz:=by
 unfold l5;rw[sI,B6,tv,ZL,um];have a:oO (((at? l (op+1)).map zt).getD Ea) [114,101,108]=oO ((at? l (op+1)).getD Ea) [114,101,108]:=by cases at? l (op+1)<;>rfl
 rw[a];split
 .rfl
 cases jU l (op+1) with
 |none=>rfl
 |some en =>
  show xz (zl l) op en sz (lB (zl l) op en (zS Jn))=_;rw[ajQ,ajR]
theorem VH (l:aX)(a:Int):bE (zl l) a=bE l a:=by
 unfold bE;rw[sI,B6,tv,tv,um];simp only[ad6];cases at? l a<;>rfl
theorem apc (l:aX)(a:Int):Eb (zl l) a=Eb l a:=by
 unfold Eb;rw[sI];cases at? l a<;>rfl
theorem ajS (l:aX)(a:Int):lI (zl l) a=lI l a:=by
 unfold lI;rw[sI];cases at? l (a+1)<;>rfl
theorem agH (l:aX)(op aM:Int):∀(n:Nat) (a:Int) (args:eO),Ed (zl l) op aM n a args=Ed l op aM n a args
 |0,_,_=>rfl
 |n+1,a,args=>by
  unfold Ed;rw[VH,tv,um,agH l op aM n]
theorem VI (l:aX)(a:Int):dY (zl l) a=dY l a:=by
 unfold dY Oy;rw[apc,ajS,um,agH]
end Go.Proofs.YtbeckacfibledaaGreatDoor.ps
namespace Go.Proofs.YtbeckacfibledaaGreatDoor.ps
open Go.Tv Go.Ev Go.Px Go.Pp Go.Proofs.YtbeckacfibledaaGreatDoor.ex
set_option maxRecDepth 100000
noncomputable section
abbrev LR:=Bool×RS
def nA (l:aX)(a:Int):Option au:=match at? l a with
 |some t=>if t.1=1 then some t.2.2.1 else none
 |none=>none
def H8:au:=[101,113,117]
def oQ:au:=[116,105,109,101,115]
def AU:au:=[111,114,103]
def qt:au:=[115,116,114,117,99]
def xh:au:=[101,110,100,115,116,114,117,99]
def pV:au:=[97,108,105,103,110]
def ajT:au:=[100,99,120]
def OD:cA:=[[100,98],[100,119],[100,100],[100,113]]
def ad7:cA:=[[114,101,115,98],[114,101,115,119],[114,101,115,100],[114,101,115,113]]
section
variable (n:Int) (l:aX)
def AW (i:Int)(s:RS)(k:RS->LR):LR:=match nA l i with
 |none=>iT n l s 4 i
 |some t=>if lt.wP t=true then iT n l s 7 i else k { s with lab:=t }
def zC (s:RS):LR:=if s.a=l.length then (true,s) else iT n l s 4 s.a
def sW (aC:Int)(s:RS):LR:=Dj n l { s with aC:=aC } λx e=>zC n l { s with aC:=aC,x:=x,a:=e }
def apd (s:RS):LR:=AW n l 0 s λs=>sW n l 3 { s with a:=2 }
def GK (s:RS):LR:=sW n l 8 { s with sz:=qc (iJ l s.a),a:=s.a+1 }
def LC (s:RS):LR:=AW n l (s.a+1) { s with aC:=6 } λs=>zC n l { s with a:=s.a+2 }
def ZM (s:RS):LR:=zC n l { s with aC:=7,a:=s.a+1 }
def Rw (s:RS):LR:=if (dY l s.a).2.2.2.1≠0 then iT n l s (dY l s.a).2.2.2.1 (dY l s.a).2.2.2.2
 else (true,{ s with aC:=1,op:=(dY l s.a).1,aM:=(dY l s.a).2.1,args:=(dY l s.a).2.2.1 })
def gZ (w:au)(s:RS):LR :=
 if w∈OD then yC n l s
 else if w∈ad7 then GK n l s
 else if w=pV then sW n l 4 { s with a:=s.a+1 }
 else if w=AU then sW n l 5 { s with a:=s.a+1 }
 else if w=qt then LC n l s
 else if w=xh then ZM n l s
 else if w=ajT then LA n l s
 else if (nm.lW w).2=true then Rw n l s
 else iT n l s 4 s.a
def Ee (w:au)(dN:Bool)(s:RS):LR :=
 if (w=AU\/w=qt\/w=xh)/\(dN=true\/s.lab≠[]) then iT n l s 4 s.a
 else if w=pV/\dN=true then iT n l s 4 s.a
 else gZ n l w s
def oR (dN:Bool)(s:RS):LR :=
 if s.a=l.length then (if dN=true then iT n l s 4 s.a else (true,s))
 else match nA l s.a with
  |none=>iT n l s 4 s.a
  |some w=>Ee n l w dN s
def og (s:RS):LR :=
 if nA l s.a=some oQ then Dj n l { s with a:=s.a+1 } λx e=>oR n l true { s with ai:=x,a:=e } else oR n l false s
def gM (s:RS):LR :=
 if nA l 1=some H8 then apd n l s
 else if (nA l 0).isSome=true/\dK l 1 [58]=true then AW n l 0 s λs=>og n l { s with a:=2 }
 else og n l s
end
def lJ:RS:=⟨0,[],0,0,0,0,[],[],[],[],0,0⟩
def di (s:au):RS×Int×Int :=
 if (lt.gq s).2.1≠0 then (lJ,(lt.gq s).2.1,(lt.gq s).2.2)
 else if (gM s.length (lt.gq s).1 lJ).1=true then ((gM s.length (lt.gq s).1 lJ).2,0,0)
 else (lJ,(gM s.length (lt.gq s).1 lJ).2.e,(gM s.length (lt.gq s).1 lJ).2.f)
def zR (r:LR):LR:=(r.1,{ r.2 with f:=0 })
section
variable {n n':Int} {l:aX}
theorem GL (a:Int):nA (zl l) a=nA l a:=by
 unfold nA;rw[sI];cases at? l a<;>rfl
theorem ZN (a:Int):rS (zl l) a=rS l a:=by
 unfold rS;rw[sI];cases at? l a<;>rfl
theorem OE (a:Int):iJ (zl l) a=iJ l a:=by
 unfold iJ;rw[sI];cases at? l a<;>rfl
theorem TB {s:RS}{go a:bz->Int->LR}(h:∀x e,zR (go x e)=zR (a x e)):zR (Dj n (zl l) s go)=zR (Dj n' l s a):=by
 unfold Dj;rw[B6];split
 .rfl
 exact h _ _
theorem ZO {fin:Bool}{J a:RS->LR}(h:∀s,zR (J s)=zR (a s)){s:RS}:zR (rR n (zl l) fin J s)=zR (rR n' l fin a s):=by
 unfold rR;rw[um,tv];split
 .rfl
 split
 .exact h _
 rfl
theorem ajU:∀(m:Nat) (s:RS),zR (B5 n (zl l) m s)=zR (B5 n' l m s)
 |0,s=>rfl
 |m+1,s=>by
  unfold B5;rw[ZN];split
  .rfl
  split
  .exact ZO (ajU m)
  exact TB λx e=>ZO (ajU m)
theorem ape:∀(m:Nat) (s:RS),zR (HM n (zl l) m s)=zR (HM n' l m s)
 |0,s=>rfl
 |m+1,s=>by
  unfold HM;split
  .rfl
  exact TB λx e=>ZO (ape m)
theorem ZP {i:Int}{s:RS}{k a:RS->LR}(h:∀s,zR (k s)=zR (a s)):zR (AW n (zl l) i s k)=zR (AW n' l i s a):=by
 unfold AW;rw[GL];split
 .rfl
 split
 .rfl
 exact h _
theorem ZQ (s:RS):zR (zC n (zl l) s)=zR (zC n' l s):=by
 unfold zC;rw[um];split<;>rfl
theorem LD (aC:Int)(s:RS):zR (sW n (zl l) aC s)=zR (sW n' l aC s):=TB λx e=>ZQ _
theorem ajV (w:au)(s:RS):zR (gZ n (zl l) w s)=zR (gZ n' l w s):=by
 unfold gZ;split
 .unfold yC;rw[OE];exact ajU _ _
 split
 .unfold GK;rw[OE];exact LD _ _
 split
 .exact LD _ _
 split
 .exact LD _ _
 split
 .exact ZP λs=>ZQ _
 split
 .exact ZQ _
 split
 .exact ape _ _
 split
 .unfold Rw;rw[VI];split<;>rfl
 rfl
theorem ZR (dN:Bool)(s:RS):zR (oR n (zl l) dN s)=zR (oR n' l dN s):=by
 unfold oR;rw[um,GL];split
 .split<;>rfl
 split
 .rfl
 unfold Ee;split
 .rfl
 split
 .rfl
 exact ajV _ _
theorem TC (s:RS):zR (og n (zl l) s)=zR (og n' l s):=by
 unfold og;rw[GL];split
 .exact TB λx e=>ZR _ _
 exact ZR _ _
theorem ZS (s:RS):zR (gM n (zl l) s)=zR (gM n' l s):=by
 unfold gM;rw[GL,GL,tv];split
 .exact ZP λs=>LD _ _
 split
 .exact ZP λs=>TC _
 exact TC _
end
theorem Jy {n n':Int}{l a:aX}(h:zl l=zl a)(s:RS):zR (gM n l s)=zR (gM n' a s):=by
 rw[<-ZS (n:=0) (n':=n) (l:=l) s,h,ZS (n:=0) (n':=n')]
end
end Go.Proofs.YtbeckacfibledaaGreatDoor.ps

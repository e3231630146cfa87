/- Lines: what is read is not too long. Sources: Read, as it runs. Sources: the contract of Read. -/
import Derived.Test.YtfggompceldfgaaGreatDoorGrj
import Derived.Test.YtfggompceldfgaaGreatDoorGxd
set_option linter.unusedVariables false
set_option linter.unusedSimpArgs false

namespace Go.Proofs.YtfggompceldfgaaGreatDoor.ps.bd
open Go.Tv Go.Ev Go.Px Go.Pp Go.Proofs.YtfggompceldfgaaGreatDoor.ex
set_option maxRecDepth 100000
noncomputable section
def gT (t:Tok):Prop:=t.2.2.1.length<=1100
def gL (l:List Tok):Prop:=∀t∈l,gT t
def gNd (y:Nd):Prop:=y.2.2.1.length<=1100
def gX (x:List Nd):Prop:=x.length<=200/\∀y∈x,gNd y
def gRw (r:Raw):Prop:=gX r.2.2.2.1
def gDt (d:Dt):Prop:=d.1.length<=1100/\gX d.2
theorem ahk {t:Tok}(h:lt.EC t=true):gT t:=by
 unfold lt.EC at h;simp only[ak]at h;exact az h.2
theorem at_mem {α:Type}{l:List α}{i:Int}{t:α}(h:at? l i=some t):t∈l:=by
 unfold at? at h;split at h
 .exact bg h
 cases h
theorem JG (op:Int)(i j:Int):gNd (op,0,[],i,j):=by show (0:Nat)<=1100;omega
theorem ahl {t:Tok}{n:Nd}(ht:gT t)(h:BG bX t=some n):gNd n:=by
 unfold BG at h;split at h
 .cases h;show (0:Nat)<=1100;omega
 split at h
 .cases h;exact ht
 split at h
 .cases h;exact JG _ _ _
 split at h
 .cases h;exact JG _ _ _
 cases h
theorem abJ {x:List Nd}{n:Nd}(hx:gX x)(hl:¬x.length=200)(hn:gNd n):gX (x++[n]) :=
 ⟨by have:=hx.1;rw[aA];show x.length+1<=200;omega,λy hy=>(cr.1 hy).elim (hx.2 y) λh=>by rw[dP.1 h];exact hn⟩
def GR (r:mO):Prop:=∀b st,r=some (b,st)->gX st.x
theorem xO {st:St}{e f:Int}(h:gX st.x):GR (Ai st e f):=λb s hs=>by cases hs;exact h
theorem ac2 {st:St}(h:gX st.x):GR (some (true,st)):=λb s hs=>by cases hs;exact h
theorem JH {st:St}{n:Nd}{f:Int}{k:St->mO}(h:gX st.x)(hn:gNd n)(hk:∀s:St,gX s.x->GR (k s)):GR (sF st n f k):=by
 unfold sF;split
 .exact xO h
 rename_i hne;exact hk _ (abJ h hne hn)
theorem Q9 {st:St}{k:St->mO}(h:gX st.x)(hk:∀s:St,gX s.x->GR (k s)):GR (sG st k):=by
 unfold sG;split
 .exact xO h
 exact hk _ h
theorem Yd {r:mO}{k:St->mO}(hr:GR r)(hk:∀s:St,gX s.x->GR (k s)):GR (Ol r k):=by
 unfold Ol;split
 .rename_i st;exact hk st (hr true st rfl)
 .rename_i st;exact λb s hs=>by cases hs;exact hr false st rfl
 exact λb s hs=>by cases hs
theorem abK {l:List Tok}(hl:gL l){rec:Int->St->mO}{k:St->mO}(hrec:∀s st,gX st.x->GR (rec s st))(hk:∀s:St,gX s.x->GR (k s)){st:St}(h:gX st.x):GR (ri bX l rec st k):=by
 unfold ri;split
 .exact xO h
 rename_i t ht;split
 .rename_i n hn;exact JH h (ahl (hl t (at_mem ht)) hn) hk
 split
 .refine Q9 h λs1 h1=>Yd (hrec _ _ h1) λs hs=>?_
  split
  .exact hk _ hs
  exact JH hs (JG _ _ _) hk
 split
 .refine Q9 h λs1 h1=>Yd (hrec _ _ h1) λs hs=>?_
  split
  .exact xO hs
  split
  .exact hk _ hs
  exact xO hs
 exact xO h
theorem Ra {l:List Tok}{rec:Int->St->mO}(hrec:∀s st,gX st.x->GR (rec s st))(str:Int):∀(n:Nat) (st:St),gX st.x->GR (mj l rec str n st)
 |0,st,h=>λb s hs=>by cases hs
 |n+1,st,h=>by
  unfold mj;split
  .exact ac2 h
  split
  .exact ac2 h
  exact Yd (hrec _ _ h) λs hs=>JH hs (JG _ _ _) λs hs=>Ra hrec str n s hs
theorem Fy {l:List Tok}(hl:gL l):∀(k:Nat) (str:Int) (st:St),gX st.x->GR (eK bX l k str st)
 |0,_,_,_=>λb s hs=>by cases hs
 |k+1,str,st,h=>abK hl (Fy hl k) (λs hs=>Ra (Fy hl k) str _ s hs) h
theorem vr:gX []:=⟨by simp,λy hy=>by cases hy⟩
theorem uF {l:List Tok}(hl:gL l)(a:Int):gX (bq l a).1:=by
 obtain⟨r,hr⟩:=vl (nm:=bX) l a;have e1:bq l a=r:=by unfold bq;rw[hr];rfl
 rw[e1];unfold qc at hr;split at hr
 .cases hr;exact vr
 split at hr
 .rename_i st hc;cases hr;exact Fy hl _ 1 ⟨a,0,[],0,0⟩ vr _ st hc
 .cases hr;exact vr
 cases hr
theorem Pg:gL []:=λy hy=>by cases hy
theorem JI {a b:List Tok}(ha:gL a)(hb:gL b):gL (a++b):=λt ht=>(cr.1 ht).elim (ha t) (hb t)
theorem Ph {w:List UInt8}(h:w.length<=1100):gL [FP w]:=λt ht=>by rw[dP.1 ht];exact h
theorem Tj (sg:List UInt8)(r:Rg)(a:Int)(s:TS):(mG sg r a s).2.2.2.put=s.put:=by
 unfold mG;split
 .rfl
 split
 .rfl
 split<;>rfl
theorem Pj (sg:List UInt8)(r:Rg)(a num n:Int)(s:TS):(iW sg r a num n s).2.2.2.put=s.put:=by
 unfold iW;split
 .rfl
 split<;>rfl
theorem abL {l:List Tok}(hl:gL l){sg:List UInt8}(hs:sg.length<=1100)(a b:Int){s:TS}(h:gL s.put):gL (qV l sg a b s).2.2.2.put:=by
 unfold qV okO;refine JI (JI (JI ?_ (Ph (by decide))) λt ht=>hl t ?_) (Ph (by decide))
 .split
  .exact JI h (Ph hs)
  exact h
 unfold Oq at ht;exact List.mem_of_mem_drop (List.mem_of_mem_take ht)
theorem ak7 {l:List Tok}(hl:gL l){sg:List UInt8}(hs:sg.length<=1100)(a b:Int){s:TS}(h:gL s.put):gL (mP rp l sg a b s).2.2.2.put:=by
 have ha:∀r,gL (mG sg r a s).2.2.2.put:=λr=>by rw[Tj];exact h
 have hc:∀r num n,gL (iW sg r a num n s).2.2.2.put:=λr num n=>by rw[Pj];exact h
 have ho:=abL hl hs a b h;unfold mP;repeat' split
 all_goals first|exact h|exact ha _|exact hc _ _ _|exact ho
theorem Ye {l:List Tok}(hl:gL l)(e:Int):∀(n:Nat) (sg:List UInt8) (a:Int) (s:TS) (o:qL),sg.length<=1100->gL s.put->Pp.oJ rp l e n sg a s=some o->gL o.2.2.2.put
 |0,_,_,_,_,_,_,h=>by cases h
 |n+1,sg,a,s,o,hs,hp,h=>by
  have ho:=ak7 hl hs a (fP l a e) hp;unfold Pp.oJ at h;split at h
  .rename_i x f s' hq;rw[hq]at ho;split at h
   .cases h;exact ho
   split at h
   .rename_i t ht;exact Ye hl e n _ _ _ o (hl t (at_mem ht)) ho h
   cases h
  rename_i x f s' hq;rw[hq]at ho;cases h;exact ho
theorem ahm {l:List Tok}(hl:gL l)(i:Int):((at? l i).getD Wm).2.2.1.length<=1100:=by
 cases h:at? l i with
 |none=>show (0:Nat)<=1100;omega
 |some t=>exact hl t (at_mem h)
theorem ahn {l:List Tok}(hl:gL l)(op en:Int):gL (nr l op en SF).2.2.2.put:=by
 have key:∀r:Option qL,(∀o,r=some o->gL o.2.2.2.put)->gL (r.getD (lC SF 0 0)).2.2.2.put:=λr h1=>by
  cases r with
  |none=>exact Pg
  |some o=>exact h1 o rfl
 unfold nr;refine key _ λo ho=>?_
 split at ho
 .exact Ye hl _ _ _ _ _ _ (ahm hl _) Pg ho
 exact Ye hl _ _ _ _ _ _ (by decide) Pg ho
theorem sU (e f:Int):gRw (jQ e f).1:=vr
theorem Rb {l:List Tok}(hl:gL l)(op sz:Int):gRw (oK l op sz).1:=by
 unfold oK;split
 .split
  .exact sU _ _
  split
  .exact uF hl _
  exact sU _ _
 split
 .exact sU _ _
 rename_i en _;have hp:=ahn hl op en;generalize nr l op en SF=o at hp;unfold EU;split
 .exact sU _ _
 split
 .split
  .exact vr
  exact sU _ _
 split
 .exact sU _ _
 split
 .exact sU _ _
 split
 .exact uF hp _
 exact sU _ _
theorem Tk {l:List Tok}(hl:gL l)(a:Int):gRw (bC l a).1:=by
 have LZ:gRw (CJ (bq l a)).1:=by
  unfold CJ;split
  .exact sU _ _
  exact uF hl _
 unfold bC;split
 .exact sU _ _
 split
 .exact LZ
 split
 .exact vr
 split
 .split
  .exact Rb hl _ _
  exact sU _ _
 split
 .exact Rb hl _ _
 exact LZ
theorem ak8 {op:Int}{w:Raw}(h:gRw w):gRw (CK op w):=by
 unfold CK;split<;>exact h
def gA (l:List Raw):Prop:=∀r∈l,gRw r
theorem ak9 {l:List Tok}(hl:gL l)(op aL:Int):∀(m:Nat) (a:Int) (args:List Raw) (c:Jh),gA args->LY l op aL m a args=some c->gA c.2.2.1
 |0,_,_,_,_,h=>by cases h
 |m+1,a,args,c,h2,h=>by
  have hr:gA (args++[CK op (bC l a).1]):=λr hr=>by
   rcases cr.1 hr with hr|hr
   .exact h2 r hr
   rw[dP.1 hr];exact ak8 (Tk hl _)
  have hn:gA []:=λr hr=>by cases hr
  unfold LY at h;split at h
  .cases h;exact hn
  split at h
  .cases h;exact hr
  split at h
  .cases h;exact hn
  split at h
  .cases h;exact hn
  exact ak9 hl op aL m _ _ c hr h
theorem Tl {l:List Tok}(hl:gL l)(a:Int):gA (ep l a).2.2.1:=by
 have hn:gA []:=λr hr=>by cases hr
 unfold ep;split
 .exact hn
 split
 .exact hn
 unfold SG;generalize (if sK l a=0 then a+1 else a+2)=b;by_cases hb:b=(l.length:Int)
 .rw[ag hb];exact hn
 rw[aa hb];cases hc:LY l (JN l a).1 (sK l a) 5 b [] with
 |none=>exact hn
 |some c=>exact ak9 hl _ _ _ _ _ _ hn hc
theorem Yf {l:List Tok}(op aL:Int):∀(m:Nat) (a:Int) (args:List Raw) (c:Jh),LY l op aL m a args=some c->c.2.2.1.length<=args.length+m
 |0,_,_,_,h=>by cases h
 |m+1,a,args,c,h=>by
  unfold LY at h;split at h
  .cases h;show (0:Nat)<=_;omega
  split at h
  .cases h;show (args++_).length<=_;rw[aA];show args.length+1<=_;omega
  split at h
  .cases h;show (0:Nat)<=_;omega
  split at h
  .cases h;show (0:Nat)<=_;omega
  have:=Yf op aL m _ _ c h;rw[aA]at this;have:c.2.2.1.length<=args.length+1+m:=this;omega
theorem MD (l:List Tok)(a:Int):(ep l a).2.2.1.length<=5:=by
 have z:(0:Nat)<=5:=by omega
 unfold ep;split
 .exact z
 split
 .exact z
 unfold SG;generalize (if sK l a=0 then a+1 else a+2)=b;by_cases hb:b=(l.length:Int)
 .rw[ag hb];exact z
 rw[aa hb];cases hc:LY l (JN l a).1 (sK l a) 5 b [] with
 |none=>exact z
 |some c =>
  have:=Yf _ _ _ _ _ _ hc;show c.2.2.1.length<=5;simpa using this
structure Gl (s:RS):Prop where
 lab:s.lab.length<=1100
 ar:gA s.args
 al:s.args.length<=5
 dt:∀d∈s.data,gDt d
 dl:s.data.length<=64
 x:gX s.x
 t:gX s.ai
section
variable {n:Int} {l:List Tok}
variable (hl:gL l)
theorem tA {s:RS}{e i:Int}(h:Gl s):Gl (gJ n l s e i).2:=⟨h.lab,h.ar,h.al,h.dt,h.dl,h.x,h.t⟩
include hl in
theorem ac3 {s:RS}{go:List Nd->Int->LR}(h:Gl s)(hg:∀x e,gX x->Gl (go x e).2):Gl (JO n l s go).2:=by
 unfold JO;split
 .exact tA h
 exact hg _ _ (uF hl _)
theorem Yg {fin:Bool}{J:RS->LR}{s:RS}(h:Gl s) (hJ:Gl (J { s with a:=s.a+1 }).2):Gl (wY n l fin J s).2:=by
 unfold wY;split
 .exact h
 split
 .exact hJ
 exact tA h
theorem AE {s:RS}{a:Int}{d:Dt}(h:Gl s)(hd:gDt d)(hk:¬s.data.length=64):Gl { s with a:=a,data:=s.data++[d] } :=
 ⟨h.lab,h.ar,h.al,λx hx=>by
  rcases cr.1 hx with hx|hx
  .exact h.dt x hx
  .rw[dP.1 hx];exact hd,by
  have:=h.dl;show (s.data++[d]).length<=64;rw[aA];show s.data.length+1<=64;omega,h.x,h.t⟩
theorem HC {s:RS}{a:Int}(h:Gl s):Gl { s with a:=a }:=⟨h.lab,h.ar,h.al,h.dt,h.dl,h.x,h.t⟩
theorem Yh {x:List Nd}(h:gX x):gDt ([],x):=⟨by show (0:Nat)<=1100;omega,h⟩
include hl in
theorem Yi:∀(m:Nat) (s:RS),Gl s->Gl (Jn n l m s).2
 |0,s,h=>h
 |m+1,s,h=>by
  unfold Jn;split
  .exact tA h
  rename_i hk;split
  .rename_i w hw;have hw2:w.length<=1100:=by
    unfold zc at hw;split at hw
    .rename_i t ht;split at hw
     .cases hw;exact hl t (at_mem ht)
     cases hw
    cases hw
   have hd:gDt (w,[]):=⟨hw2,vr⟩;exact Yg (AE h hd hk) (Yi m _ (HC (AE h hd hk)))
  exact ac3 hl h λx e hx=>Yg (AE h (Yh hx) hk) (Yi m _ (HC (AE h (Yh hx) hk)))
include hl in
theorem ac4:∀(m:Nat) (s:RS),Gl s->s.data.length<=3->Gl (Tz n l m s).2/\(Tz n l m s).2.data.length<=3
 |0,s,h,h3=>⟨h,h3⟩
 |m+1,s,h,h3=>by
  have key:¬s.data.length=3->∀fin:Bool,Gl (wY n l fin (Tz n l m) { s with a:=(bq l s.a).2.1,data:=s.data++[([],(bq l s.a).1)] }).2/\(wY n l fin (Tz n l m) { s with a:=(bq l s.a).2.1,data:=s.data++[([],(bq l s.a).1)] }).2.data.length<=3:=λhk fin=>by
   have hp:=AE (a:=(bq l s.a).2.1) h (Yh (uF hl s.a)) (by omega);have hq:(s.data++[(([],(bq l s.a).1):Dt)]).length<=3:=by rw[aA];show s.data.length+1<=3;omega
   unfold wY;split
   .exact ⟨hp,hq⟩
   split
   .exact ac4 m _ (HC hp) hq
   exact⟨tA hp,hq⟩
  unfold Tz;split
  .exact ⟨tA h,h3⟩
  rename_i hk;unfold JO;split
  .exact ⟨tA h,h3⟩
  exact key hk _
theorem rP {s s':RS}(h:Gl s)(e1:s'.lab=s.lab)(e2:s'.args=s.args)(e3:s'.data=s.data)(e4:s'.x=s.x)(e5:s'.ai=s.ai):Gl s' :=
 ⟨by rw[e1];exact h.lab,by rw[e2];exact h.ar,by rw[e2];exact h.al,by rw[e3];exact h.dt,by rw[e3];exact h.dl,by rw[e4];exact h.x,by rw[e5];exact h.t⟩
structure Gk (s:RS):Prop where
 g:Gl s
 k2:s.aC=2->sr.Ct s.sz=true/\1<=s.data.length
 k8:s.aC=8->sr.Ct s.sz=true
 k9:s.aC=9->s.data.length<=3
def GQ (r:LR):Prop:=Gl r.2/\(r.1=true->Gk r.2)
theorem rQ {s:RS}{e i:Int}(h:Gl s):GQ (gJ n l s e i):=⟨tA h,λq=>by cases q⟩
theorem Rc {s:RS}(h:Gl s)(h2:s.aC≠2)(h8:s.aC≠8)(h9:s.aC≠9):Gk s:=⟨h,λq=>absurd q h2,λq=>absurd q h8,λq=>absurd q h9⟩
theorem ME {r:LR}{k:Int}{w:List UInt8}(h:Gl r.2)(hk:sr.KP k w r)(h2:k≠2)(h8:k≠8)(h9:k≠9):GQ r:=⟨h,λ_=>Rc h (by rw[hk.1];exact h2) (by rw[hk.1];exact h8) (by rw[hk.1];exact h9)⟩
theorem Rd (w:List UInt8):sr.Ct (rq w)=true:=by
 unfold rq;split
 .split
  .decide
  split
  .decide
  split<;>decide
 decide
theorem ac5:∀(m:Nat) (s:RS),(Jn n l m s).2.sz=s.sz/\((Jn n l m s).1=true->1<=(Jn n l m s).2.data.length)
 |0,s=>⟨rfl,λq=>by cases q⟩
 |m+1,s=>by
  have hs:∀(d:Dt) (a:Int),(wY n l true (Jn n l m) { s with a:=a,data:=s.data++[d] }).2.sz=s.sz/\((wY n l true (Jn n l m) { s with a:=a,data:=s.data++[d] }).1=true->1<=(wY n l true (Jn n l m) { s with a:=a,data:=s.data++[d] }).2.data.length):=λd a=>by
   unfold wY;split
   .refine ⟨rfl,λ_=>?_⟩;show 1<=(s.data++[d]).length;rw[aA];show 1<=s.data.length+1;omega
   split
   .exact ac5 m _
   exact⟨rfl,λq=>by cases q⟩
  unfold Jn;split
  .exact ⟨rfl,λq=>by cases q⟩
  split
  .exact hs _ _
  unfold JO;split
  .exact ⟨rfl,λq=>by cases q⟩
  exact hs _ _
theorem Pk {s:RS}(h:Gl s):Gl (BO n l s).2:=by
 unfold BO;split
 .exact h
 exact tA h
include hl in
theorem Dm {aC:Int}{s:RS}(h:Gl s):Gl (vF n l aC s).2 :=
 ac3 hl (s:={ s with aC:=aC }) (rP h rfl rfl rfl rfl rfl) λx e hx=>Pk ⟨h.lab,h.ar,h.al,h.dt,h.dl,hx,h.t⟩
theorem aho {s:RS}:(BO n l s).2.sz=s.sz:=by
 unfold BO;split<;>rfl
theorem abM {aC:Int}{s:RS}:(vF n l aC s).2.sz=s.sz:=by
 unfold vF JO;split
 .rfl
 exact aho
include hl in
theorem Pm {i:Int}{s:RS}{k:RS->LR}(h:Gl s) (hk:∀t,t.length<=1100->GQ (k { s with lab:=t })):GQ (FR n l i s k):=by
 unfold FR;split
 .exact rQ h
 rename_i w hw;split
 .exact rQ h
 refine hk _ ?_;unfold qM at hw;split at hw
 .rename_i t ht;split at hw
  .cases hw;exact hl t (at_mem ht)
  cases hw
 cases hw
theorem Yj {s:RS}{w:List UInt8}(h:Gl s)(hw:w.length<=1100):Gl { s with lab:=w }:=⟨hw,h.ar,h.al,h.dt,h.dl,h.x,h.t⟩
include hl in
theorem abN {w:List UInt8}{s:RS}(h:Gl s)(hd:s.data=[]):GQ (jR n l w s):=by
 unfold jR;split
 .have hg:=Yi (n:=n) hl 70 { s with a:=s.a+1,aC:=2,sz:=rq (j4 l s.a) } (rP h rfl rfl rfl rfl rfl);have hk:=sr.QG (n:=n) (l:=l) 70 { s with a:=s.a+1,aC:=2,sz:=rq (j4 l s.a) };obtain⟨z1,z2⟩:=ac5 (n:=n) (l:=l) 70 { s with a:=s.a+1,aC:=2,sz:=rq (j4 l s.a) };refine⟨hg,λhok=>⟨hg,λ_=>⟨by show sr.Ct (Jn n l 70 _).2.sz=true;rw[z1];exact Rd _,z2 hok⟩,λq=>?_,λq=>?_⟩⟩
  .rw[show (Ao n l s).2.aC=2 from hk.1]at q;exact absurd q (by decide)
  rw[show (Ao n l s).2.aC=2 from hk.1]at q;exact absurd q (by decide)
 split
 .have hg:=Dm (n:=n) (aC:=8) hl (s:={ s with sz:=rq (j4 l s.a),a:=s.a+1 }) (rP h rfl rfl rfl rfl rfl);have hk:=sr.tv (n:=n) (l:=l) 8 { s with sz:=rq (j4 l s.a),a:=s.a+1 };refine⟨hg,λhok=>⟨hg,λq=>?_,λ_=>?_,λq=>?_⟩⟩
  .rw[show (Hl n l s).2.aC=8 from hk.1]at q;exact absurd q (by decide)
  .show sr.Ct (vF n l 8 _).2.sz=true;rw[abM];exact Rd _
  rw[show (Hl n l s).2.aC=8 from hk.1]at q;exact absurd q (by decide)
 split
 .exact ME (Dm hl (HC h)) (sr.tv 4 _) (by decide) (by decide) (by decide)
 split
 .exact ME (Dm hl (HC h)) (sr.tv 5 _) (by decide) (by decide) (by decide)
 split
 .exact Pm hl (s:={ s with aC:=6 }) (rP h rfl rfl rfl rfl rfl) λt ht=>ME (Pk (rP (Yj h ht) rfl rfl rfl rfl rfl)) (sr.Fi _) (by show (6:Int)≠2;decide) (by show (6:Int)≠8;decide) (by show (6:Int)≠9;decide)
 split
 .exact ME (Pk (rP h rfl rfl rfl rfl rfl)) (sr.Fi _) (by show (7:Int)≠2;decide) (by show (7:Int)≠8;decide) (by show (7:Int)≠9;decide)
 split
 .obtain ⟨hg,hg3⟩:=ac4 (n:=n) hl 70 { s with a:=s.a+1,aC:=9 } (rP h rfl rfl rfl rfl rfl) (by show s.data.length<=3;rw[hd];simp);have hk:=sr.Xd (n:=n) (l:=l) 70 { s with a:=s.a+1,aC:=9 };refine⟨hg,λhok=>⟨hg,λq=>?_,λq=>?_,λ_=>hg3⟩⟩
  .rw[show (L3 n l s).2.aC=9 from hk.1]at q;exact absurd q (by decide)
  rw[show (L3 n l s).2.aC=9 from hk.1]at q;exact absurd q (by decide)
 split
 .unfold WQ;split
  .exact rQ h
  have hg:Gl { s with aC:=1,op:=(ep l s.a).1,aL:=(ep l s.a).2.1,args:=(ep l s.a).2.2.1 }:=⟨h.lab,Tl hl _,MD l _,h.dt,h.dl,h.x,h.t⟩;exact⟨hg,λ_=>Rc hg (by show (1:Int)≠2;decide) (by show (1:Int)≠8;decide) (by show (1:Int)≠9;decide)⟩
 exact rQ h
include hl in
theorem Re {cY:Bool}{s:RS}(h:Gl s)(hd:s.data=[])(hk:s.aC=0):GQ (ru n l cY s):=by
 unfold ru;split
 .split
  .exact rQ h
  exact⟨h,λ_=>Rc h (by rw[hk];decide) (by rw[hk];decide) (by rw[hk];decide)⟩
 split
 .exact rQ h
 unfold OS;split
 .exact rQ h
 split
 .exact rQ h
 exact abN hl h hd
include hl in
theorem MF {s:RS}(h:Gl s)(hd:s.data=[])(hk:s.aC=0):GQ (qg n l s):=by
 unfold qg;split
 .unfold JO;split
  .exact rQ (HC h)
  exact Re hl ⟨h.lab,h.ar,h.al,h.dt,h.dl,h.x,uF hl _⟩ hd hk
 exact Re hl h hd hk
theorem ala:Gl ry:=⟨(by show (0:Nat)<=1100;omega),λr hr=>(by cases hr),by simp[ry],λr hr=>(by cases hr),by simp[ry],vr,vr⟩
include hl in
theorem abO:GQ (pQ n l ry):=by
 have h:=ala;unfold pQ;split
 .exact Pm hl h λt ht=>ME (Dm hl (rP (Yj h ht) rfl rfl rfl rfl rfl)) (sr.tv 3 _) (by decide) (by decide) (by decide)
 split
 .exact Pm hl h λt ht=>MF hl (rP (Yj h ht) rfl rfl rfl rfl rfl) rfl rfl
 exact MF hl h rfl rfl
end
theorem ahp (s:List UInt8):gL (lt.j3 s).1:=λt ht=>ahk ((lt.EF s).1 t ht).2
theorem alb:Gk ry:=Rc ala (by decide) (by decide) (by decide)
theorem abP (s:List UInt8):Gk (iK s).1:=by
 have hq:=abO (n:=s.length) (ahp s);unfold iK;split
 .exact alb
 split
 .rename_i h;exact hq.2 h
 exact alb
theorem AF {x:List Nd}(h:gX x):sr.eL x=true:=by
 unfold sr.eL;rw[ee (by have:=h.1;omega),dK];exact aP.2 λy hy=>ee (by have:y.2.2.1.length<=1100:=h.2 y hy;omega)
theorem MG (s:List UInt8):sr.Tg (iK s).1/\(iK s).1.lab.length<=1100:=by
 have h:=abP s;refine⟨⟨by have:=h.g.lab;omega,AF h.g.x,AF h.g.t,?_,?_,h.k2,h.k8,h.k9⟩,h.g.lab⟩
 .unfold sr.oL;rw[ee (by have:=h.g.al;omega),dK];exact aP.2 λr hr=>AF (h.g.ar r hr)
 unfold sr.JQ;rw[ee (by have:=h.g.dl;omega),dK];refine aP.2 λd hd=>?_
 obtain⟨h1,h2⟩:=h.g.dt d hd;rw[ee (by omega),AF h2];rfl
end
end Go.Proofs.YtfggompceldfgaaGreatDoor.ps.bd
namespace Go.Tv
open Go.Ev (ah iD)
noncomputable section
def Yk {β:Type}(X:gU)(call:cI β)(an:eD)(rounds:Nat)(id:FuncId)(p:List Bool)(k:AV->aH->Option β)(l:List AV)(f:fF)(H:aH):Option β :=
 match X.P.funcs[id]? with
 |some fn=>match fn.body with
  |some c=>match jL c p with
   |.rangeFunc _ ps a b=>match ps.toList with
    |[q]=>CZ (jX an.C3 p) q (gY X call an.tr (ng X call an.tr an.ja rounds rounds) rounds a .none) (gY X call an.tr (ng X call an.tr an.ja rounds rounds) rounds b .none)
     (Bu X call an.tr (ng X call an.tr an.ja rounds rounds) rounds p c an.C3 (pn X fn k)) l f H
    |_=>none
   |_=>none
  |none=>none
 |none=>none
def Tm (sg:List (Option (TypeId×Ty)))(v:AV)(H:aH):Option (AV×List Row) :=
 match v with
 |.fH [.agg cs,w]=>gw (.fH [.agg (eG sg cs H).1,w]) (eG sg cs H).2
 |_=>none
theorem Yl {X:gU}{sg:List (Option (TypeId×Ty))}{kn:Ev.fc}{id:FuncId}(hk:∀args,kn id args=none){call:∀ β,cI β}(hcall:∀ β,cT X (dO X kn) (call β)){g:List AV->List Row->Option (Bool×AV×List Row)}
 (h:∀args rows v outs,g args rows=some (true,v,outs)->∃(an:eD) (rounds:Nat),aT X (call (AV×List Row)) an rounds id args (eS (sN rows) rows) (Tm sg)=some (v,outs)):j5 X (dO X kn) id g:=by
 intro args rows v outs hg p S E bM hp hr hgl hl;subst hp;obtain⟨an,rounds,hrun⟩:=h args rows v outs hg;obtain⟨v1,H1,h1,h2⟩:=kV (nf:=false) (hcall _) (λh=>by cases h) hrun;obtain⟨S1,vE,E',a1,a2,a3,a4,_⟩:=h2 S E bM hr hgl hl;unfold Tm at h1;split at h1;case h_2=>cases h1
 rename_i cs w;cases a2 with
 |fH _ m hl1 YC =>
  obtain⟨x,m1,rfl,b1,b2⟩:=(show LV S1 [.agg cs,w] m from ⟨hl1,YC⟩).cons_inv;cases b1 with
  |agg _ m2 CA hm2 =>
   obtain⟨S2,c1,c2,c3,c4,_,_⟩:=tw (sg:=sg) a3 S1.le_refl (St.refl S1 H1 E') (show LV S1 cs m2 from ⟨CA,hm2⟩);have hv:VR S2 (.fH [.agg (eG sg cs H1).1,w]) (.tuple (Value.agg m2.toArray::m1).toArray):=by
    have:=LV.cons (VR.agg _ _ c4.1 c4.2) (b2.mono c1);exact .fH _ _ this.1 this.2
   obtain⟨S3,d1,d2,d3⟩:=O6 h1 c2 hv;have hpar:(eG sg cs H1).2.par=sN rows:=c3.yK.trans (a4.yK.trans (ux _ _).2.2.1);rw[hpar]at d2 d3;exact⟨S3,_,E',fZ hk a1,d1,d2,(a4.trans c3.ML).trans d3⟩
end
end Go.Tv
namespace Go.Proofs.YtfggompceldfgaaGreatDoor.ps.sr
open Go.Tv Go.Ev Go.Px Go.Pp Go.Proofs.YtfggompceldfgaaGreatDoor.ex
set_option maxRecDepth 100000
noncomputable section
def gRe (args:List AV)(rows:List Row):OP :=
 match args,rows with
 |[.ptr 0 0,.agg cs],c::l=>match Fv (.cells 46 cs),uz 0 c l with
  |some (b0,x),some (b,s)=>some (b&&(b0&&(Fw s&&(Nat.ble s.aB.length 999998&&(Nat.ble s.lab.length 100000&&(Nat.ble s.bp.length 200000&&(Nat.ble x.lab.length 100000&&okX x)))))),oh [] (lD iM gS pK s x))
  |_,_=>none
 |_,_=>none
theorem ahq {s:SS}(h:Fw s=true)(h1:s.aB.length<=999998)(h2:s.lab.length<=100000)(h3:s.bp.length<=200000):uG s 999998 1000000000000000 100000:=by
 obtain⟨a,b,c⟩:=mq h;obtain⟨k1,_,_,k4⟩:=sP a;obtain⟨b0,b1⟩:=Mv b;obtain⟨g0,g1⟩:=MA c;exact⟨k1,h2,h3,h1,k4,b0,b1,g0,g1⟩
theorem ahr:j5 X0 gW 32 gRe :=
 nI (λargs=>lt.bS rfl args) (rz qN uy ac1) λargs rows v outs hg=>by
  unfold gRe at hg;split at hg;case h_2=>cases hg
  rename_i cs c l;split at hg;case h_2=>cases hg
  rename_i b0 x b s hx hr;simp only[oh,aq,ax,ak]at hg;obtain⟨⟨rfl,rfl,h1,h2,h3,h4,h5,h6⟩,rfl,rfl⟩:=hg;have hx:=nJ hx;simp only[Mt,Row.cells.injEq,jv]at hx;subst hx;obtain⟨rfl,rfl⟩:=fU hr;exact⟨TB,5,abI (ahq h1 (az h2) (az h3) (az h4)) (by decide) (by decide) (by decide) (Yb h6) (az h5)⟩
def G6:List AB:=(32,⟨81,vO,gRe⟩)::G5
theorem ac6:pI X0 gW G6:=.cons ahr ac1
def N4:List rL:=(19,⟨none,[none],gV fRd⟩)::N3
theorem ac7:js X0 gW N4:=.cons WX acZ
def pRr:List Bool:=[true,true,true,false,true,false]
def Ym:eD:=⟨gZ [2,3,4,18] pRr,.none,[]⟩
abbrev c6:cI (AV×List Row):=cV S1 N4 G6 _
def frR:fF:=lz 63 [(2,.ptr 0 0),(3,.ptr 1 0),(4,.ptr 2 0),(18,.fn 54 [] [.ptr 3 0])]
def mB (s:SS):aH:=pz [.cells 33 [.int .i64 0,.dg,.dg],.cells 52 [.int .i64 0,.int .i64 0],Pa 4,.dead,.cells 81 (YI 7 5 6 s.aB.length s.au.length s),.list 61 kj s.aB 0 false false,.list 56 x6 s.au 0 false false,.mp 79 s.aI]
def mA (ay:Int):aH:=pz [.cells 33 [.int .i64 0,.dg,.dg],.cells 52 [.int .i64 0,.int .i64 0],Pa 4,.dead,.cells 81 [.int .i64 0,.dg,.dg,.ye 5,.str [],.bool false,.str [],.int .i64 0,.bool false,.int .i64 0,.int .i64 ay],.mp 79 []]
def jB (r:Nat)(l:List AV)(s:SS):OG:=Yk X0 c6 Ym r 20 pRr (Tm vO) l frR (mB s)
def jA (r:Nat)(l:List AV)(ay:Int):OG:=Yk X0 c6 Ym r 20 pRr (Tm vO) l frR (mA ay)
def xk (fq:Int)(aB:List Sy)(au:List It)(e ay:Int):OG:=some (.fH [.agg [.int .i64 fq,.own 0 aB.length,.own 1 au.length],.agg [.int .i64 e,.int .i64 ay]],[.list 61 kj aB 0 false false,.list 56 x6 au 0 false false])
def reT (s:SS)(x:RS)(k:SS->Int->OG):OG:=ah (XP s.aB.length s.au.length&&(Fw s&&(Nat.ble s.aB.length 999998&&(Nat.ble s.lab.length 100000&&(Nat.ble s.bp.length 200000&&(Nat.ble x.lab.length 100000&&okX x)))))) (k (lD iM gS pK s x).1 (lD iM gS pK s x).2) none
def E7 (s:SS)(w:List UInt8)(next:SS->OG)(stay:OG):OG :=
 ah (bI (iK w).2.1 0) (reT s (iK w).1 λs' e=>ah (!bI e 0) (xk 0 [] [] e s'.ay) (next s')) (ah (!bI (iK w).2.1 0) (xk 0 [] [] (iK w).2.1 s.ay) stay)
theorem alc (fq:Int)(aB:List Sy)(au:List It)(aI:List (List UInt8×Int))(lab:List UInt8)(opn:Bool)(bp:List UInt8)(aM:Int)(aR:Bool)(aF ay:Int)(r:Nat)(w:List UInt8)(l:List AV) :
 jB r (.str w::l) ⟨fq,aB,au,aI,lab,opn,bp,aM,aR,aF,ay⟩=E7 ⟨fq,aB,au,aI,lab,opn,bp,aM,aR,aF,IntKind.wrap .i64 (ay+1)⟩ w (jB r l) (jB r l ⟨fq,aB,au,aI,lab,opn,bp,aM,aR,aF,IntKind.wrap .i64 (ay+1)⟩):=by kernel_rfl
theorem stepA' (ay:Int)(r:Nat)(w:List UInt8)(l:List AV) :
 jA r (.str w::l) ay=E7 ⟨0,[],[],[],[],false,[],0,false,0,IntKind.wrap .i64 (ay+1)⟩ w (jB r l) (jA r l (IntKind.wrap .i64 (ay+1))):=by kernel_rfl
theorem ald (fq:Int)(aB:List Sy)(au:List It)(aI:List (List UInt8×Int))(lab:List UInt8)(opn:Bool)(bp:List UInt8)(aM:Int)(aR:Bool)(aF ay:Int)(r:Nat) :
 jB r [] ⟨fq,aB,au,aI,lab,opn,bp,aM,aR,aF,ay⟩=ah opn (xk 0 [] [] 8 ay) (xk fq aB au 0 0):=by kernel_rfl
theorem Yn (s:List UInt8)(r:Nat):aT X0 c6 Ym r 20 [.str s] (eS 0 []) (Tm vO)=ah (bB 1048576 (s.length:Int)) (xk 0 [] [] 3 0) (ah (Nat.ble s.length 2000000) (jA r ((sO s).map .str) 0) none):=by kernel_rfl
end
end Go.Proofs.YtfggompceldfgaaGreatDoor.ps.sr
namespace Go.Proofs.YtfggompceldfgaaGreatDoor.ps.sr
open Go.Tv Go.Ev Go.Px Go.Pp Go.Proofs.YtfggompceldfgaaGreatDoor.ex
set_option maxRecDepth 100000
noncomputable section
theorem xl {s:SS}{n:Nat}{g:Int}{w:Nat}{x:List Nd}{K:Int->SR'}(h:uG s n g w)(hK:∀n',uG (K n').1 n g w):uG (pH iM gS s x K).1 n g w:=by
 unfold pH;split
 .exact h
 exact hK _
theorem Rf {sz:Int}(hz:sz=1\/sz=2\/sz=4\/sz=8):∀(l:List Dt) (b:Int),(∀d∈l,d.1.length<=1000000)->0<=b->0<=l.foldl (λn d=>n+QC sz d) b
 |[],b,_,h=>h
 |d::l,b,hd,h=>by
  rw[gk];have:=X5 hz (hd d (by simp));exact Rf hz l _ (λx hx=>hd x (by simp[hx])) (by omega)
theorem abQ {s:SS}{n:Nat}{g:Int}{w:Nat}(h:uG s n g w){x:RS}(hx:Tg x)(hv:x.lab.length<=w)(ho:x.aC=6->s.opn=false){t:Int}(ht:0<=t):uG (yo iM gS pK s x t).1 (n+1) (g+1048576) w:=by
 have up:∀{s':SS},uG s' n g w->uG s' (n+1) (g+1048576) w:=λq=>q.up (fC _) (by omega)
 unfold yo;split
 .unfold Cr;split
  .exact up h
  exact up (BX h rfl (by decide) (by decide) ht)
 split
 .rename_i hk;obtain⟨hz,h1⟩:=hx.k2 hk;unfold Fa;split
  .exact up h
  refine up (BX h ?_ (by omega) (Rf (xd hz) _ _ (λd hd=>((uA hx.data).2 d hd).1) (bx 0)) ht);rw[cz]
 split
 .exact Fx (n:=n) (g:=g) (up h) (xl (up h) λn'=>(Pf h _ _).up (aG _) (by omega))
 split
 .refine xl (up h) λn'=>?_
  split
  .exact up h
  exact up (BX h rfl (by decide) (by decide) (by decide))
 split
 .refine xl (up h) λn'=>?_
  split
  .exact up h
  split
  .exact up h
  exact up ⟨h.kn,h.lab,h.bp,h.aB,h.au,h.b0,h.b1,h.g0,h.g1⟩
 split
 .rename_i hk;have hno:=ho hk;refine up ⟨h.kn,h.lab,?_,h.aB,h.au,h.b0,h.b1,bx _,?_⟩
  .show (fO (cg s) x.lab).length<=2*w;have e:cg s=s.lab:=by unfold cg;rw[hno,aa (by decide)]
   have:=agU (c:=cg s) (w:=x.lab);have h2:=h.lab;rw[e]at this ⊢;omega
  have h1:=h.g0;have h2:=h.g1;show (0:Int)<=g;omega
 split
 .have hq:=Pf h (s.bp++Au) s.aM;exact Fx (n:=n) (g:=g) (up h) (uG.up ⟨hq.kn,hq.lab,hq.bp,hq.aB,hq.au,hq.b0,hq.b1,hq.g0,hq.g1⟩ (aG _) (by omega))
 split
 .rename_i hk;have hz:=xd (hx.k8 hk);refine xl (up h) λn'=>?_
  split
  .exact up h
  rename_i h1;split
  .exact up h
  rename_i h2;have h3:0<=n'*x.sz/\n'*x.sz<=1048576:=by
   rcases hz with e|e|e|e<;>rw[e]at h2 ⊢
   .have:Int.tdiv 1048576 1=1048576:=by decide
    omega
   .have:Int.tdiv 1048576 2=524288:=by decide
    omega
   .have:Int.tdiv 1048576 4=262144:=by decide
    omega
   have:Int.tdiv 1048576 8=131072:=by decide
   omega
  split
  .have g0:=h.g0;have g1:=h.g1;exact⟨h.kn,h.lab,h.bp,Nat.le_succ_of_le h.aB,h.au,h.b0,h.b1,by show 0<=s.aM+n'*x.sz;omega,by show s.aM+n'*x.sz<=g+1048576;omega⟩
  exact up (BX h rfl (by decide) h3.1 ht)
 split
 .unfold L9;split
  .exact up h
  unfold powC;split
  .exact up h
  exact up (BX h rfl (by decide) (by omega) ht)
 exact up h
theorem Rh {s:SS}{n:Nat}{g:Int}{w:Nat}(h:uG s n g w){x:RS}(hx:Tg x)(hv:x.lab.length<=w){t:Int}(ht:0<=t):uG (wZ iM gS pK s x t).1 (n+1) (g+1048576) w:=by
 unfold wZ;split
 .exact h.up (fC _) (by omega)
 rename_i hm;refine abQ h hx hv (λhk=>?_) ht;unfold aax at hm;cases ho:s.opn with
 |false=>rfl
 |true=>rw[ho,ag rfl,ag (by simp[hk])]at hm;exact absurd rfl hm
theorem MH {s:SS}{n:Nat}{g:Int}{w:Nat}(h:uG s n g w){x:RS}(hx:Tg x)(hv:x.lab.length<=w):uG (qY iM gS pK s x).1 (n+1) (g+1048576) w:=by
 unfold qY;split
 .exact Rh h hx hv (by decide)
 refine xl (h.up (fC _) (by omega)) λn'=>?_
 split
 .exact h.up (fC _) (by omega)
 exact Rh h hx hv (by omega)
theorem ac8 {s:SS}{n:Nat}{g:Int}{w:Nat}(h:uG s n g w){x:RS}(hx:Tg x)(hv:x.lab.length<=w):uG (lD iM gS pK s x).1 (n+2) (g+1048576) w:=by
 have hl:=Yc h hv;unfold lD;split
 .split
  .exact hl.up (by omega) (by omega)
  exact MH hl hx hv
 exact(MH h hx hv).up (by omega) (bx _)
def Fz (r:SS×Int):OG:=if r.2≠0 then xk 0 [] [] r.2 r.1.ay else if r.1.opn=true then xk 0 [] [] 8 r.1.ay else xk r.1.fq r.1.aB r.1.au 0 0
theorem ahs {s:SS}{n:Nat}{g:Int}(h:uG s n g 1100)(hn:n<=999998)(hg:g<=1000000000000000){x:RS}(hx:Tg x)(hv:x.lab.length<=1100)(k:SS->Int->OG):reT s x k=k (lD iM gS pK s x).1 (lD iM gS pK s x).2:=by
 have h1:=h.lab;have h2:=h.bp;have h3:=h.aB;unfold reT;rw[qO,h.a (by omega) hg (by decide),ee (by omega),ee (by omega),ee (by omega),ee (by omega),hx.b];rfl
theorem JJ {s:SS}{n:Nat}{g:Int}{w:Nat}(h:uG s n g w)(k:Int):uG { s with ay:=k } n g w:=⟨h.kn,h.lab,h.bp,h.aB,h.au,h.b0,h.b1,h.g0,h.g1⟩
abbrev tP (l:List (List UInt8))(s:SS):SS×Int:=ny iM gS pK iK l s
theorem HF {s:SS}{n:Nat}{g:Int}(h:uG s n g 1100)(hn:n<=999998)(hg:g<=1000000000000000)(h0:0<=s.ay)(h1:s.ay<=1000000)(w:List UInt8)(next:SS->OG)(stay:OG)(l:List (List UInt8))
 (hnext:∀s',uG s' (n+2) (g+1048576) 1100->s'.ay=s.ay+1->next s'=Fz (tP l s')):E7 { s with ay:=IntKind.wrap .i64 (s.ay+1) } w next stay=Fz (tP (w::l) s):=by
 have hl:=JJ h (s.ay+1);obtain⟨hx,hv⟩:=bd.MG w;unfold E7;rw[i64_in (n:=s.ay+1) (by omega) (by omega),ck,cX];unfold tP;rw[zf];by_cases he:(iK w).2.1=0
 .rw[ag he,aa (λq=>q he),ahs hl hn hg hx hv];show ah _ _ _=_;rw[cX];have MW:(lD iM gS pK { s with ay:=s.ay+1 } (iK w).1).1.ay=s.ay+1:=Hq iM gS pK _ _;by_cases h2:(lD iM gS pK { s with ay:=s.ay+1 } (iK w).1).2=0
  .rw[ag h2,aa (λq=>q h2)];exact hnext _ (ac8 hl hx hv) MW
  rw[aa h2,ag h2];unfold Fz;rw[ag h2,MW]
 rw[aa he,aa he,ag he];unfold Fz;rw[ag he]
theorem abR (r:Nat)(w:List UInt8)(l:List AV)(s:SS):jB r (.str w::l) s=E7 { s with ay:=IntKind.wrap .i64 (s.ay+1) } w (jB r l) (jB r l { s with ay:=IntKind.wrap .i64 (s.ay+1) }):=by cases s;exact alc ..
theorem aht (r:Nat)(s:SS):jB r [] s=Fz (tP [] s):=by
 have e:jB r [] s=ah s.opn (xk 0 [] [] 8 s.ay) (xk s.fq s.aB s.au 0 0):=by cases s;exact ald ..
 rw[e];unfold Fz;show _=if (0:Int)≠0 then _ else if s.opn=true then _ else _;rw[aa (by decide),av];rfl
theorem ale (r:Nat):∀(l:List (List UInt8)) (s:SS) (k:Nat),uG s (2*k) (1048576*k) 1100->s.ay=k->k+l.length<=400000->jB r (l.map .str) s=Fz (tP l s):=by
 intro l;induction l with
 |nil=>intro s k _ _ _;exact aht r s
 |cons w l ih =>
  intro s k h hk hn;have hn':k+(l.length+1)<=400000:=by simpa using hn
  rw[cu,abR];refine HF h (by omega) (by omega) (by omega) (by omega) w _ _ l λs' hs' hl'=>?_
  exact ih s' (k+1) (by rw[show 2*(k+1)=2*k+2 by omega,show (1048576*((k+1:Nat):Int))=1048576*(k:Int)+1048576 by omega];exact hs') (by omega) (by omega)
theorem alf:uG BP 0 0 1100:=⟨rfl,by simp[BP],by simp[BP],by simp[BP],by simp[BP],bx _,by decide,bx _,bx _⟩
theorem x9 (r:Nat)(w:List UInt8)(l:List (List UInt8))(hl:l.length<=300000):jA r ((w::l).map .str) 0=Fz (tP (w::l) BP):=by
 rw[cu,stepA'];refine HF (s:=BP) (n:=0) (g:=0) alf (by decide) (by decide) (bx _) (by decide) w _ _ l λs' hs' hl'=>?_
 exact ale r l s' 1 hs' hl' (by omega)
theorem zh:∀(s:List UInt8),(sl.eu s).length<=s.length+1
 |[]=>by simp[sl.eu]
 |c::r=>by
  have h:=zh r;unfold sl.eu;split
  .simp only[aJ]at h ⊢;omega
  split
  .rename_i p ps hq;rw[hq]at h;simp only[aJ]at h ⊢;omega
  simp
theorem wM (s:List UInt8):sl.jr [] [] s=sl.eu s:=by
 rw[sl.oX];have:=sl.qa s;cases h:sl.eu s with
 |nil=>exact absurd h this
 |cons p ps=>rfl
theorem HG (s:List UInt8):sO s=(sl.eu s).map sl.wP:=by unfold sO;rw[wM]
abbrev vP (s:List UInt8):Ls×Int×Int:=zg iM gS pK iK (sO s)
theorem Yo (l:List (List UInt8)):Fz (tP l BP)=xk (zg iM gS pK iK l).1.1 (zg iM gS pK iK l).1.2.1 (zg iM gS pK iK l).1.2.2 (zg iM gS pK iK l).2.1 (zg iM gS pK iK l).2.2:=by
 unfold Fz zg;by_cases h:(ny iM gS pK iK l BP).2≠0
 .rw[ag h,ag h];rfl
 rw[aa h,aa h];by_cases h2:(ny iM gS pK iK l BP).1.opn=true
 .rw[ag h2,ag h2];rfl
 rw[aa h2,aa h2];rfl
def ahu (q:Ls×Int×Int):AV×List Row:=(.fH [.agg [.int .i64 q.1.1,.own 0 q.1.2.1.length,.own 1 q.1.2.2.length],.agg [.int .i64 q.2.1,.int .i64 q.2.2]],[.list 61 kj q.1.2.1 0 false false,.list 56 x6 q.1.2.2 0 false false])
def ahv (args:List AV)(rows:List Row):OP :=
 match args,rows with
 |[.str s],[]=>some (Nat.ble s.length 200000,ahu (vP s))
 |_,_=>none
theorem ahw {s:List UInt8}(hs:s.length<=200000):aT X0 c6 Ym 5 20 [.str s] (eS 0 []) (Tm vO)=some (ahu (vP s)):=by
 rw[Yn,fG (by omega),ee (by omega)];have hl:=zh s;have hne:=sl.qa s;show jA 5 ((sO s).map .str) 0=_;have e:some (ahu (vP s))=Fz (tP (sO s) BP):=(Yo _).symm;rw[e,HG];cases h:sl.eu s with
 |nil=>exact absurd h hne
 |cons w l =>
  rw[h]at hl;simp only[aJ]at hl;exact x9 5 (sl.wP w) (l.map sl.wP) (by rw[cz];omega)
theorem abS:j5 X0 gW 20 ahv :=
 Yl (sg:=vO) (λargs=>lt.bS rfl args) (rz qN ac7 ac6) λargs rows v outs hg=>by
  unfold ahv at hg;split at hg;case h_2=>cases hg
  rename_i s;simp only[aq,ax]at hg;obtain⟨h1,h2⟩:=hg;refine⟨Ym,5,(ahw (az h1)).trans ?_⟩;rw[h2]
def G7:List AB:=(20,⟨0,[],ahv⟩)::G6
theorem alg:pI X0 gW G7:=.cons abS ac6
end
end Go.Proofs.YtfggompceldfgaaGreatDoor.ps.sr

/- Lines: what is read is not too long. Sources: Read, as it runs. Sources: the contract of Read. -/
import Derived.Test.YtbeckacfibledaaGreatDoorGrj
import Derived.Test.YtbeckacfibledaaGreatDoorGxd
set_option linter.unusedVariables false
set_option linter.unusedSimpArgs false

namespace Go.Proofs.YtbeckacfibledaaGreatDoor.ps.bd
open Go.Tv Go.Ev Go.Px Go.Pp Go.Proofs.YtbeckacfibledaaGreatDoor.ex
set_option maxRecDepth 100000
noncomputable section
def gT (t:Tok):Prop:=t.2.2.1.length<=1100
def gL (l:List Tok):Prop:=∀t∈l,gT t
def gNd (y:Nd):Prop:=y.2.2.1.length<=1100
def gX (x:List Nd):Prop:=x.length<=200/\∀y∈x,gNd y
def gRw (r:Raw):Prop:=gX r.2.2.2.1
def gDt (d:Dt):Prop:=d.1.length<=1100/\gX d.2
theorem aiB {t:Tok}(h:lt.EW t=true):gT t:=by
 unfold lt.EW at h;simp only[ak]at h;exact az h.2
theorem at_mem {α:Type}{l:List α}{i:Int}{t:α}(h:at? l i=some t):t∈l:=by
 unfold at? at h;split at h
 .exact bh h
 cases h
theorem Kb (op:Int)(i j:Int):gNd (op,0,[],i,j):=by show (0:Nat)<=1100;omega
theorem aiC {t:Tok}{n:Nd}(ht:gT t)(h:B3 bZ t=some n):gNd n:=by
 unfold B3 at h;split at h
 .cases h;show (0:Nat)<=1100;omega
 split at h
 .cases h;exact ht
 split at h
 .cases h;exact Kb _ _ _
 split at h
 .cases h;exact Kb _ _ _
 cases h
theorem acK {x:List Nd}{n:Nd}(hx:gX x)(hl:¬x.length=200)(hn:gNd n):gX (x++[n]) :=
 ⟨by have:=hx.1;rw[aA];show x.length+1<=200;omega,λy hy=>(cz.1 hy).elim (hx.2 y) λh=>by rw[cZ.1 h];exact hn⟩
def GR (r:mW):Prop:=∀b st,r=some (b,st)->gX st.x
theorem yg {st:St}{e f:Int}(h:gX st.x):GR (AG st e f):=λb s hs=>by cases hs;exact h
theorem ael {st:St}(h:gX st.x):GR (some (true,st)):=λb s hs=>by cases hs;exact h
theorem Kc {st:St}{n:Nd}{f:Int}{k:St->mW}(h:gX st.x)(hn:gNd n)(hk:∀s:St,gX s.x->GR (k s)):GR (sO st n f k):=by
 unfold sO;split
 .exact yg h
 rename_i hne;exact hk _ (acK h hne hn)
theorem RU {st:St}{k:St->mW}(h:gX st.x)(hk:∀s:St,gX s.x->GR (k s)):GR (sP st k):=by
 unfold sP;split
 .exact yg h
 exact hk _ h
theorem YT {r:mW}{k:St->mW}(hr:GR r)(hk:∀s:St,gX s.x->GR (k s)):GR (Pe r k):=by
 unfold Pe;split
 .rename_i st;exact hk st (hr true st rfl)
 .rename_i st;exact λb s hs=>by cases hs;exact hr false st rfl
 exact λb s hs=>by cases hs
theorem acL {l:List Tok}(hl:gL l){rec:Int->St->mW}{k:St->mW}(hrec:∀s st,gX st.x->GR (rec s st))(hk:∀s:St,gX s.x->GR (k s)){st:St}(h:gX st.x):GR (rD bZ l rec st k):=by
 unfold rD;split
 .exact yg h
 rename_i t ht;split
 .rename_i n hn;exact Kc h (aiC (hl t (at_mem ht)) hn) hk
 split
 .refine RU h λs1 h1=>YT (hrec _ _ h1) λs hs=>?_
  split
  .exact hk _ hs
  exact Kc hs (Kb _ _ _) hk
 split
 .refine RU h λs1 h1=>YT (hrec _ _ h1) λs hs=>?_
  split
  .exact yg hs
  split
  .exact hk _ hs
  exact yg hs
 exact yg h
theorem RV {l:List Tok}{rec:Int->St->mW}(hrec:∀s st,gX st.x->GR (rec s st))(str:Int):∀(n:Nat) (st:St),gX st.x->GR (mz l rec str n st)
 |0,st,h=>λb s hs=>by cases hs
 |n+1,st,h=>by
  unfold mz;split
  .exact ael h
  split
  .exact ael h
  exact YT (hrec _ _ h) λs hs=>Kc hs (Kb _ _ _) λs hs=>RV hrec str n s hs
theorem FQ {l:List Tok}(hl:gL l):∀(k:Nat) (str:Int) (st:St),gX st.x->GR (eM bZ l k str st)
 |0,_,_,_=>λb s hs=>by cases hs
 |k+1,str,st,h=>acL hl (FQ hl k) (λs hs=>RV (FQ hl k) str _ s hs) h
theorem vM:gX []:=⟨by simp,λy hy=>by cases hy⟩
theorem uQ {l:List Tok}(hl:gL l)(a:Int):gX (bq l a).1:=by
 obtain⟨r,hr⟩:=vF (nm:=bZ) l a;have e1:bq l a=r:=by unfold bq;rw[hr];rfl
 rw[e1];unfold qm at hr;split at hr
 .cases hr;exact vM
 split at hr
 .rename_i st hc;cases hr;exact FQ hl _ 1 ⟨a,0,[],0,0⟩ vM _ st hc
 .cases hr;exact vM
 cases hr
theorem Qd:gL []:=λy hy=>by cases hy
theorem Ke {a b:List Tok}(ha:gL a)(hb:gL b):gL (a++b):=λt ht=>(cz.1 ht).elim (ha t) (hb t)
theorem Qe {w:List UInt8}(h:w.length<=1100):gL [Gj w]:=λt ht=>by rw[cZ.1 ht];exact h
theorem Ub (sg:List UInt8)(r:Rg)(a:Int)(s:TS):(mL sg r a s).2.2.2.put=s.put:=by
 unfold mL;split
 .rfl
 split
 .rfl
 split<;>rfl
theorem Qf (sg:List UInt8)(r:Rg)(a num n:Int)(s:TS):(jf sg r a num n s).2.2.2.put=s.put:=by
 unfold jf;split
 .rfl
 split<;>rfl
theorem acM {l:List Tok}(hl:gL l){sg:List UInt8}(hs:sg.length<=1100)(a b:Int){s:TS}(h:gL s.put):gL (rz l sg a b s).2.2.2.put:=by
 unfold rz okO;refine Ke (Ke (Ke ?_ (Qe (by decide))) λt ht=>hl t ?_) (Qe (by decide))
 .split
  .exact Ke h (Qe hs)
  exact h
 unfold Pj at ht;exact List.mem_of_mem_drop (List.mem_of_mem_take ht)
theorem amB {l:List Tok}(hl:gL l){sg:List UInt8}(hs:sg.length<=1100)(a b:Int){s:TS}(h:gL s.put):gL (mX rp l sg a b s).2.2.2.put:=by
 have ha:∀r,gL (mL sg r a s).2.2.2.put:=λr=>by rw[Ub];exact h
 have hc:∀r num n,gL (jf sg r a num n s).2.2.2.put:=λr num n=>by rw[Qf];exact h
 have ho:=acM hl hs a b h;unfold mX;repeat' split
 all_goals first|exact h|exact ha _|exact hc _ _ _|exact ho
theorem YU {l:List Tok}(hl:gL l)(e:Int):∀(n:Nat) (sg:List UInt8) (a:Int) (s:TS) (o:qU),sg.length<=1100->gL s.put->Pp.oR rp l e n sg a s=some o->gL o.2.2.2.put
 |0,_,_,_,_,_,_,h=>by cases h
 |n+1,sg,a,s,o,hs,hp,h=>by
  have ho:=amB hl hs a (fQ l a e) hp;unfold Pp.oR at h;split at h
  .rename_i x f s' hq;rw[hq]at ho;split at h
   .cases h;exact ho
   split at h
   .rename_i t ht;exact YU hl e n _ _ _ o (hl t (at_mem ht)) ho h
   cases h
  rename_i x f s' hq;rw[hq]at ho;cases h;exact ho
theorem aiD {l:List Tok}(hl:gL l)(i:Int):((at? l i).getD Xi).2.2.1.length<=1100:=by
 cases h:at? l i with
 |none=>show (0:Nat)<=1100;omega
 |some t=>exact hl t (at_mem h)
theorem aiE {l:List Tok}(hl:gL l)(op en:Int):gL (nC l op en TB).2.2.2.put:=by
 have key:∀r:Option qU,(∀o,r=some o->gL o.2.2.2.put)->gL (r.getD (lJ TB 0 0)).2.2.2.put:=λr h1=>by
  cases r with
  |none=>exact Qd
  |some o=>exact h1 o rfl
 unfold nC;refine key _ λo ho=>?_
 split at ho
 .exact YU hl _ _ _ _ _ _ (aiD hl _) Qd ho
 exact YU hl _ _ _ _ _ _ (by decide) Qd ho
theorem tg (e f:Int):gRw (jV e f).1:=vM
theorem RW {l:List Tok}(hl:gL l)(op sz:Int):gRw (oS l op sz).1:=by
 unfold oS;split
 .split
  .exact tg _ _
  split
  .exact uQ hl _
  exact tg _ _
 split
 .exact tg _ _
 rename_i en _;have hp:=aiE hl op en;generalize nC l op en TB=o at hp;unfold Fl;split
 .exact tg _ _
 split
 .split
  .exact vM
  exact tg _ _
 split
 .exact tg _ _
 split
 .exact tg _ _
 split
 .exact uQ hp _
 exact tg _ _
theorem Uc {l:List Tok}(hl:gL l)(a:Int):gRw (bD l a).1:=by
 have Mw:gRw (C7 (bq l a)).1:=by
  unfold C7;split
  .exact tg _ _
  exact uQ hl _
 unfold bD;split
 .exact tg _ _
 split
 .exact Mw
 split
 .exact vM
 split
 .split
  .exact RW hl _ _
  exact tg _ _
 split
 .exact RW hl _ _
 exact Mw
theorem amC {op:Int}{w:Raw}(h:gRw w):gRw (C8 op w):=by
 unfold C8;split<;>exact h
def gA (l:List Raw):Prop:=∀r∈l,gRw r
theorem amD {l:List Tok}(hl:gL l)(op aM:Int):∀(m:Nat) (a:Int) (args:List Raw) (c:JO),gA args->Mv l op aM m a args=some c->gA c.2.2.1
 |0,_,_,_,_,h=>by cases h
 |m+1,a,args,c,h2,h=>by
  have hr:gA (args++[C8 op (bD l a).1]):=λr hr=>by
   rcases cz.1 hr with hr|hr
   .exact h2 r hr
   rw[cZ.1 hr];exact amC (Uc hl _)
  have hn:gA []:=λr hr=>by cases hr
  unfold Mv at h;split at h
  .cases h;exact hn
  split at h
  .cases h;exact hr
  split at h
  .cases h;exact hn
  split at h
  .cases h;exact hn
  exact amD hl op aM m _ _ c hr h
theorem Ud {l:List Tok}(hl:gL l)(a:Int):gA (eA l a).2.2.1:=by
 have hn:gA []:=λr hr=>by cases hr
 unfold eA;split
 .exact hn
 split
 .exact hn
 unfold TC;generalize (if sV l a=0 then a+1 else a+2)=b;by_cases hb:b=(l.length:Int)
 .rw[ag hb];exact hn
 rw[aa hb];cases hc:Mv l (Kn l a).1 (sV l a) 5 b [] with
 |none=>exact hn
 |some c=>exact amD hl _ _ _ _ _ _ hn hc
theorem YV {l:List Tok}(op aM:Int):∀(m:Nat) (a:Int) (args:List Raw) (c:JO),Mv l op aM m a args=some c->c.2.2.1.length<=args.length+m
 |0,_,_,_,h=>by cases h
 |m+1,a,args,c,h=>by
  unfold Mv at h;split at h
  .cases h;show (0:Nat)<=_;omega
  split at h
  .cases h;show (args++_).length<=_;rw[aA];show args.length+1<=_;omega
  split at h
  .cases h;show (0:Nat)<=_;omega
  split at h
  .cases h;show (0:Nat)<=_;omega
  have:=YV op aM m _ _ c h;rw[aA]at this;have:c.2.2.1.length<=args.length+1+m:=this;omega
theorem Np (l:List Tok)(a:Int):(eA l a).2.2.1.length<=5:=by
 have z:(0:Nat)<=5:=by omega
 unfold eA;split
 .exact z
 split
 .exact z
 unfold TC;generalize (if sV l a=0 then a+1 else a+2)=b;by_cases hb:b=(l.length:Int)
 .rw[ag hb];exact z
 rw[aa hb];cases hc:Mv l (Kn l a).1 (sV l a) 5 b [] with
 |none=>exact z
 |some c =>
  have:=YV _ _ _ _ _ _ hc;show c.2.2.1.length<=5;simpa using this
structure Gl (s:RS):Prop where
 lab:s.lab.length<=1100
 ar:gA s.args
 al:s.args.length<=5
 dt:∀d∈s.data,gDt d
 dl:s.data.length<=64
 x:gX s.x
 t:gX s.ai
section
variable {n:Int} {l:List Tok}
variable (hl:gL l)
theorem tO {s:RS}{e i:Int}(h:Gl s):Gl (iq n l s e i).2:=⟨h.lab,h.ar,h.al,h.dt,h.dl,h.x,h.t⟩
include hl in
theorem aem {s:RS}{go:List Nd->Int->LR}(h:Gl s)(hg:∀x e,gX x->Gl (go x e).2):Gl (Mx n l s go).2:=by
 unfold Mx;split
 .exact tO h
 exact hg _ _ (uQ hl _)
theorem YW {fin:Bool}{J:RS->LR}{s:RS}(h:Gl s) (hJ:Gl (J { s with a:=s.a+1 }).2):Gl (xA n l fin J s).2:=by
 unfold xA;split
 .exact h
 split
 .exact hJ
 exact tO h
theorem A3 {s:RS}{a:Int}{d:Dt}(h:Gl s)(hd:gDt d)(hk:¬s.data.length=64):Gl { s with a:=a,data:=s.data++[d] } :=
 ⟨h.lab,h.ar,h.al,λx hx=>by
  rcases cz.1 hx with hx|hx
  .exact h.dt x hx
  .rw[cZ.1 hx];exact hd,by
  have:=h.dl;show (s.data++[d]).length<=64;rw[aA];show s.data.length+1<=64;omega,h.x,h.t⟩
theorem Ic {s:RS}{a:Int}(h:Gl s):Gl { s with a:=a }:=⟨h.lab,h.ar,h.al,h.dt,h.dl,h.x,h.t⟩
theorem YX {x:List Nd}(h:gX x):gDt ([],x):=⟨by show (0:Nat)<=1100;omega,h⟩
include hl in
theorem YY:∀(m:Nat) (s:RS),Gl s->Gl (JU n l m s).2
 |0,s,h=>h
 |m+1,s,h=>by
  unfold JU;split
  .exact tO h
  rename_i hk;split
  .rename_i w hw;have hw2:w.length<=1100:=by
    unfold zB at hw;split at hw
    .rename_i t ht;split at hw
     .cases hw;exact hl t (at_mem ht)
     cases hw
    cases hw
   have hd:gDt (w,[]):=⟨hw2,vM⟩;exact YW (A3 h hd hk) (YY m _ (Ic (A3 h hd hk)))
  exact aem hl h λx e hx=>YW (A3 h (YX hx) hk) (YY m _ (Ic (A3 h (YX hx) hk)))
include hl in
theorem aen:∀(m:Nat) (s:RS),Gl s->s.data.length<=3->Gl (Us n l m s).2/\(Us n l m s).2.data.length<=3
 |0,s,h,h3=>⟨h,h3⟩
 |m+1,s,h,h3=>by
  have key:¬s.data.length=3->∀fin:Bool,Gl (xA n l fin (Us n l m) { s with a:=(bq l s.a).2.1,data:=s.data++[([],(bq l s.a).1)] }).2/\(xA n l fin (Us n l m) { s with a:=(bq l s.a).2.1,data:=s.data++[([],(bq l s.a).1)] }).2.data.length<=3:=λhk fin=>by
   have hp:=A3 (a:=(bq l s.a).2.1) h (YX (uQ hl s.a)) (by omega);have hq:(s.data++[(([],(bq l s.a).1):Dt)]).length<=3:=by rw[aA];show s.data.length+1<=3;omega
   unfold xA;split
   .exact ⟨hp,hq⟩
   split
   .exact aen m _ (Ic hp) hq
   exact⟨tO hp,hq⟩
  unfold Us;split
  .exact ⟨tO h,h3⟩
  rename_i hk;unfold Mx;split
  .exact ⟨tO h,h3⟩
  exact key hk _
theorem rX {s s':RS}(h:Gl s)(e1:s'.lab=s.lab)(e2:s'.args=s.args)(e3:s'.data=s.data)(e4:s'.x=s.x)(e5:s'.ai=s.ai):Gl s' :=
 ⟨by rw[e1];exact h.lab,by rw[e2];exact h.ar,by rw[e2];exact h.al,by rw[e3];exact h.dt,by rw[e3];exact h.dl,by rw[e4];exact h.x,by rw[e5];exact h.t⟩
structure Gk (s:RS):Prop where
 g:Gl s
 k2:s.aF=2->sr.CP s.sz=true/\1<=s.data.length
 k8:s.aF=8->sr.CP s.sz=true
 k9:s.aF=9->s.data.length<=3
def GQ (r:LR):Prop:=Gl r.2/\(r.1=true->Gk r.2)
theorem rY {s:RS}{e i:Int}(h:Gl s):GQ (iq n l s e i):=⟨tO h,λq=>by cases q⟩
theorem RX {s:RS}(h:Gl s)(h2:s.aF≠2)(h8:s.aF≠8)(h9:s.aF≠9):Gk s:=⟨h,λq=>absurd q h2,λq=>absurd q h8,λq=>absurd q h9⟩
theorem Nq {r:LR}{k:Int}{w:List UInt8}(h:Gl r.2)(hk:sr.KP k w r)(h2:k≠2)(h8:k≠8)(h9:k≠9):GQ r:=⟨h,λ_=>RX h (by rw[hk.1];exact h2) (by rw[hk.1];exact h8) (by rw[hk.1];exact h9)⟩
theorem RY (w:List UInt8):sr.CP (rE w)=true:=by
 unfold rE;split
 .split
  .decide
  split
  .decide
  split<;>decide
 decide
theorem aeo:∀(m:Nat) (s:RS),(JU n l m s).2.sz=s.sz/\((JU n l m s).1=true->1<=(JU n l m s).2.data.length)
 |0,s=>⟨rfl,λq=>by cases q⟩
 |m+1,s=>by
  have hs:∀(d:Dt) (a:Int),(xA n l true (JU n l m) { s with a:=a,data:=s.data++[d] }).2.sz=s.sz/\((xA n l true (JU n l m) { s with a:=a,data:=s.data++[d] }).1=true->1<=(xA n l true (JU n l m) { s with a:=a,data:=s.data++[d] }).2.data.length):=λd a=>by
   unfold xA;split
   .refine ⟨rfl,λ_=>?_⟩;show 1<=(s.data++[d]).length;rw[aA];show 1<=s.data.length+1;omega
   split
   .exact aeo m _
   exact⟨rfl,λq=>by cases q⟩
  unfold JU;split
  .exact ⟨rfl,λq=>by cases q⟩
  split
  .exact hs _ _
  unfold Mx;split
  .exact ⟨rfl,λq=>by cases q⟩
  exact hs _ _
theorem Qg {s:RS}(h:Gl s):Gl (Cc n l s).2:=by
 unfold Cc;split
 .exact h
 exact tO h
include hl in
theorem DG {aF:Int}{s:RS}(h:Gl s):Gl (vU n l aF s).2 :=
 aem hl (s:={ s with aF:=aF }) (rX h rfl rfl rfl rfl rfl) λx e hx=>Qg ⟨h.lab,h.ar,h.al,h.dt,h.dl,hx,h.t⟩
theorem aiF {s:RS}:(Cc n l s).2.sz=s.sz:=by
 unfold Cc;split<;>rfl
theorem acN {aF:Int}{s:RS}:(vU n l aF s).2.sz=s.sz:=by
 unfold vU Mx;split
 .rfl
 exact aiF
include hl in
theorem Qh {i:Int}{s:RS}{k:RS->LR}(h:Gl s) (hk:∀t,t.length<=1100->GQ (k { s with lab:=t })):GQ (MD n l i s k):=by
 unfold MD;split
 .exact rY h
 rename_i w hw;split
 .exact rY h
 refine hk _ ?_;unfold rW at hw;split at hw
 .rename_i t ht;split at hw
  .cases hw;exact hl t (at_mem ht)
  cases hw
 cases hw
theorem YZ {s:RS}{w:List UInt8}(h:Gl s)(hw:w.length<=1100):Gl { s with lab:=w }:=⟨hw,h.ar,h.al,h.dt,h.dl,h.x,h.t⟩
include hl in
theorem acO {w:List UInt8}{s:RS}(h:Gl s)(hd:s.data=[]):GQ (kz n l w s):=by
 unfold kz;split
 .have hg:=YY (n:=n) hl 70 { s with a:=s.a+1,aF:=2,sz:=rE (j6 l s.a) } (rX h rfl rfl rfl rfl rfl);have hk:=sr.XV (n:=n) (l:=l) 70 { s with a:=s.a+1,aF:=2,sz:=rE (j6 l s.a) };obtain⟨z1,z2⟩:=aeo (n:=n) (l:=l) 70 { s with a:=s.a+1,aF:=2,sz:=rE (j6 l s.a) };refine⟨hg,λhok=>⟨hg,λ_=>⟨by show sr.CP (JU n l 70 _).2.sz=true;rw[z1];exact RY _,z2 hok⟩,λq=>?_,λq=>?_⟩⟩
  .rw[show (AO n l s).2.aF=2 from hk.1]at q;exact absurd q (by decide)
  rw[show (AO n l s).2.aF=2 from hk.1]at q;exact absurd q (by decide)
 split
 .have hg:=DG (n:=n) (aF:=8) hl (s:={ s with sz:=rE (j6 l s.a),a:=s.a+1 }) (rX h rfl rfl rfl rfl rfl);have hk:=sr.DA (n:=n) (l:=l) 8 { s with sz:=rE (j6 l s.a),a:=s.a+1 };refine⟨hg,λhok=>⟨hg,λq=>?_,λ_=>?_,λq=>?_⟩⟩
  .rw[show (HS n l s).2.aF=8 from hk.1]at q;exact absurd q (by decide)
  .show sr.CP (vU n l 8 _).2.sz=true;rw[acN];exact RY _
  rw[show (HS n l s).2.aF=8 from hk.1]at q;exact absurd q (by decide)
 split
 .exact Nq (DG hl (Ic h)) (sr.DA 4 _) (by decide) (by decide) (by decide)
 split
 .exact Nq (DG hl (Ic h)) (sr.DA 5 _) (by decide) (by decide) (by decide)
 split
 .exact Qh hl (s:={ s with aF:=6 }) (rX h rfl rfl rfl rfl rfl) λt ht=>Nq (Qg (rX (YZ h ht) rfl rfl rfl rfl rfl)) (sr.PS _) (by show (6:Int)≠2;decide) (by show (6:Int)≠8;decide) (by show (6:Int)≠9;decide)
 split
 .exact Nq (Qg (rX h rfl rfl rfl rfl rfl)) (sr.PS _) (by show (7:Int)≠2;decide) (by show (7:Int)≠8;decide) (by show (7:Int)≠9;decide)
 split
 .obtain ⟨hg,hg3⟩:=aen (n:=n) hl 70 { s with a:=s.a+1,aF:=9 } (rX h rfl rfl rfl rfl rfl) (by show s.data.length<=3;rw[hd];simp);have hk:=sr.ad7 (n:=n) (l:=l) 70 { s with a:=s.a+1,aF:=9 };refine⟨hg,λhok=>⟨hg,λq=>?_,λq=>?_,λ_=>hg3⟩⟩
  .rw[show (My n l s).2.aF=9 from hk.1]at q;exact absurd q (by decide)
  rw[show (My n l s).2.aF=9 from hk.1]at q;exact absurd q (by decide)
 split
 .unfold abr;split
  .exact rY h
  have hg:Gl { s with aF:=1,op:=(eA l s.a).1,aM:=(eA l s.a).2.1,args:=(eA l s.a).2.2.1 }:=⟨h.lab,Ud hl _,Np l _,h.dt,h.dl,h.x,h.t⟩;exact⟨hg,λ_=>RX hg (by show (1:Int)≠2;decide) (by show (1:Int)≠8;decide) (by show (1:Int)≠9;decide)⟩
 exact rY h
include hl in
theorem RZ {dx:Bool}{s:RS}(h:Gl s)(hd:s.data=[])(hk:s.aF=0):GQ (tL n l dx s):=by
 unfold tL;split
 .split
  .exact rY h
  exact⟨h,λ_=>RX h (by rw[hk];decide) (by rw[hk];decide) (by rw[hk];decide)⟩
 split
 .exact rY h
 unfold TH;split
 .exact rY h
 split
 .exact rY h
 exact acO hl h hd
include hl in
theorem Nr {s:RS}(h:Gl s)(hd:s.data=[])(hk:s.aF=0):GQ (sW n l s):=by
 unfold sW;split
 .unfold Mx;split
  .exact rY (Ic h)
  exact RZ hl ⟨h.lab,h.ar,h.al,h.dt,h.dl,h.x,uQ hl _⟩ hd hk
 exact RZ hl h hd hk
theorem amE:Gl qq:=⟨(by show (0:Nat)<=1100;omega),λr hr=>(by cases hr),by simp[qq],λr hr=>(by cases hr),by simp[qq],vM,vM⟩
include hl in
theorem acP:GQ (qa n l qq):=by
 have h:=amE;unfold qa;split
 .exact Qh hl h λt ht=>Nq (DG hl (rX (YZ h ht) rfl rfl rfl rfl rfl)) (sr.DA 3 _) (by decide) (by decide) (by decide)
 split
 .exact Qh hl h λt ht=>Nr hl (rX (YZ h ht) rfl rfl rfl rfl rfl) rfl rfl
 exact Nr hl h rfl rfl
end
theorem aiG (s:List UInt8):gL (lt.jZ s).1:=λt ht=>aiB ((lt.Pc s).1 t ht).2
theorem amF:Gk qq:=RX amE (by decide) (by decide) (by decide)
theorem acQ (s:List UInt8):Gk (eP s).1:=by
 have hq:=acP (n:=s.length) (aiG s);unfold eP;split
 .exact amF
 split
 .rename_i h;exact hq.2 h
 exact amF
theorem A4 {x:List Nd}(h:gX x):sr.eu x=true:=by
 unfold sr.eu;rw[dS (by have:=h.1;omega),dM];exact aK.2 λy hy=>dS (by have:y.2.2.1.length<=1100:=h.2 y hy;omega)
theorem FR (s:List UInt8):sr.Nn (eP s).1/\(eP s).1.lab.length<=1100:=by
 have h:=acQ s;refine⟨⟨by have:=h.g.lab;omega,A4 h.g.x,A4 h.g.t,?_,?_,h.k2,h.k8,h.k9⟩,h.g.lab⟩
 .unfold sr.oo;rw[dS (by have:=h.g.al;omega),dM];exact aK.2 λr hr=>A4 (h.g.ar r hr)
 unfold sr.Kq;rw[dS (by have:=h.g.dl;omega),dM];refine aK.2 λd hd=>?_
 obtain⟨h1,h2⟩:=h.g.dt d hd;rw[dS (by omega),A4 h2];rfl
end
end Go.Proofs.YtbeckacfibledaaGreatDoor.ps.bd
namespace Go.Tv
open Go.Ev (ah iL)
noncomputable section
def Y0 {β:Type}(X:ij)(call:cI β)(an:ei)(rounds:Nat)(id:FuncId)(p:List Bool)(k:AV->aG->Option β)(l:List AV)(f:fJ)(H:aG):Option β :=
 match X.P.funcs[id]? with
 |some fn=>match fn.body with
  |some c=>match kB c p with
   |.rangeFunc _ ps a b=>match ps.toList with
    |[q]=>Dm (lH an.I6 p) q (iD X call an.tr (pN X call an.tr an.ja rounds rounds) rounds a .none) (iD X call an.tr (pN X call an.tr an.ja rounds rounds) rounds b .none)
     (EJ X call an.tr (pN X call an.tr an.ja rounds rounds) rounds p c an.I6 (qz X fn k)) l f H
    |_=>none
   |_=>none
  |none=>none
 |none=>none
def Ue (sg:List (Option (TypeId×Ty)))(v:AV)(H:aG):Option (AV×List Row) :=
 match v with
 |.fH [.agg cs,w]=>gG (.fH [.agg (eI sg cs H).1,w]) (eI sg cs H).2
 |_=>none
theorem Y1 {X:ij}{sg:List (Option (TypeId×Ty))}{kn:Ev.fe}{id:FuncId}(hk:∀args,kn id args=none){call:∀ β,cI β}(hcall:∀ β,cX X (dR X kn) (call β)){g:List AV->List Row->Option (Bool×AV×List Row)}
 (h:∀args rows v outs,g args rows=some (true,v,outs)->∃(an:ei) (rounds:Nat),aT X (call (AV×List Row)) an rounds id args (eU (s6 rows) rows) (Ue sg)=some (v,outs)):j7 X (dR X kn) id g:=by
 intro args rows v outs hg p S E bJ hp hr hgl hl;subst hp;obtain⟨an,rounds,hrun⟩:=h args rows v outs hg;obtain⟨v1,H1,h1,h2⟩:=lp (nf:=false) (hcall _) (λh=>by cases h) hrun;obtain⟨S1,vE,E',a1,a2,a3,a4,_⟩:=h2 S E bJ hr hgl hl;unfold Ue at h1;split at h1;case h_2=>cases h1
 rename_i cs w;cases a2 with
 |fH _ m hl1 Zw =>
  obtain⟨x,m1,rfl,b1,b2⟩:=(show LV S1 [.agg cs,w] m from ⟨hl1,Zw⟩).cons_inv;cases b1 with
  |agg _ m2 A6 hm2 =>
   obtain⟨S2,c1,c2,c3,c4,_,_⟩:=tN (sg:=sg) a3 S1.le_refl (St.refl S1 H1 E') (show LV S1 cs m2 from ⟨A6,hm2⟩);have hv:VR S2 (.fH [.agg (eI sg cs H1).1,w]) (.tuple (Value.agg m2.toArray::m1).toArray):=by
    have:=LV.cons (VR.agg _ _ c4.1 c4.2) (b2.mono c1);exact .fH _ _ this.1 this.2
   obtain⟨S3,d1,d2,d3⟩:=P0 h1 c2 hv;have hpar:(eI sg cs H1).2.par=s6 rows:=c3.y9.trans (a4.y9.trans (uK _ _).2.2.1);rw[hpar]at d2 d3;exact⟨S3,_,E',gi hk a1,d1,d2,(a4.trans c3.NH).trans d3⟩
end
end Go.Tv
namespace Go.Proofs.YtbeckacfibledaaGreatDoor.ps.sr
open Go.Tv Go.Ev Go.Px Go.Pp Go.Proofs.YtbeckacfibledaaGreatDoor.ex
set_option maxRecDepth 100000
noncomputable section
def gRe (args:List AV)(rows:List Row):OP :=
 match args,rows with
 |[.ptr 0 0,.agg cs],c::l=>match FN (.cells 40 cs),uM 0 c l with
  |some (b0,x),some (b,s)=>some (b&&(b0&&(FO s&&(Nat.ble s.aH.length 999998&&(Nat.ble s.lab.length 100000&&(Nat.ble s.bp.length 200000&&(Nat.ble x.lab.length 100000&&okX x)))))),oz [] (iu gz fP mD s x))
  |_,_=>none
 |_,_=>none
theorem aiH {s:SS}(h:FO s=true)(h1:s.aH.length<=999998)(h2:s.lab.length<=100000)(h3:s.bp.length<=200000):uT s 999998 1000000000000000 100000:=by
 obtain⟨a,b,c⟩:=mE h;obtain⟨k1,_,_,k4⟩:=s7 a;obtain⟨b0,b1⟩:=Ng b;obtain⟨g0,g1⟩:=Nl c;exact⟨k1,h2,h3,h1,k4,b0,b1,g0,g1⟩
theorem aiI:j7 X0 fU 21 gRe :=
 nP (λargs=>lt.bS rfl args) (qW nF uL aek) λargs rows v outs hg=>by
  unfold gRe at hg;split at hg;case h_2=>cases hg
  rename_i cs c l;split at hg;case h_2=>cases hg
  rename_i b0 x b s hx hr;simp only[oz,aq,ay,ak]at hg;obtain⟨⟨rfl,rfl,h1,h2,h3,h4,h5,h6⟩,rfl,rfl⟩:=hg;have hx:=nQ hx;simp only[Nc,Row.cells.injEq,jF]at hx;subst hx;obtain⟨rfl,rfl⟩:=fX hr;exact⟨Ut,5,acJ (aiH h1 (az h2) (az h3) (az h4)) (by decide) (by decide) (by decide) (YR h6) (az h5)⟩
def G6:List AZ:=(21,⟨70,wg,gRe⟩)::G5
theorem aep:pX X0 fU G6:=.cons aiI aek
def N4:List pQ:=(12,⟨none,[none],gV fRd⟩)::N3
theorem Y2:gY X0 fU N4:=.cons MF aei
def pRr:List Bool:=[true,true,true,false,true,false]
def Y3:ei:=⟨gD [2,3,4,18] pRr,.none,[]⟩
abbrev c6:cI (AV×List Row):=cV S1 N4 G6 _
def frR:fJ:=kr 63 [(2,.ptr 0 0),(3,.ptr 1 0),(4,.ptr 2 0),(18,.fn 40 [] [.ptr 3 0])]
def mB (s:SS):aG:=nA [.cells 27 [.int .i64 0,.dG,.dG],.cells 47 [.int .i64 0,.int .i64 0],P7 4,.dead,.cells 70 (ZD 7 5 6 s.aH.length s.av.length s),.list 59 gZ s.aH 0 false false,.list 52 qX s.av 0 false false,.mp 68 s.aI]
def mA (au:Int):aG:=nA [.cells 27 [.int .i64 0,.dG,.dG],.cells 47 [.int .i64 0,.int .i64 0],P7 4,.dead,.cells 70 [.int .i64 0,.dG,.dG,.yG 5,.str [],.bool false,.str [],.int .i64 0,.bool false,.int .i64 0,.int .i64 au],.mp 68 []]
def jB (r:Nat)(l:List AV)(s:SS):OG:=Y0 X0 c6 Y3 r 13 pRr (Ue wg) l frR (mB s)
def jA (r:Nat)(l:List AV)(au:Int):OG:=Y0 X0 c6 Y3 r 13 pRr (Ue wg) l frR (mA au)
def xL (fM:Int)(aH:List Sy)(av:List It)(e au:Int):OG:=some (.fH [.agg [.int .i64 fM,.own 0 aH.length,.own 1 av.length],.agg [.int .i64 e,.int .i64 au]],[.list 59 gZ aH 0 false false,.list 52 qX av 0 false false])
def reT (s:SS)(x:RS)(k:SS->Int->OG):OG:=ah (Yx s.aH.length s.av.length&&(FO s&&(Nat.ble s.aH.length 999998&&(Nat.ble s.lab.length 100000&&(Nat.ble s.bp.length 200000&&(Nat.ble x.lab.length 100000&&okX x)))))) (k (iu gz fP mD s x).1 (iu gz fP mD s x).2) none
def Fw (s:SS)(w:List UInt8)(next:SS->OG)(stay:OG):OG :=
 ah (bI (eP w).2.1 0) (reT s (eP w).1 λs' e=>ah (!bI e 0) (xL 0 [] [] e s'.au) (next s')) (ah (!bI (eP w).2.1 0) (xL 0 [] [] (eP w).2.1 s.au) stay)
theorem amG (fM:Int)(aH:List Sy)(av:List It)(aI:List (List UInt8×Int))(lab:List UInt8)(opn:Bool)(bp:List UInt8)(aN:Int)(aR:Bool)(aD au:Int)(r:Nat)(w:List UInt8)(l:List AV) :
 jB r (.str w::l) ⟨fM,aH,av,aI,lab,opn,bp,aN,aR,aD,au⟩=Fw ⟨fM,aH,av,aI,lab,opn,bp,aN,aR,aD,IntKind.wrap .i64 (au+1)⟩ w (jB r l) (jB r l ⟨fM,aH,av,aI,lab,opn,bp,aN,aR,aD,IntKind.wrap .i64 (au+1)⟩):=by kernel_rfl
theorem stepA' (au:Int)(r:Nat)(w:List UInt8)(l:List AV) :
 jA r (.str w::l) au=Fw ⟨0,[],[],[],[],false,[],0,false,0,IntKind.wrap .i64 (au+1)⟩ w (jB r l) (jA r l (IntKind.wrap .i64 (au+1))):=by kernel_rfl
theorem amH (fM:Int)(aH:List Sy)(av:List It)(aI:List (List UInt8×Int))(lab:List UInt8)(opn:Bool)(bp:List UInt8)(aN:Int)(aR:Bool)(aD au:Int)(r:Nat) :
 jB r [] ⟨fM,aH,av,aI,lab,opn,bp,aN,aR,aD,au⟩=ah opn (xL 0 [] [] 8 au) (xL fM aH av 0 0):=by kernel_rfl
theorem Y4 (s:List UInt8)(r:Nat):aT X0 c6 Y3 r 13 [.str s] (eU 0 []) (Ue wg)=ah (bC 1048576 (s.length:Int)) (xL 0 [] [] 3 0) (ah (Nat.ble s.length 2000000) (jA r ((iy s).map .str) 0) none):=by kernel_rfl
end
end Go.Proofs.YtbeckacfibledaaGreatDoor.ps.sr
namespace Go.Proofs.YtbeckacfibledaaGreatDoor.ps.sr
open Go.Tv Go.Ev Go.Px Go.Pp Go.Proofs.YtbeckacfibledaaGreatDoor.ex
set_option maxRecDepth 100000
noncomputable section
theorem xM {s:SS}{n:Nat}{g:Int}{w:Nat}{x:List Nd}{K:Int->SR'}(h:uT s n g w)(hK:∀n',uT (K n').1 n g w):uT (nE gz fP s x K).1 n g w:=by
 unfold nE;split
 .exact h
 exact hK _
theorem R2 {sz:Int}(hz:sz=1\/sz=2\/sz=4\/sz=8):∀(l:List Dt) (b:Int),(∀d∈l,d.1.length<=1000000)->0<=b->0<=l.foldl (λn d=>n+Rq sz d) b
 |[],b,_,h=>h
 |d::l,b,hd,h=>by
  rw[gw];have:=YK hz (hd d (by simp));exact R2 hz l _ (λx hx=>hd x (by simp[hx])) (by omega)
theorem acR {s:SS}{n:Nat}{g:Int}{w:Nat}(h:uT s n g w){x:RS}(hx:Nn x)(hv:x.lab.length<=w)(ho:x.aF=6->s.opn=false){t:Int}(ht:0<=t):uT (tM gz fP mD s x t).1 (n+1) (g+1048576) w:=by
 have up:∀{s':SS},uT s' n g w->uT s' (n+1) (g+1048576) w:=λq=>q.up (fD _) (by omega)
 unfold tM;split
 .unfold xC;split
  .exact up h
  exact up (Cj h rfl (by decide) (by decide) ht)
 split
 .rename_i hk;obtain⟨hz,h1⟩:=hx.k2 hk;unfold yN;split
  .exact up h
  refine up (Cj h ?_ (by omega) (R2 (s8 hz) _ _ (λd hd=>((s9 hx.data).2 d hd).1) (bB 0)) ht);rw[cg]
 split
 .exact FP (n:=n) (g:=g) (up h) (xM (up h) λn'=>(Qc h _ _).up (aC _) (by omega))
 split
 .refine xM (up h) λn'=>?_
  split
  .exact up h
  exact up (Cj h rfl (by decide) (by decide) (by decide))
 split
 .refine xM (up h) λn'=>?_
  split
  .exact up h
  split
  .exact up h
  exact up ⟨h.kn,h.lab,h.bp,h.aH,h.av,h.b0,h.b1,h.g0,h.g1⟩
 split
 .rename_i hk;have hno:=ho hk;refine up ⟨h.kn,h.lab,?_,h.aH,h.av,h.b0,h.b1,bB _,?_⟩
  .show (gu (cj s) x.lab).length<=2*w;have e:cj s=s.lab:=by unfold cj;rw[hno,aa (by decide)]
   have:=aib (c:=cj s) (w:=x.lab);have h2:=h.lab;rw[e]at this ⊢;omega
  have h1:=h.g0;have h2:=h.g1;show (0:Int)<=g;omega
 split
 .have hq:=Qc h (s.bp++CL) s.aN;exact FP (n:=n) (g:=g) (up h) (uT.up ⟨hq.kn,hq.lab,hq.bp,hq.aH,hq.av,hq.b0,hq.b1,hq.g0,hq.g1⟩ (aC _) (by omega))
 split
 .rename_i hk;have hz:=s8 (hx.k8 hk);refine xM (up h) λn'=>?_
  split
  .exact up h
  rename_i h1;split
  .exact up h
  rename_i h2;have h3:0<=n'*x.sz/\n'*x.sz<=1048576:=by
   rcases hz with e|e|e|e<;>rw[e]at h2 ⊢
   .have:Int.tdiv 1048576 1=1048576:=by decide
    omega
   .have:Int.tdiv 1048576 2=524288:=by decide
    omega
   .have:Int.tdiv 1048576 4=262144:=by decide
    omega
   have:Int.tdiv 1048576 8=131072:=by decide
   omega
  split
  .have g0:=h.g0;have g1:=h.g1;exact⟨h.kn,h.lab,h.bp,Nat.le_succ_of_le h.aH,h.av,h.b0,h.b1,by show 0<=s.aN+n'*x.sz;omega,by show s.aN+n'*x.sz<=g+1048576;omega⟩
  exact up (Cj h rfl (by decide) h3.1 ht)
 split
 .unfold Fz;split
  .exact up h
  unfold powC;split
  .exact up h
  exact up (Cj h rfl (by decide) (by omega) ht)
 exact up h
theorem R3 {s:SS}{n:Nat}{g:Int}{w:Nat}(h:uT s n g w){x:RS}(hx:Nn x)(hv:x.lab.length<=w){t:Int}(ht:0<=t):uT (sY gz fP mD s x t).1 (n+1) (g+1048576) w:=by
 unfold sY;split
 .exact h.up (fD _) (by omega)
 rename_i hm;refine acR h hx hv (λhk=>?_) ht;unfold TK at hm;cases ho:s.opn with
 |false=>rfl
 |true=>rw[ho,ag rfl,ag (by simp[hk])]at hm;exact absurd rfl hm
theorem Ns {s:SS}{n:Nat}{g:Int}{w:Nat}(h:uT s n g w){x:RS}(hx:Nn x)(hv:x.lab.length<=w):uT (mM gz fP mD s x).1 (n+1) (g+1048576) w:=by
 unfold mM;split
 .exact R3 h hx hv (by decide)
 refine xM (h.up (fD _) (by omega)) λn'=>?_
 split
 .exact h.up (fD _) (by omega)
 exact R3 h hx hv (by omega)
theorem aeq {s:SS}{n:Nat}{g:Int}{w:Nat}(h:uT s n g w){x:RS}(hx:Nn x)(hv:x.lab.length<=w):uT (iu gz fP mD s x).1 (n+2) (g+1048576) w:=by
 have hl:=YS h hv;unfold iu;split
 .split
  .exact hl.up (by omega) (by omega)
  exact Ns hl hx hv
 exact(Ns h hx hv).up (by omega) (bB _)
def FT (r:SS×Int):OG:=if r.2≠0 then xL 0 [] [] r.2 r.1.au else if r.1.opn=true then xL 0 [] [] 8 r.1.au else xL r.1.fM r.1.aH r.1.av 0 0
theorem aiJ {s:SS}{n:Nat}{g:Int}(h:uT s n g 1100)(hn:n<=999998)(hg:g<=1000000000000000){x:RS}(hx:Nn x)(hv:x.lab.length<=1100)(k:SS->Int->OG):reT s x k=k (iu gz fP mD s x).1 (iu gz fP mD s x).2:=by
 have h1:=h.lab;have h2:=h.bp;have h3:=h.aH;unfold reT;rw[qY,h.a (by omega) hg (by decide),dS (by omega),dS (by omega),dS (by omega),dS (by omega),hx.b];rfl
theorem Kf {s:SS}{n:Nat}{g:Int}{w:Nat}(h:uT s n g w)(k:Int):uT { s with au:=k } n g w:=⟨h.kn,h.lab,h.bp,h.aH,h.av,h.b0,h.b1,h.g0,h.g1⟩
abbrev oq (l:List (List UInt8))(s:SS):SS×Int:=gj gz fP mD eP l s
theorem Ie {s:SS}{n:Nat}{g:Int}(h:uT s n g 1100)(hn:n<=999998)(hg:g<=1000000000000000)(h0:0<=s.au)(h1:s.au<=1000000)(w:List UInt8)(next:SS->OG)(stay:OG)(l:List (List UInt8))
 (hnext:∀s',uT s' (n+2) (g+1048576) 1100->s'.au=s.au+1->next s'=FT (oq l s')):Fw { s with au:=IntKind.wrap .i64 (s.au+1) } w next stay=FT (oq (w::l) s):=by
 have hl:=Kf h (s.au+1);obtain⟨hx,hv⟩:=bd.FR w;unfold Fw;rw[i64_in (n:=s.au+1) (by omega) (by omega),cq,cn];unfold oq;rw[oU];by_cases he:(eP w).2.1=0
 .rw[ag he,aa (λq=>q he),aiJ hl hn hg hx hv];show ah _ _ _=_;rw[cn];have NZ:(iu gz fP mD { s with au:=s.au+1 } (eP w).1).1.au=s.au+1:=Cd gz fP mD _ _;by_cases h2:(iu gz fP mD { s with au:=s.au+1 } (eP w).1).2=0
  .rw[ag h2,aa (λq=>q h2)];exact hnext _ (aeq hl hx hv) NZ
  rw[aa h2,ag h2];unfold FT;rw[ag h2,NZ]
 rw[aa he,aa he,ag he];unfold FT;rw[ag he]
theorem acS (r:Nat)(w:List UInt8)(l:List AV)(s:SS):jB r (.str w::l) s=Fw { s with au:=IntKind.wrap .i64 (s.au+1) } w (jB r l) (jB r l { s with au:=IntKind.wrap .i64 (s.au+1) }):=by cases s;exact amG ..
theorem aiK (r:Nat)(s:SS):jB r [] s=FT (oq [] s):=by
 have e:jB r [] s=ah s.opn (xL 0 [] [] 8 s.au) (xL s.fM s.aH s.av 0 0):=by cases s;exact amH ..
 rw[e];unfold FT;show _=if (0:Int)≠0 then _ else if s.opn=true then _ else _;rw[aa (by decide),ax];rfl
theorem amI (r:Nat):∀(l:List (List UInt8)) (s:SS) (k:Nat),uT s (2*k) (1048576*k) 1100->s.au=k->k+l.length<=400000->jB r (l.map .str) s=FT (oq l s):=by
 intro l;induction l with
 |nil=>intro s k _ _ _;exact aiK r s
 |cons w l ih =>
  intro s k h hk hn;have hn':k+(l.length+1)<=400000:=by simpa using hn
  rw[cP,acS];refine Ie h (by omega) (by omega) (by omega) (by omega) w _ _ l λs' hs' hl'=>?_
  exact ih s' (k+1) (by rw[show 2*(k+1)=2*k+2 by omega,show (1048576*((k+1:Nat):Int))=1048576*(k:Int)+1048576 by omega];exact hs') (by omega) (by omega)
theorem amJ:uT ye 0 0 1100:=⟨rfl,by simp[ye],by simp[ye],by simp[ye],by simp[ye],bB _,by decide,bB _,bB _⟩
theorem yA (r:Nat)(w:List UInt8)(l:List (List UInt8))(hl:l.length<=300000):jA r ((w::l).map .str) 0=FT (oq (w::l) ye):=by
 rw[cP,stepA'];refine Ie (s:=ye) (n:=0) (g:=0) amJ (by decide) (by decide) (bB _) (by decide) w _ _ l λs' hs' hl'=>?_
 exact amI r l s' 1 hs' hl' (by omega)
theorem zD:∀(s:List UInt8),(sl.dh s).length<=s.length+1
 |[]=>by simp[sl.dh]
 |c::r=>by
  have h:=zD r;unfold sl.dh;split
  .simp only[aJ]at h ⊢;omega
  split
  .rename_i p ps hq;rw[hq]at h;simp only[aJ]at h ⊢;omega
  simp
theorem xd (s:List UInt8):sl.jy [] [] s=sl.dh s:=by
 rw[sl.pq];have:=sl.pn s;cases h:sl.dh s with
 |nil=>exact absurd h this
 |cons p ps=>rfl
theorem sq (s:List UInt8):iy s=(sl.dh s).map sl.sL:=by unfold iy;rw[xd]
abbrev nG (s:List UInt8):Ls×Int×Int:=pW gz fP mD eP (iy s)
theorem Y5 (l:List (List UInt8)):FT (oq l ye)=xL (pW gz fP mD eP l).1.1 (pW gz fP mD eP l).1.2.1 (pW gz fP mD eP l).1.2.2 (pW gz fP mD eP l).2.1 (pW gz fP mD eP l).2.2:=by
 unfold FT pW;by_cases h:(gj gz fP mD eP l ye).2≠0
 .rw[ag h,ag h];rfl
 rw[aa h,aa h];by_cases h2:(gj gz fP mD eP l ye).1.opn=true
 .rw[ag h2,ag h2];rfl
 rw[aa h2,aa h2];rfl
def aiL (q:Ls×Int×Int):AV×List Row:=(.fH [.agg [.int .i64 q.1.1,.own 0 q.1.2.1.length,.own 1 q.1.2.2.length],.agg [.int .i64 q.2.1,.int .i64 q.2.2]],[.list 59 gZ q.1.2.1 0 false false,.list 52 qX q.1.2.2 0 false false])
def aiM (args:List AV)(rows:List Row):OP :=
 match args,rows with
 |[.str s],[]=>some (Nat.ble s.length 200000,aiL (nG s))
 |_,_=>none
theorem aiN {s:List UInt8}(hs:s.length<=200000):aT X0 c6 Y3 5 13 [.str s] (eU 0 []) (Ue wg)=some (aiL (nG s)):=by
 rw[Y4,fL (by omega),dS (by omega)];have hl:=zD s;have hne:=sl.pn s;show jA 5 ((iy s).map .str) 0=_;have e:some (aiL (nG s))=FT (oq (iy s) ye):=(Y5 _).symm;rw[e,sq];cases h:sl.dh s with
 |nil=>exact absurd h hne
 |cons w l =>
  rw[h]at hl;simp only[aJ]at hl;exact yA 5 (sl.sL w) (l.map sl.sL) (by rw[cg];omega)
theorem acT:j7 X0 fU 13 aiM :=
 Y1 (sg:=wg) (λargs=>lt.bS rfl args) (qW nF Y2 aep) λargs rows v outs hg=>by
  unfold aiM at hg;split at hg;case h_2=>cases hg
  rename_i s;simp only[aq,ay]at hg;obtain⟨h1,h2⟩:=hg;refine⟨Y3,5,(aiN (az h1)).trans ?_⟩;rw[h2]
def G7:List AZ:=(13,⟨0,[],aiM⟩)::G6
theorem aer:pX X0 fU G7:=.cons acT aep
end
end Go.Proofs.YtbeckacfibledaaGreatDoor.ps.sr

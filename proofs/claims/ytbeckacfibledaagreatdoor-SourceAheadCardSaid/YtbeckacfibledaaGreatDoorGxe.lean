/- Lines: what is read is not too long. Sources: Read, as it runs. Sources: the contract of Read. -/
import Derived.Test.YtbeckacfibledaaGreatDoorGrj
import Derived.Test.YtbeckacfibledaaGreatDoorGxd
set_option linter.unusedVariables false
set_option linter.unusedSimpArgs false

namespace Go.Proofs.YtbeckacfibledaaGreatDoor.ps.bd
open Go.Tv Go.Ev Go.Px Go.Pp Go.Proofs.YtbeckacfibledaaGreatDoor.ex
set_option maxRecDepth 100000
noncomputable section
def gT (t:Tok):Prop:=t.2.2.1.length<=1100
def gL (l:List Tok):Prop:=∀t∈l,gT t
def gNd (y:Nd):Prop:=y.2.2.1.length<=1100
def gX (x:List Nd):Prop:=x.length<=200/\∀y∈x,gNd y
def gRw (r:Raw):Prop:=gX r.2.2.2.1
def gDt (d:Dt):Prop:=d.1.length<=1100/\gX d.2
theorem ah5 {t:Tok}(h:lt.EK t=true):gT t:=by
 unfold lt.EK at h;simp only[ak]at h;exact ay h.2
theorem at_mem {α:Type}{l:List α}{i:Int}{t:α}(h:at? l i=some t):t∈l:=by
 unfold at? at h;split at h
 .exact bh h
 cases h
theorem J2 (op:Int)(i j:Int):gNd (op,0,[],i,j):=by show (0:Nat)<=1100;omega
theorem ah6 {t:Tok}{n:Nd}(ht:gT t)(h:BM bX t=some n):gNd n:=by
 unfold BM at h;split at h
 .cases h;show (0:Nat)<=1100;omega
 split at h
 .cases h;exact ht
 split at h
 .cases h;exact J2 _ _ _
 split at h
 .cases h;exact J2 _ _ _
 cases h
theorem ab9 {x:List Nd}{n:Nd}(hx:gX x)(hl:¬x.length=200)(hn:gNd n):gX (x++[n]) :=
 ⟨by have:=hx.1;rw[aA];show x.length+1<=200;omega,λy hy=>(cJ.1 hy).elim (hx.2 y) λh=>by rw[dD.1 h];exact hn⟩
def GR (r:mP):Prop:=∀b st,r=some (b,st)->gX st.x
theorem xZ {st:St}{e f:Int}(h:gX st.x):GR (Aq st e f):=λb s hs=>by cases hs;exact h
theorem adP {st:St}(h:gX st.x):GR (some (true,st)):=λb s hs=>by cases hs;exact h
theorem J3 {st:St}{n:Nd}{f:Int}{k:St->mP}(h:gX st.x)(hn:gNd n)(hk:∀s:St,gX s.x->GR (k s)):GR (sF st n f k):=by
 unfold sF;split
 .exact xZ h
 rename_i hne;exact hk _ (ab9 h hne hn)
theorem Ry {st:St}{k:St->mP}(h:gX st.x)(hk:∀s:St,gX s.x->GR (k s)):GR (sG st k):=by
 unfold sG;split
 .exact xZ h
 exact hk _ h
theorem Yy {r:mP}{k:St->mP}(hr:GR r)(hk:∀s:St,gX s.x->GR (k s)):GR (OU r k):=by
 unfold OU;split
 .rename_i st;exact hk st (hr true st rfl)
 .rename_i st;exact λb s hs=>by cases hs;exact hr false st rfl
 exact λb s hs=>by cases hs
theorem acd {l:List Tok}(hl:gL l){rec:Int->St->mP}{k:St->mP}(hrec:∀s st,gX st.x->GR (rec s st))(hk:∀s:St,gX s.x->GR (k s)){st:St}(h:gX st.x):GR (ri bX l rec st k):=by
 unfold ri;split
 .exact xZ h
 rename_i t ht;split
 .rename_i n hn;exact J3 h (ah6 (hl t (at_mem ht)) hn) hk
 split
 .refine Ry h λs1 h1=>Yy (hrec _ _ h1) λs hs=>?_
  split
  .exact hk _ hs
  exact J3 hs (J2 _ _ _) hk
 split
 .refine Ry h λs1 h1=>Yy (hrec _ _ h1) λs hs=>?_
  split
  .exact xZ hs
  split
  .exact hk _ hs
  exact xZ hs
 exact xZ h
theorem Rz {l:List Tok}{rec:Int->St->mP}(hrec:∀s st,gX st.x->GR (rec s st))(str:Int):∀(n:Nat) (st:St),gX st.x->GR (mo l rec str n st)
 |0,st,h=>λb s hs=>by cases hs
 |n+1,st,h=>by
  unfold mo;split
  .exact adP h
  split
  .exact adP h
  exact Yy (hrec _ _ h) λs hs=>J3 hs (J2 _ _ _) λs hs=>Rz hrec str n s hs
theorem FG {l:List Tok}(hl:gL l):∀(k:Nat) (str:Int) (st:St),gX st.x->GR (eM bX l k str st)
 |0,_,_,_=>λb s hs=>by cases hs
 |k+1,str,st,h=>acd hl (FG hl k) (λs hs=>Rz (FG hl k) str _ s hs) h
theorem vC:gX []:=⟨by simp,λy hy=>by cases hy⟩
theorem uH {l:List Tok}(hl:gL l)(a:Int):gX (bq l a).1:=by
 obtain⟨r,hr⟩:=vr (nm:=bX) l a;have e1:bq l a=r:=by unfold bq;rw[hr];rfl
 rw[e1];unfold qd at hr;split at hr
 .cases hr;exact vC
 split at hr
 .rename_i st hc;cases hr;exact FG hl _ 1 ⟨a,0,[],0,0⟩ vC _ st hc
 .cases hr;exact vC
 cases hr
theorem PM:gL []:=λy hy=>by cases hy
theorem J4 {a b:List Tok}(ha:gL a)(hb:gL b):gL (a++b):=λt ht=>(cJ.1 ht).elim (ha t) (hb t)
theorem PN {w:List UInt8}(h:w.length<=1100):gL [F7 w]:=λt ht=>by rw[dD.1 ht];exact h
theorem TR (sg:List UInt8)(r:Rg)(a:Int)(s:TS):(mH sg r a s).2.2.2.put=s.put:=by
 unfold mH;split
 .rfl
 split
 .rfl
 split<;>rfl
theorem PS (sg:List UInt8)(r:Rg)(a num n:Int)(s:TS):(iZ sg r a num n s).2.2.2.put=s.put:=by
 unfold iZ;split
 .rfl
 split<;>rfl
theorem ace {l:List Tok}(hl:gL l){sg:List UInt8}(hs:sg.length<=1100)(a b:Int){s:TS}(h:gL s.put):gL (qV l sg a b s).2.2.2.put:=by
 unfold qV okO;refine J4 (J4 (J4 ?_ (PN (by decide))) λt ht=>hl t ?_) (PN (by decide))
 .split
  .exact J4 h (PN hs)
  exact h
 unfold OY at ht;exact List.mem_of_mem_drop (List.mem_of_mem_take ht)
theorem al6 {l:List Tok}(hl:gL l){sg:List UInt8}(hs:sg.length<=1100)(a b:Int){s:TS}(h:gL s.put):gL (mQ rp l sg a b s).2.2.2.put:=by
 have ha:∀r,gL (mH sg r a s).2.2.2.put:=λr=>by rw[TR];exact h
 have hc:∀r num n,gL (iZ sg r a num n s).2.2.2.put:=λr num n=>by rw[PS];exact h
 have ho:=ace hl hs a b h;unfold mQ;repeat' split
 all_goals first|exact h|exact ha _|exact hc _ _ _|exact ho
theorem Yz {l:List Tok}(hl:gL l)(e:Int):∀(n:Nat) (sg:List UInt8) (a:Int) (s:TS) (o:qK),sg.length<=1100->gL s.put->Pp.oL rp l e n sg a s=some o->gL o.2.2.2.put
 |0,_,_,_,_,_,_,h=>by cases h
 |n+1,sg,a,s,o,hs,hp,h=>by
  have ho:=al6 hl hs a (fN l a e) hp;unfold Pp.oL at h;split at h
  .rename_i x f s' hq;rw[hq]at ho;split at h
   .cases h;exact ho
   split at h
   .rename_i t ht;exact Yz hl e n _ _ _ o (hl t (at_mem ht)) ho h
   cases h
  rename_i x f s' hq;rw[hq]at ho;cases h;exact ho
theorem ah7 {l:List Tok}(hl:gL l)(i:Int):((at? l i).getD WR).2.2.1.length<=1100:=by
 cases h:at? l i with
 |none=>show (0:Nat)<=1100;omega
 |some t=>exact hl t (at_mem h)
theorem ah8 {l:List Tok}(hl:gL l)(op en:Int):gL (nr l op en Te).2.2.2.put:=by
 have key:∀r:Option qK,(∀o,r=some o->gL o.2.2.2.put)->gL (r.getD (lF Te 0 0)).2.2.2.put:=λr h1=>by
  cases r with
  |none=>exact PM
  |some o=>exact h1 o rfl
 unfold nr;refine key _ λo ho=>?_
 split at ho
 .exact Yz hl _ _ _ _ _ _ (ah7 hl _) PM ho
 exact Yz hl _ _ _ _ _ _ (by decide) PM ho
theorem sY (e f:Int):gRw (jN e f).1:=vC
theorem RA {l:List Tok}(hl:gL l)(op sz:Int):gRw (oM l op sz).1:=by
 unfold oM;split
 .split
  .exact sY _ _
  split
  .exact uH hl _
  exact sY _ _
 split
 .exact sY _ _
 rename_i en _;have hp:=ah8 hl op en;generalize nr l op en Te=o at hp;unfold E9;split
 .exact sY _ _
 split
 .split
  .exact vC
  exact sY _ _
 split
 .exact sY _ _
 split
 .exact sY _ _
 split
 .exact uH hp _
 exact sY _ _
theorem TT {l:List Tok}(hl:gL l)(a:Int):gRw (bC l a).1:=by
 have Mj:gRw (CT (bq l a)).1:=by
  unfold CT;split
  .exact sY _ _
  exact uH hl _
 unfold bC;split
 .exact sY _ _
 split
 .exact Mj
 split
 .exact vC
 split
 .split
  .exact RA hl _ _
  exact sY _ _
 split
 .exact RA hl _ _
 exact Mj
theorem al7 {op:Int}{w:Raw}(h:gRw w):gRw (CU op w):=by
 unfold CU;split<;>exact h
def gA (l:List Raw):Prop:=∀r∈l,gRw r
theorem al8 {l:List Tok}(hl:gL l)(op aM:Int):∀(m:Nat) (a:Int) (args:List Raw) (c:JA),gA args->Mi l op aM m a args=some c->gA c.2.2.1
 |0,_,_,_,_,h=>by cases h
 |m+1,a,args,c,h2,h=>by
  have hr:gA (args++[CU op (bC l a).1]):=λr hr=>by
   rcases cJ.1 hr with hr|hr
   .exact h2 r hr
   rw[dD.1 hr];exact al7 (TT hl _)
  have hn:gA []:=λr hr=>by cases hr
  unfold Mi at h;split at h
  .cases h;exact hn
  split at h
  .cases h;exact hr
  split at h
  .cases h;exact hn
  split at h
  .cases h;exact hn
  exact al8 hl op aM m _ _ c hr h
theorem TU {l:List Tok}(hl:gL l)(a:Int):gA (eA l a).2.2.1:=by
 have hn:gA []:=λr hr=>by cases hr
 unfold eA;split
 .exact hn
 split
 .exact hn
 unfold Tf;generalize (if sL l a=0 then a+1 else a+2)=b;by_cases hb:b=(l.length:Int)
 .rw[ag hb];exact hn
 rw[aa hb];cases hc:Mi l (J9 l a).1 (sL l a) 5 b [] with
 |none=>exact hn
 |some c=>exact al8 hl _ _ _ _ _ _ hn hc
theorem YA {l:List Tok}(op aM:Int):∀(m:Nat) (a:Int) (args:List Raw) (c:JA),Mi l op aM m a args=some c->c.2.2.1.length<=args.length+m
 |0,_,_,_,h=>by cases h
 |m+1,a,args,c,h=>by
  unfold Mi at h;split at h
  .cases h;show (0:Nat)<=_;omega
  split at h
  .cases h;show (args++_).length<=_;rw[aA];show args.length+1<=_;omega
  split at h
  .cases h;show (0:Nat)<=_;omega
  split at h
  .cases h;show (0:Nat)<=_;omega
  have:=YA op aM m _ _ c h;rw[aA]at this;have:c.2.2.1.length<=args.length+1+m:=this;omega
theorem MV (l:List Tok)(a:Int):(eA l a).2.2.1.length<=5:=by
 have z:(0:Nat)<=5:=by omega
 unfold eA;split
 .exact z
 split
 .exact z
 unfold Tf;generalize (if sL l a=0 then a+1 else a+2)=b;by_cases hb:b=(l.length:Int)
 .rw[ag hb];exact z
 rw[aa hb];cases hc:Mi l (J9 l a).1 (sL l a) 5 b [] with
 |none=>exact z
 |some c =>
  have:=YA _ _ _ _ _ _ hc;show c.2.2.1.length<=5;simpa using this
structure Gl (s:RS):Prop where
 lab:s.lab.length<=1100
 ar:gA s.args
 al:s.args.length<=5
 dt:∀d∈s.data,gDt d
 dl:s.data.length<=64
 x:gX s.x
 t:gX s.ai
section
variable {n:Int} {l:List Tok}
variable (hl:gL l)
theorem tD {s:RS}{e i:Int}(h:Gl s):Gl (hU n l s e i).2:=⟨h.lab,h.ar,h.al,h.dt,h.dl,h.x,h.t⟩
include hl in
theorem adQ {s:RS}{go:List Nd->Int->LR}(h:Gl s)(hg:∀x e,gX x->Gl (go x e).2):Gl (Mk n l s go).2:=by
 unfold Mk;split
 .exact tD h
 exact hg _ _ (uH hl _)
theorem YB {fin:Bool}{J:RS->LR}{s:RS}(h:Gl s) (hJ:Gl (J { s with a:=s.a+1 }).2):Gl (xl n l fin J s).2:=by
 unfold xl;split
 .exact h
 split
 .exact hJ
 exact tD h
theorem AL {s:RS}{a:Int}{d:Dt}(h:Gl s)(hd:gDt d)(hk:¬s.data.length=64):Gl { s with a:=a,data:=s.data++[d] } :=
 ⟨h.lab,h.ar,h.al,λx hx=>by
  rcases cJ.1 hx with hx|hx
  .exact h.dt x hx
  .rw[dD.1 hx];exact hd,by
  have:=h.dl;show (s.data++[d]).length<=64;rw[aA];show s.data.length+1<=64;omega,h.x,h.t⟩
theorem HU {s:RS}{a:Int}(h:Gl s):Gl { s with a:=a }:=⟨h.lab,h.ar,h.al,h.dt,h.dl,h.x,h.t⟩
theorem YC {x:List Nd}(h:gX x):gDt ([],x):=⟨by show (0:Nat)<=1100;omega,h⟩
include hl in
theorem YD:∀(m:Nat) (s:RS),Gl s->Gl (JI n l m s).2
 |0,s,h=>h
 |m+1,s,h=>by
  unfold JI;split
  .exact tD h
  rename_i hk;split
  .rename_i w hw;have hw2:w.length<=1100:=by
    unfold zl at hw;split at hw
    .rename_i t ht;split at hw
     .cases hw;exact hl t (at_mem ht)
     cases hw
    cases hw
   have hd:gDt (w,[]):=⟨hw2,vC⟩;exact YB (AL h hd hk) (YD m _ (HU (AL h hd hk)))
  exact adQ hl h λx e hx=>YB (AL h (YC hx) hk) (YD m _ (HU (AL h (YC hx) hk)))
include hl in
theorem adR:∀(m:Nat) (s:RS),Gl s->s.data.length<=3->Gl (T6 n l m s).2/\(T6 n l m s).2.data.length<=3
 |0,s,h,h3=>⟨h,h3⟩
 |m+1,s,h,h3=>by
  have key:¬s.data.length=3->∀fin:Bool,Gl (xl n l fin (T6 n l m) { s with a:=(bq l s.a).2.1,data:=s.data++[([],(bq l s.a).1)] }).2/\(xl n l fin (T6 n l m) { s with a:=(bq l s.a).2.1,data:=s.data++[([],(bq l s.a).1)] }).2.data.length<=3:=λhk fin=>by
   have hp:=AL (a:=(bq l s.a).2.1) h (YC (uH hl s.a)) (by omega);have hq:(s.data++[(([],(bq l s.a).1):Dt)]).length<=3:=by rw[aA];show s.data.length+1<=3;omega
   unfold xl;split
   .exact ⟨hp,hq⟩
   split
   .exact adR m _ (HU hp) hq
   exact⟨tD hp,hq⟩
  unfold T6;split
  .exact ⟨tD h,h3⟩
  rename_i hk;unfold Mk;split
  .exact ⟨tD h,h3⟩
  exact key hk _
theorem rP {s s':RS}(h:Gl s)(e1:s'.lab=s.lab)(e2:s'.args=s.args)(e3:s'.data=s.data)(e4:s'.x=s.x)(e5:s'.ai=s.ai):Gl s' :=
 ⟨by rw[e1];exact h.lab,by rw[e2];exact h.ar,by rw[e2];exact h.al,by rw[e3];exact h.dt,by rw[e3];exact h.dl,by rw[e4];exact h.x,by rw[e5];exact h.t⟩
structure Gk (s:RS):Prop where
 g:Gl s
 k2:s.aF=2->sr.CC s.sz=true/\1<=s.data.length
 k8:s.aF=8->sr.CC s.sz=true
 k9:s.aF=9->s.data.length<=3
def GQ (r:LR):Prop:=Gl r.2/\(r.1=true->Gk r.2)
theorem rQ {s:RS}{e i:Int}(h:Gl s):GQ (hU n l s e i):=⟨tD h,λq=>by cases q⟩
theorem RB {s:RS}(h:Gl s)(h2:s.aF≠2)(h8:s.aF≠8)(h9:s.aF≠9):Gk s:=⟨h,λq=>absurd q h2,λq=>absurd q h8,λq=>absurd q h9⟩
theorem MW {r:LR}{k:Int}{w:List UInt8}(h:Gl r.2)(hk:sr.KP k w r)(h2:k≠2)(h8:k≠8)(h9:k≠9):GQ r:=⟨h,λ_=>RB h (by rw[hk.1];exact h2) (by rw[hk.1];exact h8) (by rw[hk.1];exact h9)⟩
theorem RC (w:List UInt8):sr.CC (rq w)=true:=by
 unfold rq;split
 .split
  .decide
  split
  .decide
  split<;>decide
 decide
theorem adS:∀(m:Nat) (s:RS),(JI n l m s).2.sz=s.sz/\((JI n l m s).1=true->1<=(JI n l m s).2.data.length)
 |0,s=>⟨rfl,λq=>by cases q⟩
 |m+1,s=>by
  have hs:∀(d:Dt) (a:Int),(xl n l true (JI n l m) { s with a:=a,data:=s.data++[d] }).2.sz=s.sz/\((xl n l true (JI n l m) { s with a:=a,data:=s.data++[d] }).1=true->1<=(xl n l true (JI n l m) { s with a:=a,data:=s.data++[d] }).2.data.length):=λd a=>by
   unfold xl;split
   .refine ⟨rfl,λ_=>?_⟩;show 1<=(s.data++[d]).length;rw[aA];show 1<=s.data.length+1;omega
   split
   .exact adS m _
   exact⟨rfl,λq=>by cases q⟩
  unfold JI;split
  .exact ⟨rfl,λq=>by cases q⟩
  split
  .exact hs _ _
  unfold Mk;split
  .exact ⟨rfl,λq=>by cases q⟩
  exact hs _ _
theorem PT {s:RS}(h:Gl s):Gl (BW n l s).2:=by
 unfold BW;split
 .exact h
 exact tD h
include hl in
theorem Dv {aF:Int}{s:RS}(h:Gl s):Gl (vL n l aF s).2 :=
 adQ hl (s:={ s with aF:=aF }) (rP h rfl rfl rfl rfl rfl) λx e hx=>PT ⟨h.lab,h.ar,h.al,h.dt,h.dl,hx,h.t⟩
theorem ah9 {s:RS}:(BW n l s).2.sz=s.sz:=by
 unfold BW;split<;>rfl
theorem acf {aF:Int}{s:RS}:(vL n l aF s).2.sz=s.sz:=by
 unfold vL Mk;split
 .rfl
 exact ah9
include hl in
theorem PU {i:Int}{s:RS}{k:RS->LR}(h:Gl s) (hk:∀t,t.length<=1100->GQ (k { s with lab:=t })):GQ (Mp n l i s k):=by
 unfold Mp;split
 .exact rQ h
 rename_i w hw;split
 .exact rQ h
 refine hk _ ?_;unfold rM at hw;split at hw
 .rename_i t ht;split at hw
  .cases hw;exact hl t (at_mem ht)
  cases hw
 cases hw
theorem YE {s:RS}{w:List UInt8}(h:Gl s)(hw:w.length<=1100):Gl { s with lab:=w }:=⟨hw,h.ar,h.al,h.dt,h.dl,h.x,h.t⟩
include hl in
theorem acg {w:List UInt8}{s:RS}(h:Gl s)(hd:s.data=[]):GQ (kj n l w s):=by
 unfold kj;split
 .have hg:=YD (n:=n) hl 70 { s with a:=s.a+1,aF:=2,sz:=rq (jZ l s.a) } (rP h rfl rfl rfl rfl rfl);have hk:=sr.XC (n:=n) (l:=l) 70 { s with a:=s.a+1,aF:=2,sz:=rq (jZ l s.a) };obtain⟨z1,z2⟩:=adS (n:=n) (l:=l) 70 { s with a:=s.a+1,aF:=2,sz:=rq (jZ l s.a) };refine⟨hg,λhok=>⟨hg,λ_=>⟨by show sr.CC (JI n l 70 _).2.sz=true;rw[z1];exact RC _,z2 hok⟩,λq=>?_,λq=>?_⟩⟩
  .rw[show (Ay n l s).2.aF=2 from hk.1]at q;exact absurd q (by decide)
  rw[show (Ay n l s).2.aF=2 from hk.1]at q;exact absurd q (by decide)
 split
 .have hg:=Dv (n:=n) (aF:=8) hl (s:={ s with sz:=rq (jZ l s.a),a:=s.a+1 }) (rP h rfl rfl rfl rfl rfl);have hk:=sr.Dn (n:=n) (l:=l) 8 { s with sz:=rq (jZ l s.a),a:=s.a+1 };refine⟨hg,λhok=>⟨hg,λq=>?_,λ_=>?_,λq=>?_⟩⟩
  .rw[show (HG n l s).2.aF=8 from hk.1]at q;exact absurd q (by decide)
  .show sr.CC (vL n l 8 _).2.sz=true;rw[acf];exact RC _
  rw[show (HG n l s).2.aF=8 from hk.1]at q;exact absurd q (by decide)
 split
 .exact MW (Dv hl (HU h)) (sr.Dn 4 _) (by decide) (by decide) (by decide)
 split
 .exact MW (Dv hl (HU h)) (sr.Dn 5 _) (by decide) (by decide) (by decide)
 split
 .exact PU hl (s:={ s with aF:=6 }) (rP h rfl rfl rfl rfl rfl) λt ht=>MW (PT (rP (YE h ht) rfl rfl rfl rfl rfl)) (sr.Pr _) (by show (6:Int)≠2;decide) (by show (6:Int)≠8;decide) (by show (6:Int)≠9;decide)
 split
 .exact MW (PT (rP h rfl rfl rfl rfl rfl)) (sr.Pr _) (by show (7:Int)≠2;decide) (by show (7:Int)≠8;decide) (by show (7:Int)≠9;decide)
 split
 .obtain ⟨hg,hg3⟩:=adR (n:=n) hl 70 { s with a:=s.a+1,aF:=9 } (rP h rfl rfl rfl rfl rfl) (by show s.data.length<=3;rw[hd];simp);have hk:=sr.adB (n:=n) (l:=l) 70 { s with a:=s.a+1,aF:=9 };refine⟨hg,λhok=>⟨hg,λq=>?_,λq=>?_,λ_=>hg3⟩⟩
  .rw[show (Ml n l s).2.aF=9 from hk.1]at q;exact absurd q (by decide)
  rw[show (Ml n l s).2.aF=9 from hk.1]at q;exact absurd q (by decide)
 split
 .unfold aaW;split
  .exact rQ h
  have hg:Gl { s with aF:=1,op:=(eA l s.a).1,aM:=(eA l s.a).2.1,args:=(eA l s.a).2.2.1 }:=⟨h.lab,TU hl _,MV l _,h.dt,h.dl,h.x,h.t⟩;exact⟨hg,λ_=>RB hg (by show (1:Int)≠2;decide) (by show (1:Int)≠8;decide) (by show (1:Int)≠9;decide)⟩
 exact rQ h
include hl in
theorem RD {dm:Bool}{s:RS}(h:Gl s)(hd:s.data=[])(hk:s.aF=0):GQ (tB n l dm s):=by
 unfold tB;split
 .split
  .exact rQ h
  exact⟨h,λ_=>RB h (by rw[hk];decide) (by rw[hk];decide) (by rw[hk];decide)⟩
 split
 .exact rQ h
 unfold Tj;split
 .exact rQ h
 split
 .exact rQ h
 exact acg hl h hd
include hl in
theorem MX {s:RS}(h:Gl s)(hd:s.data=[])(hk:s.aF=0):GQ (sM n l s):=by
 unfold sM;split
 .unfold Mk;split
  .exact rQ (HU h)
  exact RD hl ⟨h.lab,h.ar,h.al,h.dt,h.dl,h.x,uH hl _⟩ hd hk
 exact RD hl h hd hk
theorem al9:Gl rN:=⟨(by show (0:Nat)<=1100;omega),λr hr=>(by cases hr),by simp[rN],λr hr=>(by cases hr),by simp[rN],vC,vC⟩
include hl in
theorem ach:GQ (ru n l rN):=by
 have h:=al9;unfold ru;split
 .exact PU hl h λt ht=>MW (Dv hl (rP (YE h ht) rfl rfl rfl rfl rfl)) (sr.Dn 3 _) (by decide) (by decide) (by decide)
 split
 .exact PU hl h λt ht=>MX hl (rP (YE h ht) rfl rfl rfl rfl rfl) rfl rfl
 exact MX hl h rfl rfl
end
theorem aia (s:List UInt8):gL (lt.kf s).1:=λt ht=>ah5 ((lt.OS s).1 t ht).2
theorem ama:Gk rN:=RB al9 (by decide) (by decide) (by decide)
theorem aci (s:List UInt8):Gk (gI s).1:=by
 have hq:=ach (n:=s.length) (aia s);unfold gI;split
 .exact ama
 split
 .rename_i h;exact hq.2 h
 exact ama
theorem AO {x:List Nd}(h:gX x):sr.ep x=true:=by
 unfold sr.ep;rw[dS (by have:=h.1;omega),dM];exact aK.2 λy hy=>dS (by have:y.2.2.1.length<=1100:=h.2 y hy;omega)
theorem FH (s:List UInt8):sr.MU (gI s).1/\(gI s).1.lab.length<=1100:=by
 have h:=aci s;refine⟨⟨by have:=h.g.lab;omega,AO h.g.x,AO h.g.t,?_,?_,h.k2,h.k8,h.k9⟩,h.g.lab⟩
 .unfold sr.nZ;rw[dS (by have:=h.g.al;omega),dM];exact aK.2 λr hr=>AO (h.g.ar r hr)
 unfold sr.Kb;rw[dS (by have:=h.g.dl;omega),dM];refine aK.2 λd hd=>?_
 obtain⟨h1,h2⟩:=h.g.dt d hd;rw[dS (by omega),AO h2];rfl
end
end Go.Proofs.YtbeckacfibledaaGreatDoor.ps.bd
namespace Go.Tv
open Go.Ev (ah iG)
noncomputable section
def YF {β:Type}(X:gY)(call:cH β)(an:ez)(rounds:Nat)(id:FuncId)(p:List Bool)(k:AV->aG->Option β)(l:List AV)(f:fM)(H:aG):Option β :=
 match X.P.funcs[id]? with
 |some fn=>match fn.body with
  |some c=>match ku c p with
   |.rangeFunc _ ps a b=>match ps.toList with
    |[q]=>Db (lC an.IU p) q (iw X call an.tr (pG X call an.tr an.ja rounds rounds) rounds a .none) (iw X call an.tr (pG X call an.tr an.ja rounds rounds) rounds b .none)
     (Ey X call an.tr (pG X call an.tr an.ja rounds rounds) rounds p c an.IU (qo X fn k)) l f H
    |_=>none
   |_=>none
  |none=>none
 |none=>none
def TV (sg:List (Option (TypeId×Ty)))(v:AV)(H:aG):Option (AV×List Row) :=
 match v with
 |.fG [.agg cs,w]=>gy (.fG [.agg (eI sg cs H).1,w]) (eI sg cs H).2
 |_=>none
theorem YG {X:gY}{sg:List (Option (TypeId×Ty))}{kn:Ev.fc}{id:FuncId}(hk:∀args,kn id args=none){call:∀ β,cH β}(hcall:∀ β,cX X (dR X kn) (call β)){g:List AV->List Row->Option (Bool×AV×List Row)}
 (h:∀args rows v outs,g args rows=some (true,v,outs)->∃(an:ez) (rounds:Nat),aT X (call (AV×List Row)) an rounds id args (eT (sQ rows) rows) (TV sg)=some (v,outs)):j3 X (dR X kn) id g:=by
 intro args rows v outs hg p S E bK hp hr hgl hl;subst hp;obtain⟨an,rounds,hrun⟩:=h args rows v outs hg;obtain⟨v1,H1,h1,h2⟩:=kW (nf:=false) (hcall _) (λh=>by cases h) hrun;obtain⟨S1,vE,E',a1,a2,a3,a4,_⟩:=h2 S E bK hr hgl hl;unfold TV at h1;split at h1;case h_2=>cases h1
 rename_i cs w;cases a2 with
 |fG _ m hl1 Y2 =>
  obtain⟨x,m1,rfl,b1,b2⟩:=(show LV S1 [.agg cs,w] m from ⟨hl1,Y2⟩).cons_inv;cases b1 with
  |agg _ m2 CI hm2 =>
   obtain⟨S2,c1,c2,c3,c4,_,_⟩:=tC (sg:=sg) a3 S1.le_refl (St.refl S1 H1 E') (show LV S1 cs m2 from ⟨CI,hm2⟩);have hv:VR S2 (.fG [.agg (eI sg cs H1).1,w]) (.tuple (Value.agg m2.toArray::m1).toArray):=by
    have:=LV.cons (VR.agg _ _ c4.1 c4.2) (b2.mono c1);exact .fG _ _ this.1 this.2
   obtain⟨S3,d1,d2,d3⟩:=PA h1 c2 hv;have hpar:(eI sg cs H1).2.par=sQ rows:=c3.yU.trans (a4.yU.trans (uA _ _).2.2.1);rw[hpar]at d2 d3;exact⟨S3,_,E',gb hk a1,d1,d2,(a4.trans c3.Nk).trans d3⟩
end
end Go.Tv
namespace Go.Proofs.YtbeckacfibledaaGreatDoor.ps.sr
open Go.Tv Go.Ev Go.Px Go.Pp Go.Proofs.YtbeckacfibledaaGreatDoor.ex
set_option maxRecDepth 100000
noncomputable section
def gRe (args:List AV)(rows:List Row):OP :=
 match args,rows with
 |[.ptr 0 0,.agg cs],c::l=>match FD (.cells 40 cs),uC 0 c l with
  |some (b0,x),some (b,s)=>some (b&&(b0&&(FE s&&(Nat.ble s.aH.length 999998&&(Nat.ble s.lab.length 100000&&(Nat.ble s.bp.length 200000&&(Nat.ble x.lab.length 100000&&okX x)))))),oq [] (jW gJ fS ny s x))
  |_,_=>none
 |_,_=>none
theorem aib {s:SS}(h:FE s=true)(h1:s.aH.length<=999998)(h2:s.lab.length<=100000)(h3:s.bp.length<=200000):uK s 999998 1000000000000000 100000:=by
 obtain⟨a,b,c⟩:=mw h;obtain⟨k1,_,_,k4⟩:=sR a;obtain⟨b0,b1⟩:=MN b;obtain⟨g0,g1⟩:=MS c;exact⟨k1,h2,h3,h1,k4,b0,b1,g0,g1⟩
theorem aic:j3 X0 fR 21 gRe :=
 nI (λargs=>lt.bR rfl args) (qM nv uB adO) λargs rows v outs hg=>by
  unfold gRe at hg;split at hg;case h_2=>cases hg
  rename_i cs c l;split at hg;case h_2=>cases hg
  rename_i b0 x b s hx hr;simp only[oq,aq,ax,ak]at hg;obtain⟨⟨rfl,rfl,h1,h2,h3,h4,h5,h6⟩,rfl,rfl⟩:=hg;have hx:=nJ hx;simp only[ML,Row.cells.injEq,jw]at hx;subst hx;obtain⟨rfl,rfl⟩:=fV hr;exact⟨T7,5,ab8 (aib h1 (ay h2) (ay h3) (ay h4)) (by decide) (by decide) (by decide) (Yw h6) (ay h5)⟩
def G6:List AJ:=(21,⟨70,vV,gRe⟩)::G5
theorem adT:pN X0 fR G6:=.cons aic adO
def N4:List pI:=(12,⟨none,[none],gV fRd⟩)::N3
theorem YH:gR X0 fR N4:=.cons Mr adM
def pRr:List Bool:=[true,true,true,false,true,false]
def YI:ez:=⟨gZ [2,3,4,18] pRr,.none,[]⟩
abbrev c6:cH (AV×List Row):=cV S1 N4 G6 _
def frR:fM:=lq 63 [(2,.ptr 0 0),(3,.ptr 1 0),(4,.ptr 2 0),(18,.fn 40 [] [.ptr 3 0])]
def mB (s:SS):aG:=oY [.cells 27 [.int .i64 0,.dG,.dG],.cells 47 [.int .i64 0,.int .i64 0],PE 4,.dead,.cells 70 (Y9 7 5 6 s.aH.length s.av.length s),.list 59 iz s.aH 0 false false,.list 52 rO s.av 0 false false,.mp 68 s.aI]
def mA (az:Int):aG:=oY [.cells 27 [.int .i64 0,.dG,.dG],.cells 47 [.int .i64 0,.int .i64 0],PE 4,.dead,.cells 70 [.int .i64 0,.dG,.dG,.yu 5,.str [],.bool false,.str [],.int .i64 0,.bool false,.int .i64 0,.int .i64 az],.mp 68 []]
def jB (r:Nat)(l:List AV)(s:SS):OG:=YF X0 c6 YI r 13 pRr (TV vV) l frR (mB s)
def jA (r:Nat)(l:List AV)(az:Int):OG:=YF X0 c6 YI r 13 pRr (TV vV) l frR (mA az)
def xz (fJ:Int)(aH:List Sy)(av:List It)(e az:Int):OG:=some (.fG [.agg [.int .i64 fJ,.own 0 aH.length,.own 1 av.length],.agg [.int .i64 e,.int .i64 az]],[.list 59 iz aH 0 false false,.list 52 rO av 0 false false])
def reT (s:SS)(x:RS)(k:SS->Int->OG):OG:=ah (Yc s.aH.length s.av.length&&(FE s&&(Nat.ble s.aH.length 999998&&(Nat.ble s.lab.length 100000&&(Nat.ble s.bp.length 200000&&(Nat.ble x.lab.length 100000&&okX x)))))) (k (jW gJ fS ny s x).1 (jW gJ fS ny s x).2) none
def Fi (s:SS)(w:List UInt8)(next:SS->OG)(stay:OG):OG :=
 ah (bI (gI w).2.1 0) (reT s (gI w).1 λs' e=>ah (!bI e 0) (xz 0 [] [] e s'.az) (next s')) (ah (!bI (gI w).2.1 0) (xz 0 [] [] (gI w).2.1 s.az) stay)
theorem amb (fJ:Int)(aH:List Sy)(av:List It)(aI:List (List UInt8×Int))(lab:List UInt8)(opn:Bool)(bp:List UInt8)(aN:Int)(aR:Bool)(aD az:Int)(r:Nat)(w:List UInt8)(l:List AV) :
 jB r (.str w::l) ⟨fJ,aH,av,aI,lab,opn,bp,aN,aR,aD,az⟩=Fi ⟨fJ,aH,av,aI,lab,opn,bp,aN,aR,aD,IntKind.wrap .i64 (az+1)⟩ w (jB r l) (jB r l ⟨fJ,aH,av,aI,lab,opn,bp,aN,aR,aD,IntKind.wrap .i64 (az+1)⟩):=by kernel_rfl
theorem stepA' (az:Int)(r:Nat)(w:List UInt8)(l:List AV) :
 jA r (.str w::l) az=Fi ⟨0,[],[],[],[],false,[],0,false,0,IntKind.wrap .i64 (az+1)⟩ w (jB r l) (jA r l (IntKind.wrap .i64 (az+1))):=by kernel_rfl
theorem amc (fJ:Int)(aH:List Sy)(av:List It)(aI:List (List UInt8×Int))(lab:List UInt8)(opn:Bool)(bp:List UInt8)(aN:Int)(aR:Bool)(aD az:Int)(r:Nat) :
 jB r [] ⟨fJ,aH,av,aI,lab,opn,bp,aN,aR,aD,az⟩=ah opn (xz 0 [] [] 8 az) (xz fJ aH av 0 0):=by kernel_rfl
theorem YJ (s:List UInt8)(r:Nat):aT X0 c6 YI r 13 [.str s] (eT 0 []) (TV vV)=ah (bB 1048576 (s.length:Int)) (xz 0 [] [] 3 0) (ah (Nat.ble s.length 2000000) (jA r ((jQ s).map .str) 0) none):=by kernel_rfl
end
end Go.Proofs.YtbeckacfibledaaGreatDoor.ps.sr
namespace Go.Proofs.YtbeckacfibledaaGreatDoor.ps.sr
open Go.Tv Go.Ev Go.Px Go.Pp Go.Proofs.YtbeckacfibledaaGreatDoor.ex
set_option maxRecDepth 100000
noncomputable section
theorem xA {s:SS}{n:Nat}{g:Int}{w:Nat}{x:List Nd}{K:Int->SR'}(h:uK s n g w)(hK:∀n',uK (K n').1 n g w):uK (nY gJ fS s x K).1 n g w:=by
 unfold nY;split
 .exact h
 exact hK _
theorem RF {sz:Int}(hz:sz=1\/sz=2\/sz=4\/sz=8):∀(l:List Dt) (b:Int),(∀d∈l,d.1.length<=1000000)->0<=b->0<=l.foldl (λn d=>n+Q8 sz d) b
 |[],b,_,h=>h
 |d::l,b,hd,h=>by
  rw[gm];have:=Yp hz (hd d (by simp));exact RF hz l _ (λx hx=>hd x (by simp[hx])) (by omega)
theorem acj {s:SS}{n:Nat}{g:Int}{w:Nat}(h:uK s n g w){x:RS}(hx:MU x)(hv:x.lab.length<=w)(ho:x.aF=6->s.opn=false){t:Int}(ht:0<=t):uK (vN gJ fS ny s x t).1 (n+1) (g+1048576) w:=by
 have up:∀{s':SS},uK s' n g w->uK s' (n+1) (g+1048576) w:=λq=>q.up (fD _) (by omega)
 unfold vN;split
 .unfold AA;split
  .exact up h
  exact up (B6 h rfl (by decide) (by decide) ht)
 split
 .rename_i hk;obtain⟨hz,h1⟩:=hx.k2 hk;unfold Cy;split
  .exact up h
  refine up (B6 h ?_ (by omega) (RF (sS hz) _ _ (λd hd=>((sU hx.data).2 d hd).1) (bE 0)) ht);rw[cy]
 split
 .exact FF (n:=n) (g:=g) (up h) (xA (up h) λn'=>(PL h _ _).up (aC _) (by omega))
 split
 .refine xA (up h) λn'=>?_
  split
  .exact up h
  exact up (B6 h rfl (by decide) (by decide) (by decide))
 split
 .refine xA (up h) λn'=>?_
  split
  .exact up h
  split
  .exact up h
  exact up ⟨h.kn,h.lab,h.bp,h.aH,h.av,h.b0,h.b1,h.g0,h.g1⟩
 split
 .rename_i hk;have hno:=ho hk;refine up ⟨h.kn,h.lab,?_,h.aH,h.av,h.b0,h.b1,bE _,?_⟩
  .show (gx (cn s) x.lab).length<=2*w;have e:cn s=s.lab:=by unfold cn;rw[hno,aa (by decide)]
   have:=ahF (c:=cn s) (w:=x.lab);have h2:=h.lab;rw[e]at this ⊢;omega
  have h1:=h.g0;have h2:=h.g1;show (0:Int)<=g;omega
 split
 .have hq:=PL h (s.bp++Cz) s.aN;exact FF (n:=n) (g:=g) (up h) (uK.up ⟨hq.kn,hq.lab,hq.bp,hq.aH,hq.av,hq.b0,hq.b1,hq.g0,hq.g1⟩ (aC _) (by omega))
 split
 .rename_i hk;have hz:=sS (hx.k8 hk);refine xA (up h) λn'=>?_
  split
  .exact up h
  rename_i h1;split
  .exact up h
  rename_i h2;have h3:0<=n'*x.sz/\n'*x.sz<=1048576:=by
   rcases hz with e|e|e|e<;>rw[e]at h2 ⊢
   .have:Int.tdiv 1048576 1=1048576:=by decide
    omega
   .have:Int.tdiv 1048576 2=524288:=by decide
    omega
   .have:Int.tdiv 1048576 4=262144:=by decide
    omega
   have:Int.tdiv 1048576 8=131072:=by decide
   omega
  split
  .have g0:=h.g0;have g1:=h.g1;exact⟨h.kn,h.lab,h.bp,Nat.le_succ_of_le h.aH,h.av,h.b0,h.b1,by show 0<=s.aN+n'*x.sz;omega,by show s.aN+n'*x.sz<=g+1048576;omega⟩
  exact up (B6 h rfl (by decide) h3.1 ht)
 split
 .unfold JP;split
  .exact up h
  unfold powC;split
  .exact up h
  exact up (B6 h rfl (by decide) (by omega) ht)
 exact up h
theorem RG {s:SS}{n:Nat}{g:Int}{w:Nat}(h:uK s n g w){x:RS}(hx:MU x)(hv:x.lab.length<=w){t:Int}(ht:0<=t):uK (ux gJ fS ny s x t).1 (n+1) (g+1048576) w:=by
 unfold ux;split
 .exact h.up (fD _) (by omega)
 rename_i hm;refine acj h hx hv (λhk=>?_) ht;unfold aa2 at hm;cases ho:s.opn with
 |false=>rfl
 |true=>rw[ho,ag rfl,ag (by simp[hk])]at hm;exact absurd rfl hm
theorem MY {s:SS}{n:Nat}{g:Int}{w:Nat}(h:uK s n g w){x:RS}(hx:MU x)(hv:x.lab.length<=w):uK (pM gJ fS ny s x).1 (n+1) (g+1048576) w:=by
 unfold pM;split
 .exact RG h hx hv (by decide)
 refine xA (h.up (fD _) (by omega)) λn'=>?_
 split
 .exact h.up (fD _) (by omega)
 exact RG h hx hv (by omega)
theorem adU {s:SS}{n:Nat}{g:Int}{w:Nat}(h:uK s n g w){x:RS}(hx:MU x)(hv:x.lab.length<=w):uK (jW gJ fS ny s x).1 (n+2) (g+1048576) w:=by
 have hl:=Yx h hv;unfold jW;split
 .split
  .exact hl.up (by omega) (by omega)
  exact MY hl hx hv
 exact(MY h hx hv).up (by omega) (bE _)
def FI (r:SS×Int):OG:=if r.2≠0 then xz 0 [] [] r.2 r.1.az else if r.1.opn=true then xz 0 [] [] 8 r.1.az else xz r.1.fJ r.1.aH r.1.av 0 0
theorem aid {s:SS}{n:Nat}{g:Int}(h:uK s n g 1100)(hn:n<=999998)(hg:g<=1000000000000000){x:RS}(hx:MU x)(hv:x.lab.length<=1100)(k:SS->Int->OG):reT s x k=k (jW gJ fS ny s x).1 (jW gJ fS ny s x).2:=by
 have h1:=h.lab;have h2:=h.bp;have h3:=h.aH;unfold reT;rw[qN,h.a (by omega) hg (by decide),dS (by omega),dS (by omega),dS (by omega),dS (by omega),hx.b];rfl
theorem J5 {s:SS}{n:Nat}{g:Int}{w:Nat}(h:uK s n g w)(k:Int):uK { s with az:=k } n g w:=⟨h.kn,h.lab,h.bp,h.aH,h.av,h.b0,h.b1,h.g0,h.g1⟩
abbrev qY (l:List (List UInt8))(s:SS):SS×Int:=jO gJ fS ny gI l s
theorem HV {s:SS}{n:Nat}{g:Int}(h:uK s n g 1100)(hn:n<=999998)(hg:g<=1000000000000000)(h0:0<=s.az)(h1:s.az<=1000000)(w:List UInt8)(next:SS->OG)(stay:OG)(l:List (List UInt8))
 (hnext:∀s',uK s' (n+2) (g+1048576) 1100->s'.az=s.az+1->next s'=FI (qY l s')):Fi { s with az:=IntKind.wrap .i64 (s.az+1) } w next stay=FI (qY (w::l) s):=by
 have hl:=J5 h (s.az+1);obtain⟨hx,hv⟩:=bd.FH w;unfold Fi;rw[i64_in (n:=s.az+1) (by omega) (by omega),cq,cw];unfold qY;rw[sO];by_cases he:(gI w).2.1=0
 .rw[ag he,aa (λq=>q he),aid hl hn hg hx hv];show ah _ _ _=_;rw[cw];have Nw:(jW gJ fS ny { s with az:=s.az+1 } (gI w).1).1.az=s.az+1:=HJ gJ fS ny _ _;by_cases h2:(jW gJ fS ny { s with az:=s.az+1 } (gI w).1).2=0
  .rw[ag h2,aa (λq=>q h2)];exact hnext _ (adU hl hx hv) Nw
  rw[aa h2,ag h2];unfold FI;rw[ag h2,Nw]
 rw[aa he,aa he,ag he];unfold FI;rw[ag he]
theorem ack (r:Nat)(w:List UInt8)(l:List AV)(s:SS):jB r (.str w::l) s=Fi { s with az:=IntKind.wrap .i64 (s.az+1) } w (jB r l) (jB r l { s with az:=IntKind.wrap .i64 (s.az+1) }):=by cases s;exact amb ..
theorem aie (r:Nat)(s:SS):jB r [] s=FI (qY [] s):=by
 have e:jB r [] s=ah s.opn (xz 0 [] [] 8 s.az) (xz s.fJ s.aH s.av 0 0):=by cases s;exact amc ..
 rw[e];unfold FI;show _=if (0:Int)≠0 then _ else if s.opn=true then _ else _;rw[aa (by decide),au];rfl
theorem amd (r:Nat):∀(l:List (List UInt8)) (s:SS) (k:Nat),uK s (2*k) (1048576*k) 1100->s.az=k->k+l.length<=400000->jB r (l.map .str) s=FI (qY l s):=by
 intro l;induction l with
 |nil=>intro s k _ _ _;exact aie r s
 |cons w l ih =>
  intro s k h hk hn;have hn':k+(l.length+1)<=400000:=by simpa using hn
  rw[cO,ack];refine HV h (by omega) (by omega) (by omega) (by omega) w _ _ l λs' hs' hl'=>?_
  exact ih s' (k+1) (by rw[show 2*(k+1)=2*k+2 by omega,show (1048576*((k+1:Nat):Int))=1048576*(k:Int)+1048576 by omega];exact hs') (by omega) (by omega)
theorem ame:uK Fk 0 0 1100:=⟨rfl,by simp[Fk],by simp[Fk],by simp[Fk],by simp[Fk],bE _,by decide,bE _,bE _⟩
theorem yl (r:Nat)(w:List UInt8)(l:List (List UInt8))(hl:l.length<=300000):jA r ((w::l).map .str) 0=FI (qY (w::l) Fk):=by
 rw[cO,stepA'];refine HV (s:=Fk) (n:=0) (g:=0) ame (by decide) (by decide) (bE _) (by decide) w _ _ l λs' hs' hl'=>?_
 exact amd r l s' 1 hs' hl' (by omega)
theorem zn:∀(s:List UInt8),(sl.di s).length<=s.length+1
 |[]=>by simp[sl.di]
 |c::r=>by
  have h:=zn r;unfold sl.di;split
  .simp only[aJ]at h ⊢;omega
  split
  .rename_i p ps hq;rw[hq]at h;simp only[aJ]at h ⊢;omega
  simp
theorem wT (s:List UInt8):sl.jt [] [] s=sl.di s:=by
 rw[sl.o5];have:=sl.oZ s;cases h:sl.di s with
 |nil=>exact absurd h this
 |cons p ps=>rfl
theorem uI (s:List UInt8):jQ s=(sl.di s).map sl.wX:=by unfold jQ;rw[wT]
abbrev yg (s:List UInt8):Ls×Int×Int:=qX gJ fS ny gI (jQ s)
theorem YK (l:List (List UInt8)):FI (qY l Fk)=xz (qX gJ fS ny gI l).1.1 (qX gJ fS ny gI l).1.2.1 (qX gJ fS ny gI l).1.2.2 (qX gJ fS ny gI l).2.1 (qX gJ fS ny gI l).2.2:=by
 unfold FI qX;by_cases h:(jO gJ fS ny gI l Fk).2≠0
 .rw[ag h,ag h];rfl
 rw[aa h,aa h];by_cases h2:(jO gJ fS ny gI l Fk).1.opn=true
 .rw[ag h2,ag h2];rfl
 rw[aa h2,aa h2];rfl
def aif (q:Ls×Int×Int):AV×List Row:=(.fG [.agg [.int .i64 q.1.1,.own 0 q.1.2.1.length,.own 1 q.1.2.2.length],.agg [.int .i64 q.2.1,.int .i64 q.2.2]],[.list 59 iz q.1.2.1 0 false false,.list 52 rO q.1.2.2 0 false false])
def aih (args:List AV)(rows:List Row):OP :=
 match args,rows with
 |[.str s],[]=>some (Nat.ble s.length 200000,aif (yg s))
 |_,_=>none
theorem aii {s:List UInt8}(hs:s.length<=200000):aT X0 c6 YI 5 13 [.str s] (eT 0 []) (TV vV)=some (aif (yg s)):=by
 rw[YJ,fH (by omega),dS (by omega)];have hl:=zn s;have hne:=sl.oZ s;show jA 5 ((jQ s).map .str) 0=_;have e:some (aif (yg s))=FI (qY (jQ s) Fk):=(YK _).symm;rw[e,uI];cases h:sl.di s with
 |nil=>exact absurd h hne
 |cons w l =>
  rw[h]at hl;simp only[aJ]at hl;exact yl 5 (sl.wX w) (l.map sl.wX) (by rw[cy];omega)
theorem acm:j3 X0 fR 13 aih :=
 YG (sg:=vV) (λargs=>lt.bR rfl args) (qM nv YH adT) λargs rows v outs hg=>by
  unfold aih at hg;split at hg;case h_2=>cases hg
  rename_i s;simp only[aq,ax]at hg;obtain⟨h1,h2⟩:=hg;refine⟨YI,5,(aii (ay h1)).trans ?_⟩;rw[h2]
def G7:List AJ:=(13,⟨0,[],aih⟩)::G6
theorem adV:pN X0 fR G7:=.cons acm adT
end
end Go.Proofs.YtbeckacfibledaaGreatDoor.ps.sr

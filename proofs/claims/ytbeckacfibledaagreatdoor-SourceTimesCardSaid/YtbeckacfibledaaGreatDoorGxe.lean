/- Lines: what is read is not too long. -/
import Derived.Test.YtbeckacfibledaaGreatDoorGrj
import Derived.Test.YtbeckacfibledaaGreatDoorGxd
set_option linter.unusedVariables false
set_option linter.unusedSimpArgs false

namespace Go.Proofs.YtbeckacfibledaaGreatDoor.ps.bd
open Go.Tv Go.Ev Go.Px Go.Pp Go.Proofs.YtbeckacfibledaaGreatDoor.ex
set_option maxRecDepth 100000
noncomputable section
def gT (t:Tok):Prop:=t.2.2.1.length<=1100
def gL (l:aX):Prop:=∀t∈l,gT t
def gNd (y:Nd):Prop:=y.2.2.1.length<=1100
def gX (x:bz):Prop:=x.length<=200/\∀y∈x,gNd y
def gRw (r:Raw):Prop:=gX r.2.2.2.1
def gDt (d:Dt):Prop:=d.1.length<=1100/\gX d.2
theorem alG {t:Tok}(h:lt.Ge t=true):gT t:=by
 unfold lt.Ge at h;simp only[ak]at h;exact aB h.2
theorem at_mem {α:Type}{l:List α}{i:Int}{t:α}(h:at? l i=some t):t∈l:=by
 unfold at? at h;split at h
 .exact bu h
 cases h
theorem L5 (op:Int)(i j:Int):gNd (op,0,[],i,j):=by show (0:Nat)<=1100;omega
theorem alH {t:Tok}{n:Nd}(a:gT t)(h:zy bZ t=some n):gNd n:=by
 unfold zy at h;split at h
 .cases h;show (0:Nat)<=1100;omega
 split at h
 .cases h;exact a
 split at h
 .cases h;exact L5 _ _ _
 split at h
 .cases h;exact L5 _ _ _
 cases h
theorem afl {x:bz}{n:Nd}(a:gX x)(hl:¬x.length=200)(b:gNd n):gX (x++[n]) :=
 ⟨by have:=a.1;rw[aA];show x.length+1<=200;omega,λy hy=>(cg.1 hy).elim (a.2 y) λh=>by rw[dP.1 h];exact b⟩
def GR (r:l7):Prop:=∀b st,r=some (b,st)->gX st.x
theorem zj {st:St}{e f:Int}(h:gX st.x):GR (ym st e f):=λb s a=>by cases a;exact h
theorem ag8 {st:St}(h:gX st.x):GR (some (true,st)):=λb s a=>by cases a;exact h
theorem L6 {st:St}{n:Nd}{f:Int}{k:St->l7}(h:gX st.x)(b:gNd n)(c:∀s:St,gX s.x->GR (k s)):GR (rE st n f k):=by
 unfold rE;split
 .exact zj h
 rename_i a;exact c _ (afl h a b)
theorem Uc {st:St}{k:St->l7}(h:gX st.x)(a:∀s:St,gX s.x->GR (k s)):GR (ri st k):=by
 unfold ri;split
 .exact zj h
 exact a _ h
theorem abb {r:l7}{k:St->l7}(c:GR r)(d:∀s:St,gX s.x->GR (k s)):GR (Le r k):=by
 unfold Le;split
 .rename_i st;exact d st (c true st rfl)
 .rename_i st;exact λb s a=>by cases a;exact c false st rfl
 exact λb s a=>by cases a
theorem afm {l:aX}(hl:gL l){rec:Int->St->l7}{k:St->l7}(a:∀s st,gX st.x->GR (rec s st))(c:∀s:St,gX s.x->GR (k s)){st:St}(h:gX st.x):GR (ou bZ l rec st k):=by
 unfold ou;split
 .exact zj h
 rename_i t e;split
 .rename_i n f;exact L6 h (alH (hl t (at_mem e)) f) c
 split
 .refine Uc h λg d=>abb (a _ _ d) λs b=>?_
  split
  .exact c _ b
  exact L6 b (L5 _ _ _) c
 split
 .refine Uc h λg d=>abb (a _ _ d) λs b=>?_
  split
  .exact zj b
  split
  .exact c _ b
  exact zj b
 exact zj h
theorem Ud {l:aX}{rec:Int->St->l7}(a:∀s st,gX st.x->GR (rec s st))(str:Int):∀(n:Nat) (st:St),gX st.x->GR (jQ l rec str n st)
 |0,st,h=>λb s c=>by cases c
 |n+1,st,h=>by
  unfold jQ;split
  .exact ag8 h
  split
  .exact ag8 h
  exact abb (a _ _ h) λs c=>L6 c (L5 _ _ _) λs c=>Ud a str n s c
theorem Hw {l:aX}(hl:gL l):∀(k:Nat) (str:Int) (st:St),gX st.x->GR (ef bZ l k str st)
 |0,_,_,_=>λb s a=>by cases a
 |k+1,str,st,h=>afm hl (Hw hl k) (λs a=>Ud (Hw hl k) str _ s a) h
theorem wY:gX []:=⟨by simp,λy hy=>by cases hy⟩
theorem vZ {l:aX}(hl:gL l)(a:Int):gX (bp l a).1:=by
 obtain⟨r,b⟩:=rQ (nm:=bZ) l a;have c:bp l a=r:=by unfold bp;rw[b];rfl
 rw[c];unfold oa at b;split at b
 .cases b;exact wY
 split at b
 .rename_i st d;cases b;exact Hw hl _ 1 ⟨a,0,[],0,0⟩ wY _ st d
 .cases b;exact wY
 cases b
theorem R5:gL []:=λy hy=>by cases hy
theorem L7 {a b:aX}(c:gL a)(d:gL b):gL (a++b):=λt e=>(cg.1 e).elim (c t) (d t)
theorem R6 {w:au}(h:w.length<=1100):gL [Gq w]:=λt a=>by rw[dP.1 a];exact h
theorem Wb (sg:au)(r:Rg)(a:Int)(s:TS):(kL sg r a s).2.2.2.put=s.put:=by
 unfold kL;split
 .rfl
 split
 .rfl
 split<;>rfl
theorem R7 (sg:au)(r:Rg)(a num n:Int)(s:TS):(gY sg r a num n s).2.2.2.put=s.put:=by
 unfold gY;split
 .rfl
 split<;>rfl
theorem afn {l:aX}(hl:gL l){sg:au}(d:sg.length<=1100)(a b:Int){s:TS}(h:gL s.put):gL (od l sg a b s).2.2.2.put:=by
 unfold od okO;refine L7 (L7 (L7 ?_ (R6 (by decide))) λt c=>hl t ?_) (R6 (by decide))
 .split
  .exact L7 h (R6 d)
  exact h
 unfold Df at c;exact List.mem_of_mem_drop (List.mem_of_mem_take c)
theorem ap3 {l:aX}(hl:gL l){sg:au}(c:sg.length<=1100)(a b:Int){s:TS}(h:gL s.put):gL (lH rp l sg a b s).2.2.2.put:=by
 have d:∀r,gL (kL sg r a s).2.2.2.put:=λr=>by rw[Wb];exact h
 have e:∀r num n,gL (gY sg r a num n s).2.2.2.put:=λr num n=>by rw[R7];exact h
 have f:=afn hl c a b h;unfold lH;repeat' split
 all_goals first|exact h|exact d _|exact e _ _ _|exact f
theorem abc {l:aX}(hl:gL l)(e:Int):∀(n:Nat) (sg:au) (a:Int) (s:TS) (o:qa),sg.length<=1100->gL s.put->Pp.n9 rp l e n sg a s=some o->gL o.2.2.2.put
 |0,_,_,_,_,_,_,h=>by cases h
 |n+1,sg,a,s,o,d,g,h=>by
  have b:=ap3 hl d a (eP l a e) g;unfold Pp.n9 at h;split at h
  .rename_i x f i c;rw[c]at b;split at h
   .cases h;exact b
   split at h
   .rename_i t j;exact abc hl e n _ _ _ o (hl t (at_mem j)) b h
   cases h
  rename_i x f i c;rw[c]at b;cases h;exact b
theorem alI {l:aX}(hl:gL l)(i:Int):((at? l i).getD Ea).2.2.1.length<=1100:=by
 cases h:at? l i with
 |none=>show (0:Nat)<=1100;omega
 |some t=>exact hl t (at_mem h)
theorem alJ {l:aX}(hl:gL l)(op en:Int):gL (lB l op en Jn).2.2.2.put:=by
 have key:∀r:Option qa,(∀o,r=some o->gL o.2.2.2.put)->gL (r.getD (lC Jn 0 0)).2.2.2.put:=λr b=>by
  cases r with
  |none=>exact R5
  |some o=>exact b o rfl
 unfold lB;refine key _ λo a=>?_
 split at a
 .exact abc hl _ _ _ _ _ _ (alI hl _) R5 a
 exact abc hl _ _ _ _ _ _ (by decide) R5 a
theorem uB (e f:Int):gRw (kB e f).1:=wY
theorem Ue {l:aX}(hl:gL l)(op sz:Int):gRw (l5 l op sz).1:=by
 unfold l5;split
 .split
  .exact uB _ _
  split
  .exact vZ hl _
  exact uB _ _
 split
 .exact uB _ _
 rename_i en _;have a:=alJ hl op en;generalize lB l op en Jn=o at a;unfold xz;split
 .exact uB _ _
 split
 .split
  .exact wY
  exact uB _ _
 split
 .exact uB _ _
 split
 .exact uB _ _
 split
 .exact vZ a _
 exact uB _ _
theorem Wc {l:aX}(hl:gL l)(a:Int):gRw (bE l a).1:=by
 have b:gRw (AO (bp l a)).1:=by
  unfold AO;split
  .exact uB _ _
  exact vZ hl _
 unfold bE;split
 .exact uB _ _
 split
 .exact b
 split
 .exact wY
 split
 .split
  .exact Ue hl _ _
  exact uB _ _
 split
 .exact Ue hl _ _
 exact b
theorem ap4 {op:Int}{w:Raw}(h:gRw w):gRw (Ec op w):=by
 unfold Ec;split<;>exact h
def gA (l:eO):Prop:=∀r∈l,gRw r
theorem ap5 {l:aX}(hl:gL l)(op aM:Int):∀(m:Nat) (a:Int) (args:eO) (c:H7),gA args->Ed l op aM m a args=some c->gA c.2.2.1
 |0,_,_,_,_,h=>by cases h
 |m+1,a,args,c,e,h=>by
  have b:gA (args++[Ec op (bE l a).1]):=λr b=>by
   rcases cg.1 b with b|b
   .exact e r b
   rw[dP.1 b];exact ap4 (Wc hl _)
  have d:gA []:=λr b=>by cases b
  unfold Ed at h;split at h
  .cases h;exact d
  split at h
  .cases h;exact b
  split at h
  .cases h;exact d
  split at h
  .cases h;exact d
  exact ap5 hl op aM m _ _ c b h
theorem We {l:aX}(hl:gL l)(a:Int):gA (dY l a).2.2.1:=by
 have d:gA []:=λr f=>by cases f
 unfold dY;split
 .exact d
 split
 .exact d
 unfold Oy;generalize (if lI l a=0 then a+1 else a+2)=b;by_cases e:b=(l.length:Int)
 .rw[ag e];exact d
 rw[aa e];cases g:Ed l (Eb l a).1 (lI l a) 5 b [] with
 |none=>exact d
 |some c=>exact ap5 hl _ _ _ _ _ _ d g
theorem abd {l:aX}(op aM:Int):∀(m:Nat) (a:Int) (args:eO) (c:H7),Ed l op aM m a args=some c->c.2.2.1.length<=args.length+m
 |0,_,_,_,h=>by cases h
 |m+1,a,args,c,h=>by
  unfold Ed at h;split at h
  .cases h;show (0:Nat)<=_;omega
  split at h
  .cases h;show (args++_).length<=_;rw[aA];show args.length+1<=_;omega
  split at h
  .cases h;show (0:Nat)<=_;omega
  split at h
  .cases h;show (0:Nat)<=_;omega
  have:=abd op aM m _ _ c h;rw[aA]at this;have:c.2.2.1.length<=args.length+1+m:=this;omega
theorem Pr (l:aX)(a:Int):(dY l a).2.2.1.length<=5:=by
 have z:(0:Nat)<=5:=by omega
 unfold dY;split
 .exact z
 split
 .exact z
 unfold Oy;generalize (if lI l a=0 then a+1 else a+2)=b;by_cases d:b=(l.length:Int)
 .rw[ag d];exact z
 rw[aa d];cases e:Ed l (Eb l a).1 (lI l a) 5 b [] with
 |none=>exact z
 |some c =>
  have:=abd _ _ _ _ _ _ e;show c.2.2.1.length<=5;simpa using this
structure Gl (s:RS):Prop where
 lab:s.lab.length<=1100
 ar:gA s.args
 al:s.args.length<=5
 dt:∀d∈s.data,gDt d
 dl:s.data.length<=64
 x:gX s.x
 t:gX s.ai
section
variable {n:Int} {l:aX}
variable (hl:gL l)
theorem uX {s:RS}{e i:Int}(h:Gl s):Gl (iT n l s e i).2:=⟨h.lab,h.ar,h.al,h.dt,h.dl,h.x,h.t⟩
include hl in
theorem ag9 {s:RS}{go:bz->Int->LR}(h:Gl s)(a:∀x e,gX x->Gl (go x e).2):Gl (Dj n l s go).2:=by
 unfold Dj;split
 .exact uX h
 exact a _ _ (vZ hl _)
theorem abe {fin:Bool}{J:RS->LR}{s:RS}(h:Gl s) (b:Gl (J { s with a:=s.a+1 }).2):Gl (rR n l fin J s).2:=by
 unfold rR;split
 .exact h
 split
 .exact b
 exact uX h
theorem Ch {s:RS}{a:Int}{d:Dt}(h:Gl s)(c:gDt d)(e:¬s.data.length=64):Gl { s with a:=a,data:=s.data++[d] } :=
 ⟨h.lab,h.ar,h.al,λx b=>by
  rcases cg.1 b with b|b
  .exact h.dt x b
  .rw[dP.1 b];exact c,by
  have:=h.dl;show (s.data++[d]).length<=64;rw[aA];show s.data.length+1<=64;omega,h.x,h.t⟩
theorem JP {s:RS}{a:Int}(h:Gl s):Gl { s with a:=a }:=⟨h.lab,h.ar,h.al,h.dt,h.dl,h.x,h.t⟩
theorem abf {x:bz}(h:gX x):gDt ([],x):=⟨by show (0:Nat)<=1100;omega,h⟩
include hl in
theorem abg:∀(m:Nat) (s:RS),Gl s->Gl (B5 n l m s).2
 |0,s,h=>h
 |m+1,s,h=>by
  unfold B5;split
  .exact uX h
  rename_i b;split
  .rename_i w a;have c:w.length<=1100:=by
    unfold rS at a;split at a
    .rename_i t g;split at a
     .cases a;exact hl t (at_mem g)
     cases a
    cases a
   have d:gDt (w,[]):=⟨c,wY⟩;exact abe (Ch h d b) (abg m _ (JP (Ch h d b)))
  exact ag9 hl h λx e f=>abe (Ch h (abf f) b) (abg m _ (JP (Ch h (abf f) b)))
include hl in
theorem aha:∀(m:Nat) (s:RS),Gl s->s.data.length<=3->Gl (HM n l m s).2/\(HM n l m s).2.data.length<=3
 |0,s,h,b=>⟨h,b⟩
 |m+1,s,h,b=>by
  have key:¬s.data.length=3->∀fin:Bool,Gl (rR n l fin (HM n l m) { s with a:=(bp l s.a).2.1,data:=s.data++[([],(bp l s.a).1)] }).2/\(rR n l fin (HM n l m) { s with a:=(bp l s.a).2.1,data:=s.data++[([],(bp l s.a).1)] }).2.data.length<=3:=λe fin=>by
   have c:=Ch (a:=(bp l s.a).2.1) h (abf (vZ hl s.a)) (by omega);have d:(s.data++[(([],(bp l s.a).1):Dt)]).length<=3:=by rw[aA];show s.data.length+1<=3;omega
   unfold rR;split
   .exact ⟨c,d⟩
   split
   .exact aha m _ (JP c) d
   exact⟨uX c,d⟩
  unfold HM;split
  .exact ⟨uX h,b⟩
  rename_i e;unfold Dj;split
  .exact ⟨uX h,b⟩
  exact key e _
theorem tw {s a:RS}(h:Gl s)(c:a.lab=s.lab)(e2:a.args=s.args)(b:a.data=s.data)(d:a.x=s.x)(e:a.ai=s.ai):Gl a :=
 ⟨by rw[c];exact h.lab,by rw[e2];exact h.ar,by rw[e2];exact h.al,by rw[b];exact h.dt,by rw[b];exact h.dl,by rw[d];exact h.x,by rw[e];exact h.t⟩
structure Gk (s:RS):Prop where
 g:Gl s
 k2:s.aC=2->sr.DU s.sz=true/\1<=s.data.length
 k8:s.aC=8->sr.DU s.sz=true
 k9:s.aC=9->s.data.length<=3
def GQ (r:LR):Prop:=Gl r.2/\(r.1=true->Gk r.2)
theorem tA {s:RS}{e i:Int}(h:Gl s):GQ (iT n l s e i):=⟨uX h,λq=>by cases q⟩
theorem Uf {s:RS}(h:Gl s)(a:s.aC≠2)(b:s.aC≠8)(c:s.aC≠9):Gk s:=⟨h,λq=>absurd q a,λq=>absurd q b,λq=>absurd q c⟩
theorem Pt {r:LR}{k:Int}{w:au}(h:Gl r.2)(a:sr.KP k w r)(b:k≠2)(c:k≠8)(d:k≠9):GQ r:=⟨h,λ_=>Uf h (by rw[a.1];exact b) (by rw[a.1];exact c) (by rw[a.1];exact d)⟩
theorem Ug (w:au):sr.DU (qc w)=true:=by
 unfold qc;split
 .split
  .decide
  split
  .decide
  split<;>decide
 decide
theorem ahb:∀(m:Nat) (s:RS),(B5 n l m s).2.sz=s.sz/\((B5 n l m s).1=true->1<=(B5 n l m s).2.data.length)
 |0,s=>⟨rfl,λq=>by cases q⟩
 |m+1,s=>by
  have b:∀(d:Dt) (a:Int),(rR n l true (B5 n l m) { s with a:=a,data:=s.data++[d] }).2.sz=s.sz/\((rR n l true (B5 n l m) { s with a:=a,data:=s.data++[d] }).1=true->1<=(rR n l true (B5 n l m) { s with a:=a,data:=s.data++[d] }).2.data.length):=λd a=>by
   unfold rR;split
   .refine ⟨rfl,λ_=>?_⟩;show 1<=(s.data++[d]).length;rw[aA];show 1<=s.data.length+1;omega
   split
   .exact ahb m _
   exact⟨rfl,λq=>by cases q⟩
  unfold B5;split
  .exact ⟨rfl,λq=>by cases q⟩
  split
  .exact b _ _
  unfold Dj;split
  .exact ⟨rfl,λq=>by cases q⟩
  exact b _ _
theorem R8 {s:RS}(h:Gl s):Gl (zC n l s).2:=by
 unfold zC;split
 .exact h
 exact uX h
include hl in
theorem EN {aC:Int}{s:RS}(h:Gl s):Gl (sW n l aC s).2 :=
 ag9 hl (s:={ s with aC:=aC }) (tw h rfl rfl rfl rfl rfl) λx e a=>R8 ⟨h.lab,h.ar,h.al,h.dt,h.dl,a,h.t⟩
theorem alK {s:RS}:(zC n l s).2.sz=s.sz:=by
 unfold zC;split<;>rfl
theorem afo {aC:Int}{s:RS}:(sW n l aC s).2.sz=s.sz:=by
 unfold sW Dj;split
 .rfl
 exact alK
include hl in
theorem R9 {i:Int}{s:RS}{k:RS->LR}(h:Gl s) (b:∀t,t.length<=1100->GQ (k { s with lab:=t })):GQ (AW n l i s k):=by
 unfold AW;split
 .exact tA h
 rename_i w a;split
 .exact tA h
 refine b _ ?_;unfold nA at a;split at a
 .rename_i t c;split at a
  .cases a;exact hl t (at_mem c)
  cases a
 cases a
theorem abh {s:RS}{w:au}(h:Gl s)(a:w.length<=1100):Gl { s with lab:=w }:=⟨a,h.ar,h.al,h.dt,h.dl,h.x,h.t⟩
include hl in
theorem afp {w:au}{s:RS}(h:Gl s)(f:s.data=[]):GQ (gZ n l w s):=by
 unfold gZ;split
 .have b:=abg (n:=n) hl 70 { s with a:=s.a+1,aC:=2,sz:=qc (iJ l s.a) } (tw h rfl rfl rfl rfl rfl);have c:=sr.TI (n:=n) (l:=l) 70 { s with a:=s.a+1,aC:=2,sz:=qc (iJ l s.a) };obtain⟨g,i⟩:=ahb (n:=n) (l:=l) 70 { s with a:=s.a+1,aC:=2,sz:=qc (iJ l s.a) };refine⟨b,λd=>⟨b,λ_=>⟨by show sr.DU (B5 n l 70 _).2.sz=true;rw[g];exact Ug _,i d⟩,λq=>?_,λq=>?_⟩⟩
  .rw[show (yC n l s).2.aC=2 from c.1]at q;exact absurd q (by decide)
  rw[show (yC n l s).2.aC=2 from c.1]at q;exact absurd q (by decide)
 split
 .have b:=EN (n:=n) (aC:=8) hl (s:={ s with sz:=qc (iJ l s.a),a:=s.a+1 }) (tw h rfl rfl rfl rfl rfl);have c:=sr.rA (n:=n) (l:=l) 8 { s with sz:=qc (iJ l s.a),a:=s.a+1 };refine⟨b,λd=>⟨b,λq=>?_,λ_=>?_,λq=>?_⟩⟩
  .rw[show (GK n l s).2.aC=8 from c.1]at q;exact absurd q (by decide)
  .show sr.DU (sW n l 8 _).2.sz=true;rw[afo];exact Ug _
  rw[show (GK n l s).2.aC=8 from c.1]at q;exact absurd q (by decide)
 split
 .exact Pt (EN hl (JP h)) (sr.rA 4 _) (by decide) (by decide) (by decide)
 split
 .exact Pt (EN hl (JP h)) (sr.rA 5 _) (by decide) (by decide) (by decide)
 split
 .exact R9 hl (s:={ s with aC:=6 }) (tw h rfl rfl rfl rfl rfl) λt j=>Pt (R8 (tw (abh h j) rfl rfl rfl rfl rfl)) (sr.AY _) (by show (6:Int)≠2;decide) (by show (6:Int)≠8;decide) (by show (6:Int)≠9;decide)
 split
 .exact Pt (R8 (tw h rfl rfl rfl rfl rfl)) (sr.AY _) (by show (7:Int)≠2;decide) (by show (7:Int)≠8;decide) (by show (7:Int)≠9;decide)
 split
 .obtain ⟨b,e⟩:=aha (n:=n) hl 70 { s with a:=s.a+1,aC:=9 } (tw h rfl rfl rfl rfl rfl) (by show s.data.length<=3;rw[f];simp);have c:=sr.TJ (n:=n) (l:=l) 70 { s with a:=s.a+1,aC:=9 };refine⟨b,λd=>⟨b,λq=>?_,λq=>?_,λ_=>e⟩⟩
  .rw[show (LA n l s).2.aC=9 from c.1]at q;exact absurd q (by decide)
  rw[show (LA n l s).2.aC=9 from c.1]at q;exact absurd q (by decide)
 split
 .unfold Rw;split
  .exact tA h
  have b:Gl { s with aC:=1,op:=(dY l s.a).1,aM:=(dY l s.a).2.1,args:=(dY l s.a).2.2.1 }:=⟨h.lab,We hl _,Pr l _,h.dt,h.dl,h.x,h.t⟩;exact⟨b,λ_=>Uf b (by show (1:Int)≠2;decide) (by show (1:Int)≠8;decide) (by show (1:Int)≠9;decide)⟩
 exact tA h
include hl in
theorem Uh {dN:Bool}{s:RS}(h:Gl s)(b:s.data=[])(a:s.aC=0):GQ (oR n l dN s):=by
 unfold oR;split
 .split
  .exact tA h
  exact⟨h,λ_=>Uf h (by rw[a];decide) (by rw[a];decide) (by rw[a];decide)⟩
 split
 .exact tA h
 unfold Ee;split
 .exact tA h
 split
 .exact tA h
 exact afp hl h b
include hl in
theorem Pu {s:RS}(h:Gl s)(a:s.data=[])(b:s.aC=0):GQ (og n l s):=by
 unfold og;split
 .unfold Dj;split
  .exact tA (JP h)
  exact Uh hl ⟨h.lab,h.ar,h.al,h.dt,h.dl,h.x,vZ hl _⟩ a b
 exact Uh hl h a b
theorem ap6:Gl lJ:=⟨(by show (0:Nat)<=1100;omega),λr a=>(by cases a),by simp[lJ],λr a=>(by cases a),by simp[lJ],wY,wY⟩
include hl in
theorem afq:GQ (gM n l lJ):=by
 have h:=ap6;unfold gM;split
 .exact R9 hl h λt a=>Pt (EN hl (tw (abh h a) rfl rfl rfl rfl rfl)) (sr.rA 3 _) (by decide) (by decide) (by decide)
 split
 .exact R9 hl h λt a=>Pu hl (tw (abh h a) rfl rfl rfl rfl rfl) rfl rfl
 exact Pu hl h rfl rfl
end
theorem alL (s:au):gL (lt.gq s).1:=λt a=>alG ((lt.Gi s).1 t a).2
theorem ap7:Gk lJ:=Uf ap6 (by decide) (by decide) (by decide)
theorem afr (s:au):Gk (di s).1:=by
 have a:=afq (n:=s.length) (alL s);unfold di;split
 .exact ap7
 split
 .rename_i h;exact a.2 h
 exact ap7
theorem Ci {x:bz}(h:gX x):sr.fq x=true:=by
 unfold sr.fq;rw[eN (by have:=h.1;omega),eF];exact aN.2 λy hy=>eN (by have:y.2.2.1.length<=1100:=h.2 y hy;omega)
theorem Hx (s:au):sr.Pq (di s).1/\(di s).1.lab.length<=1100:=by
 have h:=afr s;refine⟨⟨by have:=h.g.lab;omega,Ci h.g.x,Ci h.g.t,?_,?_,h.k2,h.k8,h.k9⟩,h.g.lab⟩
 .unfold sr.pW;rw[eN (by have:=h.g.al;omega),eF];exact aN.2 λr a=>Ci (h.g.ar r a)
 unfold sr.Mf;rw[eN (by have:=h.g.dl;omega),eF];refine aN.2 λd b=>?_
 obtain⟨e,c⟩:=h.g.dt d b;rw[eN (by omega),Ci c];rfl
end
end Go.Proofs.YtbeckacfibledaaGreatDoor.ps.bd
namespace Go.Tv
open Go.Ev (ah jx)
noncomputable section
def abj {β:Type}(X:ji)(call:dz β)(an:fe)(rounds:Nat)(id:FuncId)(p:eJ)(k:AV->aH->Option β)(l:aI)(f:gJ)(H:aH):Option β :=
 match X.P.funcs[id]? with
 |some fn=>match fn.body with
  |some c=>match lV c p with
   |.rangeFunc _ ps a b=>match ps.toList with
    |[q]=>Et (mQ an.KB p) q (jm X call an.tr (qY X call an.tr an.ja rounds rounds) rounds a .none) (jm X call an.tr (qY X call an.tr an.ja rounds rounds) rounds b .none)
     (F1 X call an.tr (qY X call an.tr an.ja rounds rounds) rounds p c an.KB (r8 X fn k)) l f H
    |_=>none
   |_=>none
  |none=>none
 |none=>none
def Wf (sg:List (Option (TypeId×Ty)))(v:AV)(H:aH):Option (AV×cQ) :=
 match v with
 |.gI [.agg cs,w]=>iN (.gI [.agg (fH sg cs H).1,w]) (fH sg cs H).2
 |_=>none
theorem abk {X:ji}{sg:List (Option (TypeId×Ty))}{kn:Ev.fZ}{id:FuncId}(r:∀args,kn id args=none){call:∀ β,dz β}(a:∀ β,dO X (eM X kn) (call β)){g:aI->cQ->Option (Bool×AV×cQ)}
 (h:∀args rows v outs,g args rows=some (true,v,outs)->∃(an:fe) (rounds:Nat),aT X (call (AV×cQ)) an rounds id args (fT (uu rows) rows) (Wf sg)=some (v,outs)):lK X (eM X kn) id g:=by
 intro args rows v outs s p S E t u y e z;subst u;obtain⟨an,rounds,b⟩:=h args rows v outs s;obtain⟨v1,f,d,A⟩:=mH (nf:=false) (a _) (λh=>by cases h) b;obtain⟨S1,F,E',a1,a2,B,l,_⟩:=A S E t y e z;unfold Wf at d;split at d;case h_2=>cases d
 rename_i cs w;cases a2 with
 |gI _ m i j =>
  obtain⟨x,m1,rfl,b1,b2⟩:=(show LV S1 [.agg cs,w] m from ⟨i,j⟩).cons_inv;cases b1 with
  |agg _ n C k =>
   obtain⟨S2,c1,c2,o,q,_,_⟩:=uW (sg:=sg) B S1.le_refl (St.refl S1 f E') (show LV S1 cs n from ⟨C,k⟩);have D:VR S2 (.gI [.agg (fH sg cs f).1,w]) (.tuple (Value.agg n.toArray::m1).toArray):=by
    have:=LV.cons (VR.agg _ _ q.1 q.2) (b2.mono c1);exact .gI _ _ this.1 this.2
   obtain⟨S3,d1,d2,d3⟩:=RR d c2 D;have c:(fH sg cs f).2.par=uu rows:=o.Ak.trans (l.Ak.trans (vT _ _).2.2.1);rw[c]at d2 d3;exact⟨S3,_,E',iy r a1,d1,d2,(l.trans o.PM).trans d3⟩
end
end Go.Tv
namespace Go.Proofs.YtbeckacfibledaaGreatDoor.ps.sr
open Go.Tv Go.Ev Go.Px Go.Pp Go.Proofs.YtbeckacfibledaaGreatDoor.ex
set_option maxRecDepth 100000
noncomputable section
def gRe (args:aI)(rows:cQ):OP :=
 match args,rows with
 |[.ptr 0 0,.agg cs],c::l=>match Ht (.cells 40 cs),vV 0 c l with
  |some (b0,x),some (b,s)=>some (b&&(b0&&(Hu s&&(Nat.ble s.aK.length 999998&&(Nat.ble s.lab.length 100000&&(Nat.ble s.bw.length 200000&&(Nat.ble x.lab.length 100000&&okX x)))))),qd [] (jd iz gG nW s x))
  |_,_=>none
 |_,_=>none
theorem alM {s:SS}(h:Hu s=true)(d:s.aK.length<=999998)(e:s.lab.length<=100000)(f:s.bw.length<=200000):wg s 999998 1000000000000000 100000:=by
 obtain⟨a,b,c⟩:=nT h;obtain⟨g,_,_,i⟩:=uv a;obtain⟨b0,b1⟩:=Pg b;obtain⟨g0,g1⟩:=Pn c;exact⟨g,e,f,d,i,b0,b1,g0,g1⟩
theorem alN:lK X0 gR 21 gRe :=
 o8 (λargs=>lt.cn rfl args) (rF oT vU ag7) λargs rows v outs a=>by
  unfold gRe at a;split at a;case h_2=>cases a
  rename_i cs c l;split at a;case h_2=>cases a
  rename_i b0 x b s d e;simp only[qd,aq,az,ak]at a;obtain⟨⟨rfl,rfl,f,g,h,i,j,k⟩,rfl,rfl⟩:=a;have d:=o9 d;simp only[Pe,Row.cells.injEq,kO]at d;subst d;obtain⟨rfl,rfl⟩:=ig e;exact⟨Wy,5,afk (alM f (aB g) (aB h) (aB i)) (by decide) (by decide) (by decide) (aa9 k) (aB j)⟩
def G6:List Cf:=(21,⟨70,xA,gRe⟩)::G5
theorem ahc:rB X0 gR G6:=.cons alN ag7
def N4:List rf:=(12,⟨none,[none],gV fRd⟩)::N3
theorem Ui:jc X0 gR N4:=.cons OJ ag5
def pRr:eJ:=[true,true,true,false,true,false]
def abl:fe:=⟨iM [2,3,4,18] pRr,.none,[]⟩
abbrev c6:dz (AV×cQ):=cV S1 N4 G6 _
def frR:gJ:=lS 63 [(2,.ptr 0 0),(3,.ptr 1 0),(4,.ptr 2 0),(18,.fn 40 [] [.ptr 3 0])]
def mB (s:SS):aH:=oL [.cells 27 [.int .i64 0,.eB,.eB],.cells 47 [.int .i64 0,.int .i64 0],RX 4,.dead,.cells 70 (rdX 7 5 6 s.aK.length s.ax.length s),.list 59 je s.aK 0 false false,.list 52 sJ s.ax 0 false false,.mp 68 s.aL]
def mA (av:Int):aH:=oL [.cells 27 [.int .i64 0,.eB,.eB],.cells 47 [.int .i64 0,.int .i64 0],RX 4,.dead,.cells 70 [.int .i64 0,.eB,.eB,.zN 5,.str [],.bool false,.str [],.int .i64 0,.bool false,.int .i64 0,.int .i64 av],.mp 68 []]
def jB (r:Nat)(l:aI)(s:SS):OG:=abj X0 c6 abl r 13 pRr (Wf xA) l frR (mB s)
def jA (r:Nat)(l:aI)(av:Int):OG:=abj X0 c6 abl r 13 pRr (Wf xA) l frR (mA av)
def yL (gu:Int)(aK:List Sy)(ax:cK)(e av:Int):OG:=some (.gI [.agg [.int .i64 gu,.own 0 aK.length,.own 1 ax.length],.agg [.int .i64 e,.int .i64 av]],[.list 59 je aK 0 false false,.list 52 sJ ax 0 false false])
def reT (s:SS)(x:RS)(k:SS->Int->OG):OG:=ah (lnB s.aK.length s.ax.length&&(Hu s&&(Nat.ble s.aK.length 999998&&(Nat.ble s.lab.length 100000&&(Nat.ble s.bw.length 200000&&(Nat.ble x.lab.length 100000&&okX x)))))) (k (jd iz gG nW s x).1 (jd iz gG nW s x).2) none
def GN (s:SS)(w:au)(next:SS->OG)(stay:OG):OG :=
 ah (bS (di w).2.1 0) (reT s (di w).1 λa e=>ah (!bS e 0) (yL 0 [] [] e a.av) (next a)) (ah (!bS (di w).2.1 0) (yL 0 [] [] (di w).2.1 s.av) stay)
theorem ap8 (gu:Int)(aK:List Sy)(ax:cK)(aL:List (au×Int))(lab:au)(opn:Bool)(bw:au)(aP:Int)(aV:Bool)(aD av:Int)(r:Nat)(w:au)(l:aI) :
 jB r (.str w::l) ⟨gu,aK,ax,aL,lab,opn,bw,aP,aV,aD,av⟩=GN ⟨gu,aK,ax,aL,lab,opn,bw,aP,aV,aD,IntKind.wrap .i64 (av+1)⟩ w (jB r l) (jB r l ⟨gu,aK,ax,aL,lab,opn,bw,aP,aV,aD,IntKind.wrap .i64 (av+1)⟩):=by kernel_rfl
theorem stepA' (av:Int)(r:Nat)(w:au)(l:aI) :
 jA r (.str w::l) av=GN ⟨0,[],[],[],[],false,[],0,false,0,IntKind.wrap .i64 (av+1)⟩ w (jB r l) (jA r l (IntKind.wrap .i64 (av+1))):=by kernel_rfl
theorem ap9 (gu:Int)(aK:List Sy)(ax:cK)(aL:List (au×Int))(lab:au)(opn:Bool)(bw:au)(aP:Int)(aV:Bool)(aD av:Int)(r:Nat) :
 jB r [] ⟨gu,aK,ax,aL,lab,opn,bw,aP,aV,aD,av⟩=ah opn (yL 0 [] [] 8 av) (yL gu aK ax 0 0):=by kernel_rfl
theorem abm (s:au)(r:Nat):aT X0 c6 abl r 13 [.str s] (fT 0 []) (Wf xA)=ah (bN 1048576 (s.length:Int)) (yL 0 [] [] 3 0) (ah (Nat.ble s.length 2000000) (jA r ((l6 s).map .str) 0) none):=by kernel_rfl
end
end Go.Proofs.YtbeckacfibledaaGreatDoor.ps.sr
namespace Go.Proofs.YtbeckacfibledaaGreatDoor.ps.sr
open Go.Tv Go.Ev Go.Px Go.Pp Go.Proofs.YtbeckacfibledaaGreatDoor.ex
set_option maxRecDepth 100000
noncomputable section
theorem yM {s:SS}{n:Nat}{g:Int}{w:Nat}{x:bz}{K:Int->SR'}(h:wg s n g w)(a:∀n',wg (K n').1 n g w):wg (qu iz gG s x K).1 n g w:=by
 unfold qu;split
 .exact h
 exact a _
theorem Uj {sz:Int}(a:sz=1\/sz=2\/sz=4\/sz=8):∀(l:List Dt) (b:Int),(∀d∈l,d.1.length<=1000000)->0<=b->0<=l.foldl (λn d=>n+LI sz d) b
 |[],b,_,h=>h
 |d::l,b,c,h=>by
  rw[iF];have:=aa2 a (c d (by simp));exact Uj a l _ (λx e=>c x (by simp[e])) (by omega)
theorem afs {s:SS}{n:Nat}{g:Int}{w:Nat}(h:wg s n g w){x:RS}(i:Pq x)(v:x.lab.length<=w)(p:x.aC=6->s.opn=false){t:Int}(f:0<=t):wg (nS iz gG nW s x t).1 (n+1) (g+1048576) w:=by
 have up:∀{m:SS},wg m n g w->wg m (n+1) (g+1048576) w:=λq=>q.up (gx _) (by omega)
 unfold nS;split
 .unfold yF;split
  .exact up h
  exact up (Dq h rfl (by decide) (by decide) f)
 split
 .rename_i b;obtain⟨j,o⟩:=i.k2 b;unfold zW;split
  .exact up h
  refine up (Dq h ?_ (by omega) (Uj (uw j) _ _ (λd r=>((ux i.data).2 d r).1) (bL 0)) f);rw[cO]
 split
 .exact Hv (n:=n) (g:=g) (up h) (yM (up h) λn'=>(R4 h _ _).up (aG _) (by omega))
 split
 .refine yM (up h) λn'=>?_
  split
  .exact up h
  exact up (Dq h rfl (by decide) (by decide) (by decide))
 split
 .refine yM (up h) λn'=>?_
  split
  .exact up h
  split
  .exact up h
  exact up ⟨h.kn,h.lab,h.bw,h.aK,h.ax,h.b0,h.b1,h.g0,h.g1⟩
 split
 .rename_i b;have k:=p b;refine up ⟨h.kn,h.lab,?_,h.aK,h.ax,h.b0,h.b1,bL _,?_⟩
  .show (iE (cy s) x.lab).length<=2*w;have e:cy s=s.lab:=by unfold cy;rw[k,aa (by decide)]
   have:=ald (c:=cy s) (w:=x.lab);have l:=h.lab;rw[e]at this ⊢;omega
  have o:=h.g0;have l:=h.g1;show (0:Int)<=g;omega
 split
 .have a:=R4 h (s.bw++DP) s.aP;exact Hv (n:=n) (g:=g) (up h) (wg.up ⟨a.kn,a.lab,a.bw,a.aK,a.ax,a.b0,a.b1,a.g0,a.g1⟩ (aG _) (by omega))
 split
 .rename_i b;have j:=uw (i.k8 b);refine yM (up h) λn'=>?_
  split
  .exact up h
  rename_i o;split
  .exact up h
  rename_i l;have u:0<=n'*x.sz/\n'*x.sz<=1048576:=by
   rcases j with e|e|e|e<;>rw[e]at l ⊢
   .have:Int.tdiv 1048576 1=1048576:=by decide
    omega
   .have:Int.tdiv 1048576 2=524288:=by decide
    omega
   .have:Int.tdiv 1048576 4=262144:=by decide
    omega
   have:Int.tdiv 1048576 8=131072:=by decide
   omega
  split
  .have g0:=h.g0;have g1:=h.g1;exact⟨h.kn,h.lab,h.bw,Nat.le_succ_of_le h.aK,h.ax,h.b0,h.b1,by show 0<=s.aP+n'*x.sz;omega,by show s.aP+n'*x.sz<=g+1048576;omega⟩
  exact up (Dq h rfl (by decide) u.1 f)
 split
 .unfold GW;split
  .exact up h
  unfold powC;split
  .exact up h
  exact up (Dq h rfl (by decide) (by omega) f)
 exact up h
theorem Uk {s:SS}{n:Nat}{g:Int}{w:Nat}(h:wg s n g w){x:RS}(b:Pq x)(c:x.lab.length<=w){t:Int}(d:0<=t):wg (uo iz gG nW s x t).1 (n+1) (g+1048576) w:=by
 unfold uo;split
 .exact h.up (gx _) (by omega)
 rename_i a;refine afs h b c (λe=>?_) d;unfold OM at a;cases f:s.opn with
 |false=>rfl
 |true=>rw[f,ag rfl,ag (by simp[e])]at a;exact absurd rfl a
theorem Pv {s:SS}{n:Nat}{g:Int}{w:Nat}(h:wg s n g w){x:RS}(a:Pq x)(b:x.lab.length<=w):wg (qv iz gG nW s x).1 (n+1) (g+1048576) w:=by
 unfold qv;split
 .exact Uk h a b (by decide)
 refine yM (h.up (gx _) (by omega)) λn'=>?_
 split
 .exact h.up (gx _) (by omega)
 exact Uk h a b (by omega)
theorem ahd {s:SS}{n:Nat}{g:Int}{w:Nat}(h:wg s n g w){x:RS}(b:Pq x)(a:x.lab.length<=w):wg (jd iz gG nW s x).1 (n+2) (g+1048576) w:=by
 have c:=aba h a;unfold jd;split
 .split
  .exact c.up (by omega) (by omega)
  exact Pv c b a
 exact(Pv h b a).up (by omega) (bL _)
def Hy (r:SS×Int):OG:=if r.2≠0 then yL 0 [] [] r.2 r.1.av else if r.1.opn=true then yL 0 [] [] 8 r.1.av else yL r.1.gu r.1.aK r.1.ax 0 0
theorem alO {s:SS}{n:Nat}{g:Int}(h:wg s n g 1100)(e:n<=999998)(c:g<=1000000000000000){x:RS}(d:Pq x)(f:x.lab.length<=1100)(k:SS->Int->OG):reT s x k=k (jd iz gG nW s x).1 (jd iz gG nW s x).2:=by
 have i:=h.lab;have j:=h.bw;have l:=h.aK;unfold reT;rw[sK,h.a (by omega) c (by decide),eN (by omega),eN (by omega),eN (by omega),eN (by omega),d.b];rfl
theorem L8 {s:SS}{n:Nat}{g:Int}{w:Nat}(h:wg s n g w)(k:Int):wg { s with av:=k } n g w:=⟨h.kn,h.lab,h.bw,h.aK,h.ax,h.b0,h.b1,h.g0,h.g1⟩
abbrev sR (l:cA)(s:SS):SS×Int:=dR iz gG nW di l s
theorem JQ {s:SS}{n:Nat}{g:Int}(h:wg s n g 1100)(k:n<=999998)(m:g<=1000000000000000)(o:0<=s.av)(p:s.av<=1000000)(w:au)(next:SS->OG)(stay:OG)(l:cA)
 (a:∀d,wg d (n+2) (g+1048576) 1100->d.av=s.av+1->next d=Hy (sR l d)):GN { s with av:=IntKind.wrap .i64 (s.av+1) } w next stay=Hy (sR (w::l) s):=by
 have e:=L8 h (s.av+1);obtain⟨f,i⟩:=bd.Hx w;unfold GN;rw[i64_in (n:=s.av+1) (by omega) (by omega),cH,cF];unfold sR;rw[kg];by_cases b:(di w).2.1=0
 .rw[ag b,aa (λq=>q b),alO e k m f i];show ah _ _ _=_;rw[cF];have j:(jd iz gG nW { s with av:=s.av+1 } (di w).1).1.av=s.av+1:=JB iz gG nW _ _;by_cases c:(jd iz gG nW { s with av:=s.av+1 } (di w).1).2=0
  .rw[ag c,aa (λq=>q c)];exact a _ (ahd e f i) j
  rw[aa c,ag c];unfold Hy;rw[ag c,j]
 rw[aa b,aa b,ag b];unfold Hy;rw[ag b]
theorem aft (r:Nat)(w:au)(l:aI)(s:SS):jB r (.str w::l) s=GN { s with av:=IntKind.wrap .i64 (s.av+1) } w (jB r l) (jB r l { s with av:=IntKind.wrap .i64 (s.av+1) }):=by cases s;exact ap8 ..
theorem alP (r:Nat)(s:SS):jB r [] s=Hy (sR [] s):=by
 have e:jB r [] s=ah s.opn (yL 0 [] [] 8 s.av) (yL s.gu s.aK s.ax 0 0):=by cases s;exact ap9 ..
 rw[e];unfold Hy;show _=if (0:Int)≠0 then _ else if s.opn=true then _ else _;rw[aa (by decide),ay];rfl
theorem aqa (r:Nat):∀(l:cA) (s:SS) (k:Nat),wg s (2*k) (1048576*k) 1100->s.av=k->k+l.length<=400000->jB r (l.map .str) s=Hy (sR l s):=by
 intro l;induction l with
 |nil=>intro s k _ _ _;exact alP r s
 |cons w l b =>
  intro s k h g c;have d:k+(l.length+1)<=400000:=by simpa using c
  rw[dH,aft];refine JQ h (by omega) (by omega) (by omega) (by omega) w _ _ l λe a f=>?_
  exact b e (k+1) (by rw[show 2*(k+1)=2*k+2 by omega,show (1048576*((k+1:Nat):Int))=1048576*(k:Int)+1048576 by omega];exact a) (by omega) (by omega)
theorem aqb:wg kf 0 0 1100:=⟨rfl,by simp[kf],by simp[kf],by simp[kf],by simp[kf],bL _,by decide,bL _,bL _⟩
theorem zI (r:Nat)(w:au)(l:cA)(d:l.length<=300000):jA r ((w::l).map .str) 0=Hy (sR (w::l) kf):=by
 rw[dH,stepA'];refine JQ (s:=kf) (n:=0) (g:=0) aqb (by decide) (by decide) (bL _) (by decide) w _ _ l λc a b=>?_
 exact aqa r l c 1 a b (by omega)
theorem AZ:∀(s:au),(sl.dV s).length<=s.length+1
 |[]=>by simp[sl.dV]
 |c::r=>by
  have h:=AZ r;unfold sl.dV;split
  .simp only[aJ]at h ⊢;omega
  split
  .rename_i p ps a;rw[a]at h;simp only[aJ]at h ⊢;omega
  simp
theorem yd (s:au):sl.kJ [] [] s=sl.dV s:=by
 rw[sl.qJ];have:=sl.qI s;cases h:sl.dV s with
 |nil=>exact absurd h this
 |cons p ps=>rfl
theorem tM (s:au):l6 s=(sl.dV s).map sl.gh:=by unfold l6;rw[yd]
abbrev oy (s:au):Ls×Int×Int:=zF iz gG nW di (l6 s)
theorem abn (l:cA):Hy (sR l kf)=yL (zF iz gG nW di l).1.1 (zF iz gG nW di l).1.2.1 (zF iz gG nW di l).1.2.2 (zF iz gG nW di l).2.1 (zF iz gG nW di l).2.2:=by
 unfold Hy zF;by_cases h:(dR iz gG nW di l kf).2≠0
 .rw[ag h,ag h];rfl
 rw[aa h,aa h];by_cases a:(dR iz gG nW di l kf).1.opn=true
 .rw[ag a,ag a];rfl
 rw[aa a,aa a];rfl
def alQ (q:Ls×Int×Int):AV×cQ:=(.gI [.agg [.int .i64 q.1.1,.own 0 q.1.2.1.length,.own 1 q.1.2.2.length],.agg [.int .i64 q.2.1,.int .i64 q.2.2]],[.list 59 je q.1.2.1 0 false false,.list 52 sJ q.1.2.2 0 false false])
def alR (args:aI)(rows:cQ):OP :=
 match args,rows with
 |[.str s],[]=>some (Nat.ble s.length 200000,alQ (oy s))
 |_,_=>none
theorem alS {s:au}(c:s.length<=200000):aT X0 c6 abl 5 13 [.str s] (fT 0 []) (Wf xA)=some (alQ (oy s)):=by
 rw[abm,gB (by omega),eN (by omega)];have b:=AZ s;have a:=sl.qI s;show jA 5 ((l6 s).map .str) 0=_;have e:some (alQ (oy s))=Hy (sR (l6 s) kf):=(abn _).symm;rw[e,tM];cases h:sl.dV s with
 |nil=>exact absurd h a
 |cons w l =>
  rw[h]at b;simp only[aJ]at b;exact zI 5 (sl.gh w) (l.map sl.gh) (by rw[cO];omega)
theorem afu:lK X0 gR 13 alR :=
 abk (sg:=xA) (λargs=>lt.cn rfl args) (rF oT Ui ahc) λargs rows v outs a=>by
  unfold alR at a;split at a;case h_2=>cases a
  rename_i s;simp only[aq,az]at a;obtain⟨b,c⟩:=a;refine⟨abl,5,(alS (aB b)).trans ?_⟩;rw[c]
def G7:List Cf:=(13,⟨0,[],alR⟩)::G6
theorem abo:rB X0 gR G7:=.cons afu ahc
end
end Go.Proofs.YtbeckacfibledaaGreatDoor.ps.sr

/- What a line that is read says: its numbers, texts, lists; where its fault is. -/
import Derived.Test.YtpaddkkfefgkfaaGreatDoorKj
set_option linter.unusedVariables false
set_option linter.unusedSimpArgs false
namespace Go.Proofs.YtpaddkkfefgkfaaGreatDoor.ps.wr
open Go.Tv Go.Ev Go.Px Go.Pp Go.Proofs.YtpaddkkfefgkfaaGreatDoor.ex
set_option maxRecDepth 100000
noncomputable section
def gT (t:Tok):Prop:=lt.G3 t.2.1/\t.2.2.1.length<=1100
def gL (l:List Tok):Prop:=∀t∈l,gT t
theorem aa2 {t:Tok} (h:lt.fF t=true):gT t:=by
 unfold lt.fF at h
 simp only[Bool.and_eq_true,Bool.not_eq_true'] at h
 obtain ⟨⟨h1,h2⟩,h3⟩:=h
 rw[ltI_spec] at h1 h2
 exact ⟨⟨by simpa using h1,by simpa using h2⟩,Nat.le_of_ble_eq_true h3⟩
theorem at_mem {α:Type} {l:List α} {i:Int} {t:α} (h:at? l i=some t):t∈l:=by
 unfold at? at h
 split at h
 .
  exact List.mem_of_getElem? h
 cases h
theorem El (op:Int) (i j:Int):gNd (op,0,[],i,j):=⟨lt.iz,by show (0:Nat)<=1100;omega⟩
theorem aa3 {t:Tok} {n:Nd} (ht:gT t) (h:vQ ay t=some n):gNd n:=by
 unfold vQ at h
 split at h
 .
  cases h;exact ⟨ht.1,by show (0:Nat)<=1100;omega⟩
 split at h
 .
  cases h;exact ⟨lt.iz,ht.2⟩
 split at h
 .
  cases h;exact El _ _ _
 split at h
 .
  cases h;exact El _ _ _
 cases h
theorem VB {x:List Nd} {n:Nd} (hx:gX x) (hn:gNd n):gX (x++[n]):=λy hy=>(List.mem_append.1 hy).elim (hx y) λh=>by rw[List.mem_singleton.1 h];exact hn
def GR (r:fP):Prop:=∀b st,r=some (b,st)->gX st.x
theorem ru {st:St} {e f:Int} (h:gX st.x):GR (uu st e f):=λb s hs=>by cases hs;exact h
theorem WU {st:St} (h:gX st.x):GR (some (true,st)):=λb s hs=>by cases hs;exact h
theorem Em {st:St} {n:Nd} {f:Int} {k:St->fP} (h:gX st.x) (hn:gNd n) (hk:∀s:St,gX s.x->GR (k s)):GR (mz st n f k):=by
 unfold mz
 split
 .
  exact ru h
 exact hk _ (VB h hn)
theorem Lc {st:St} {k:St->fP} (h:gX st.x) (hk:∀s:St,gX s.x->GR (k s)):GR (mA st k):=by
 unfold mA
 split
 .
  exact ru h
 exact hk _ h
theorem Sg {r:fP} {k:St->fP} (hr:GR r) (hk:∀s:St,gX s.x->GR (k s)):GR (IV r k):=by
 unfold IV
 split
 .
  rename_i st;exact hk st (hr true st rfl)
 .
  rename_i st;exact λb s hs=>by cases hs;exact hr false st rfl
 exact λb s hs=>by cases hs
theorem VC {l:List Tok} (hl:gL l) {rec:Int->St->fP} {k:St->fP} (hrec:∀s st,gX st.x->GR (rec s st)) (hk:∀s:St,gX s.x->GR (k s)) {st:St} (h:gX st.x):GR (kX ay l rec st k):=by
 unfold kX
 split
 .
  exact ru h
 rename_i t ht
 split
 .
  rename_i n hn;exact Em h (aa3 (hl t (at_mem ht)) hn) hk
 split
 .
  refine Lc h λs1 h1=>Sg (hrec _ _ h1) λs hs=>?_
  split
  .
   exact hk _ hs
  exact Em hs (El _ _ _) hk
 split
 .
  refine Lc h λs1 h1=>Sg (hrec _ _ h1) λs hs=>?_
  split
  .
   exact ru hs
  split
  .
   exact hk _ hs
  exact ru hs
 exact ru h
theorem Ld {l:List Tok} {rec:Int->St->fP} (hrec:∀s st,gX st.x->GR (rec s st)) (str:Int):∀(n:Nat) (st:St),gX st.x->GR (fC l rec str n st)
 |0,st,h=>λb s hs=>by cases hs
 |
  n+1,st,h=>by
  unfold fC;split
  .
   exact WU h
  split
  .
   exact WU h
  exact Sg (hrec _ _ h) λs hs=>Em hs (El _ _ _) λs hs=>Ld hrec str n s hs
theorem AA {l:List Tok} (hl:gL l):∀(k:Nat) (str:Int) (st:St),gX st.x->GR (bw ay l k str st)
 |0,_,_,_=>λb s hs=>by cases hs
 |k+1,str,st,h=>VC hl (AA hl k) (λs hs=>Ld (AA hl k) str _ s hs) h
theorem oW:gX []:=λy hy=>by cases hy
theorem uN {l:List Tok} (hl:gL l) (a:Int):gX (ai l a).1:=by
 obtain ⟨r,hr⟩:=mD (nm:=ay) l a
 have e1:ai l a=r:=by unfold ai;rw[hr];rfl
 rw[e1]
 unfold jQ at hr
 split at hr
 .
  cases hr;exact oW
 split at hr
 .
  rename_i st hc;cases hr;exact AA hl _ 1 ⟨a,0,[],0,0⟩ oW _ st hc
 .
  cases hr;exact oW
 cases hr
theorem JC:gL []:=λy hy=>by cases hy
theorem En {a b:List Tok} (ha:gL a) (hb:gL b):gL (a++b):=λt ht=>(List.mem_append.1 ht).elim (ha t) (hb t)
theorem JD {w:List UInt8} (h:w.length<=1100):gL [oa w]:=λt ht=>by rw[List.mem_singleton.1 ht];exact ⟨lt.iz,h⟩
theorem Nk (sg:List UInt8) (r:Rg) (a:Int) (s:TS):(fL sg r a s).2.2.2.put=s.put:=by
 unfold fL
 split
 .
  rfl
 split
 .
  rfl
 split<;>rfl
theorem JG (sg:List UInt8) (r:Rg) (a num n:Int) (s:TS):(cX sg r a num n s).2.2.2.put=s.put:=by
 unfold cX
 split
 .
  rfl
 split<;>rfl
theorem VD {l:List Tok} (hl:gL l) {sg:List UInt8} (hs:sg.length<=1100) (a b:Int) {s:TS} (h:gL s.put):gL (kN l sg a b s).2.2.2.put:=by
 unfold kN okO
 refine En (En (En ?_ (JD (by decide))) λt ht=>hl t ?_) (JD (by decide))
 .
  split
  .
   exact En h (JD hs)
  exact h
 unfold I4 at ht
 exact List.mem_of_mem_drop (List.mem_of_mem_take ht)
theorem ae9 {l:List Tok} (hl:gL l) {sg:List UInt8} (hs:sg.length<=1100) (a b:Int) {s:TS} (h:gL s.put):gL (fS rp l sg a b s).2.2.2.put:=by
 have ha:∀r,gL (fL sg r a s).2.2.2.put:=λr=>by rw[Nk];exact h
 have hc:∀r num n,gL (cX sg r a num n s).2.2.2.put:=λr num n=>by rw[JG];exact h
 have ho:=VD hl hs a b h
 unfold fS
 repeat' split
 all_goals first|exact h|exact ha _|exact hc _ _ _|exact ho
theorem Sh {l:List Tok} (hl:gL l) (e:Int):∀(n:Nat) (sg:List UInt8) (a:Int) (s:TS) (o:jx),sg.length<=1100->gL s.put->Pp.iK rp l e n sg a s=some o->gL o.2.2.2.put
 |0,_,_,_,_,_,_,h=>by cases h
 |
  n+1,sg,a,s,o,hs,hp,h=>by
  have ho:=ae9 hl hs a (bR l a e) hp;unfold Pp.iK at h;split at h
  .
   rename_i x f s' hq;rw[hq] at ho;split at h
   .
    cases h;exact ho
   split at h
   .
    rename_i t ht;exact Sh hl e n _ _ _ o (hl t (at_mem ht)).2 ho h
   cases h
  rename_i x f s' hq;rw[hq] at ho;cases h;exact ho
theorem aa4 {l:List Tok} (hl:gL l) (i:Int):((at? l i).getD QF).2.2.1.length<=1100:=by
 cases h:at? l i with
 |none=>show (0:Nat)<=1100;omega
 |some t=>exact (hl t (at_mem h)).2
theorem aa5 {l:List Tok} (hl:gL l) (op en:Int):gL (fT l op en KR).2.2.2.put:=by
 have key:∀r:Option jx,(∀o,r=some o->gL o.2.2.2.put)->gL (r.getD (eS KR 0 0)).2.2.2.put:=λr h1=>by
  cases r with
  |none=>exact JC
  |some o=>exact h1 o rfl
 unfold fT
 refine key _ λo ho=>?_
 split at ho
 .
  exact Sh hl _ _ _ _ _ _ (aa4 hl _) JC ho
 exact Sh hl _ _ _ _ _ _ (by decide) JC ho
theorem Si {n:Int} (h0:0<=n) (h1:n<=100):lt.G3 n:=by unfold lt.G3;omega
theorem Sj {bc bn ic ix sc d sz:Int} (h:Ba bc bn ic ix sc d sz=0):lt.G3 sc:=by
 unfold Ba at h
 split at h
 .
  cases h
 split at h
 .
  cases h
 split at h
 .
  cases h
 split at h
 .
  split at h
  .
   rename_i hz;rw[hz];exact lt.iz
  cases h
 split at h
 .
  cases h
 rename_i hn
 have hs:gK sc=true:=by
  cases hq:gK sc with
  |true=>rfl
  |false=>exact absurd (.inr (.inl hq)) hn
 unfold gK at hs
 simp only[decide_eq_true_eq] at hs
 exact Si (by omega) (by omega)
theorem mI (e f:Int):Nw (bW e f).1:=⟨lt.iz,oW⟩
theorem Le {l:List Tok} (hl:gL l) (op sz:Int):Nw (gp l op sz).1:=by
 unfold gp
 split
 .
  split
  .
   exact mI _ _
  split
  .
   exact ⟨lt.iz,uN hl _⟩
  exact mI _ _
 split
 .
  exact mI _ _
 rename_i en _
 have hp:=aa5 hl op en
 generalize fT l op en KR=o at hp
 unfold xH
 split
 .
  exact mI _ _
 split
 .
  split
  .
   rename_i hm;exact ⟨Sj hm,oW⟩
  exact mI _ _
 split
 .
  exact mI _ _
 split
 .
  exact mI _ _
 split
 .
  rename_i hm;exact ⟨Sj hm,uN hp _⟩
 exact mI _ _
theorem Nl {l:List Tok} (hl:gL l) (a:Int):Nw (au l a).1:=by
 have Ad:Nw (uC (ai l a)).1:=by
  unfold uC;split
  .
   exact mI _ _
  exact ⟨lt.iz,uN hl _⟩
 unfold au
 split
 .
  exact mI _ _
 split
 .
  exact Ad
 split
 .
  exact ⟨lt.iz,oW⟩
 split
 .
  split
  .
   exact Le hl _ _
  exact mI _ _
 split
 .
  exact Le hl _ _
 exact Ad
theorem afa {op:Int} {w:Raw} (h:Nw w):Nw (s6 op w):=by
 unfold s6
 split<;>exact h
def gA (l:List Raw):Prop:=∀r∈l,Nw r
theorem afb {l:List Tok} (hl:gL l) (op hint:Int):∀(m:Nat) (a:Int) (args:List Raw) (c:D3),gA args->GB l op hint m a args=some c->gA c.2.2.1
 |0,_,_,_,_,h=>by cases h
 |
  m+1,a,args,c,h2,h=>by
  have hr:gA (args++[s6 op (au l a).1]):=λr hr=>by
   rcases List.mem_append.1 hr with hr|hr
   .
    exact h2 r hr
   rw[List.mem_singleton.1 hr];exact afa (Nl hl _)
  have hn:gA []:=λr hr=>by cases hr
  unfold GB at h;split at h
  .
   cases h;exact hn
  split at h
  .
   cases h;exact hr
  split at h
  .
   cases h;exact hn
  split at h
  .
   cases h;exact hn
  exact afb hl op hint m _ _ c hr h
theorem Nm {l:List Tok} (hl:gL l) (a:Int):gA (bE l a).2.2.1:=by
 have hn:gA []:=λr hr=>by cases hr
 unfold bE
 split
 .
  exact hn
 split
 .
  exact hn
 unfold MG
 generalize (if mF l a=0 then a+1 else a+2)=b
 by_cases hb:b=(l.length:Int)
 .
  rw[if_pos hb];exact hn
 rw[if_neg hb]
 cases hc:GB l (Ew l a).1 (mF l a) 5 b [] with
 |none=>exact hn
 |some c=>exact afb hl _ _ _ _ _ _ hn hc
structure Gl (n:Int) (s:RS):Prop where
 lab:s.lab.length<=1100
 ar:gA s.args
 dt:∀d∈s.data,gDt d
 x:gX s.x
 t:gX s.times
 f0:0<=s.f
 f1:s.f<=n
section
variable {n:Int} {l:List Tok}
def gAt (n:Int) (l:List Tok):Prop:=∀t∈l,0<=t.2.2.2/\t.2.2.2<=n
variable (hn:0<=n) (hl:gL l) (ha:gAt n l)
include hn ha in
theorem Sk (i:Int):0<=GC n l i/\GC n l i<=n:=by
 unfold GC
 split
 .
  rename_i t ht;exact ha t (at_mem ht)
 exact ⟨hn,Int.le_refl _⟩
include hn ha in
theorem gO {s:RS} {e i:Int} (h:Gl n s):Gl n (cz n l s e i).2:=⟨h.lab,h.ar,h.dt,h.x,h.t,(Sk hn ha i).1,(Sk hn ha i).2⟩
include hn hl ha in
theorem Lf {s:RS} {go:List Nd->Int->LR} (h:Gl n s) (hg:∀x e,gX x->Gl n (go x e).2):Gl n (MJ n l s go).2:=by
 unfold MJ
 split
 .
  exact gO hn ha h
 exact hg _ _ (uN hl _)
include hn ha in
theorem JH {fin:Bool} {J:RS->LR} {s:RS} (h:Gl n s) (hJ:Gl n (J { s with a:=s.a+1 }).2):Gl n (Bc n l fin J s).2:=by
 unfold Bc
 split
 .
  exact h
 split
 .
  exact hJ
 exact gO hn ha h
theorem ry {s:RS} {a:Int} {d:Dt} (h:Gl n s) (hd:gDt d):Gl n { s with a:=a,data:=s.data++[d] } :=
 ⟨h.lab,h.ar,λx hx=>by
  rcases List.mem_append.1 hx with hx|hx
  .
   exact h.dt x hx
  rw[List.mem_singleton.1 hx];exact hd,h.x,h.t,h.f0,h.f1⟩
theorem Lg {s:RS} {a:Int} (h:Gl n s):Gl n { s with a:=a }:=⟨h.lab,h.ar,h.dt,h.x,h.t,h.f0,h.f1⟩
theorem Lh {x:List Nd} (h:gX x):gDt ([],x):=⟨by show (0:Nat)<=1100;omega,h⟩
include hn hl ha in
theorem Sl:∀(m:Nat) (s:RS),Gl n s->Gl n (Q7 n l m s).2
 |0,s,h=>h
 |
  m+1,s,h=>by
  unfold Q7;split
  .
   exact gO hn ha h
  split
  .
   rename_i w hw
   have UO:w.length<=1100:=by
    unfold s8 at hw;split at hw
    .
     rename_i t ht;split at hw
     .
      cases hw;exact (hl t (at_mem ht)).2
     cases hw
    cases hw
   have hd:gDt (w,[]):=⟨UO,oW⟩;exact JH hn ha (ry h hd) (Sl m _ (Lg (ry h hd)))
  exact Lf hn hl ha h λx e hx=>JH hn ha (ry h (Lh hx)) (Sl m _ (Lg (ry h (Lh hx))))
include hn hl ha in
theorem WV:∀(m:Nat) (s:RS),Gl n s->Gl n (UL n l m s).2
 |0,s,h=>h
 |
  m+1,s,h=>by
  unfold UL;split
  .
   exact gO hn ha h
  exact Lf hn hl ha h λx e hx=>JH hn ha (ry h (Lh hx)) (WV m _ (Lg (ry h (Lh hx))))
theorem jt {s s':RS} (h:Gl n s) (e1:s'.lab=s.lab) (e2:s'.args=s.args) (e3:s'.data=s.data) (e4:s'.x=s.x) (e5:s'.times=s.times) (e6:s'.f=s.f):Gl n s' :=
 ⟨by rw[e1];exact h.lab,by rw[e2];exact h.ar,by rw[e3];exact h.dt,by rw[e4];exact h.x,by rw[e5];exact h.t,by rw[e6];exact h.f0,by rw[e6];exact h.f1⟩
include hn hl ha in
theorem JI {i:Int} {s:RS} {k:RS->LR} (h:Gl n s) (hk:∀t,t.length<=1100->Gl n (k { s with lab:=t }).2):Gl n (Bd n l i s k).2:=by
 unfold Bd
 split
 .
  exact gO hn ha h
 rename_i w hw
 split
 .
  exact gO hn ha h
 refine hk _ ?_
 unfold lH at hw
 split at hw
 .
  rename_i t ht;split at hw
  .
   cases hw;exact (hl t (at_mem ht)).2
  cases hw
 cases hw
include hn ha in
theorem JJ {s:RS} (h:Gl n s):Gl n (Ai n l s).2:=by
 unfold Ai
 split
 .
  exact h
 exact gO hn ha h
include hn hl ha in
theorem ye {kind:Int} {s:RS} (h:Gl n s):Gl n (uG n l kind s).2 :=
 Lf hn hl ha (s:={ s with kind:=kind }) (jt h rfl rfl rfl rfl rfl rfl) λx e hx=>JJ hn ha ⟨h.lab,h.ar,h.dt,hx,h.t,h.f0,h.f1⟩
theorem Sm {s:RS} {w:List UInt8} (h:Gl n s) (hw:w.length<=1100):Gl n { s with lab:=w }:=⟨hw,h.ar,h.dt,h.x,h.t,h.f0,h.f1⟩
include hn hl ha in
theorem VE {w:List UInt8} {s:RS} (h:Gl n s):Gl n (dK n l w s).2:=by
 unfold dK
 split
 .
  exact Sl hn hl ha _ _ (jt h rfl rfl rfl rfl rfl rfl)
 split
 .
  exact ye hn hl ha (jt h rfl rfl rfl rfl rfl rfl)
 split
 .
  exact ye hn hl ha (jt h rfl rfl rfl rfl rfl rfl)
 split
 .
  exact ye hn hl ha (jt h rfl rfl rfl rfl rfl rfl)
 split
 .
  exact JI hn hl ha (s:={ s with kind:=6 }) (jt h rfl rfl rfl rfl rfl rfl) λt ht=>JJ hn ha (jt (Sm h ht) rfl rfl rfl rfl rfl rfl)
 split
 .
  exact JJ hn ha (jt h rfl rfl rfl rfl rfl rfl)
 split
 .
  exact WV hn hl ha _ _ (jt h rfl rfl rfl rfl rfl rfl)
 split
 .
  unfold Rf;split
  .
   exact gO hn ha h
  exact ⟨h.lab,Nm hl _,h.dt,h.x,h.t,h.f0,h.f1⟩
 exact gO hn ha h
include hn hl ha in
theorem Li {aP:Bool} {s:RS} (h:Gl n s):Gl n (kY n l aP s).2:=by
 unfold kY
 split
 .
  split
  .
   exact gO hn ha h
  exact h
 split
 .
  exact gO hn ha h
 unfold Jn
 split
 .
  exact gO hn ha h
 split
 .
  exact gO hn ha h
 exact VE hn hl ha h
include hn hl ha in
theorem Hg {s:RS} (h:Gl n s):Gl n (jV n l s).2:=by
 unfold jV
 split
 .
  exact Lf hn hl ha (Lg h) λx e hx=>Li hn hl ha ⟨h.lab,h.ar,h.dt,h.x,hx,h.f0,h.f1⟩
 exact Li hn hl ha h
include hn in
theorem afc:Gl n iF:=⟨(by show (0:Nat)<=1100;omega),λr hr=>(by cases hr),λr hr=>(by cases hr),oW,oW,Int.le_refl _,hn⟩
include hn hl ha in
theorem VF:Gl n (jz n l iF).2:=by
 have h:=afc hn
 unfold jz
 split
 .
  exact JI hn hl ha h λt ht=>ye hn hl ha (jt (Sm h ht) rfl rfl rfl rfl rfl rfl)
 split
 .
  exact JI hn hl ha h λt ht=>Hg hn hl ha (jt (Sm h ht) rfl rfl rfl rfl rfl rfl)
 exact Hg hn hl ha h
end
theorem Sn (s:List UInt8) (c:UInt8) (a:Nat):(lt.cG s c a).1.2.2.2=a:=by
 unfold lt.cG
 split
 .
  rfl
 split
 .
  rfl
 split<;>rfl
theorem JK (s:List UInt8):∀(m:Nat) (left:List UInt8),gAt s.length (lt.jP s m left).1
 |0,_=>λt ht=>by cases ht
 |_+1,[]=>λt ht=>by cases ht
 |
  m+1,c::r=>by
  rw[lt.jP];split
  .
   exact JK s m r
  split
  .
   exact λt ht=>by cases ht
  split
  .
   intro t ht;rcases List.mem_cons.1 ht with h|h
   .
    rw[h,Sn];omega
   exact JK s m _ t h
  exact λt ht=>by cases ht
theorem VG (s:List UInt8):gAt s.length (lt.di s).1:=by
 unfold lt.di
 split
 .
  exact λt ht=>by cases ht
 split
 .
  exact JK s _ _
 exact λt ht=>by cases ht
theorem aa6 (s:List UInt8):gL (lt.di s).1:=λt ht=>aa2 ((lt.JA s).1 t ht).2
theorem Lj (s:List UInt8):Gl s.length (bH s).1/\0<=(bH s).2.2/\(bH s).2.2<=s.length:=by
 have hn:(0:Int)<=s.length:=by omega
 have hz:=afc hn
 have hq:=VF hn (aa6 s) (VG s)
 unfold bH
 split
 .
  exact ⟨hz,(lt.Aw s).1.1,(lt.Aw s).1.2⟩
 split
 .
  exact ⟨hq,Int.le_refl _,hn⟩
 exact ⟨hz,hq.f0,hq.f1⟩
theorem Sq (s:List UInt8):gSt (bH s).1:=by
 have h:=(Lj s).1
 have g:=K7 s
 exact ⟨h.lab,h.ar,h.dt,h.x,h.t,by have:=g.ar.1;omega,by have:=g.dl;omega⟩
theorem aa7 {s:List UInt8} (h:(bH s).2.1≠0):(bH s).1=iF:=by
 unfold bH at h ⊢
 split
 .
  rfl
 rename_i h1
 rw[if_neg h1] at h
 split
 .
  rename_i h2;rw[if_pos h2] at h;exact absurd rfl h
 rfl
end
end Go.Proofs.YtpaddkkfefgkfaaGreatDoor.ps.wr

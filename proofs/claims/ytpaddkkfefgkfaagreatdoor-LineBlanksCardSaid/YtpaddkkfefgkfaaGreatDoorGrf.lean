/- Lines: what a reader has; pieces of data. A function from one place of its code to a later one. Lines: data, powers: contracts. Lines: where the faults of instructions are. What is read hangs not on where tokens stand: expressions, operands, instructions. Lines: what reading one comes to. -/
import Derived.Test.YtpaddkkfefgkfaaGreatDoorGre
import Derived.Test.YtpaddkkfefgkfaaGreatDoorLyg

namespace Go.Proofs.YtpaddkkfefgkfaaGreatDoor.ps
open Go.Tv Go.Ev Go.Px Go.Pp Go.Proofs.YtpaddkkfefgkfaaGreatDoor.ex
set_option maxRecDepth 100000
noncomputable section
abbrev Dt:=List UInt8×List Nd
abbrev BA:Tv.Ty:=.pair .str (.sl ek)
structure RS where
 a:Int
 lab:List UInt8
 kind:Int
 sz:Int
 op:Int
 hint:Int
 args:List Raw
 data:List Dt
 x:List Nd
 times:List Nd
 e:Int
 f:Int
def Wy (n:Int) (l:List Tok) (s:RS) (A:AV):List bM:=[.val (.int .i64 n),.val (.bQ aL l),.val (.int .i64 s.a),.val (.str s.lab),.val (.int .i64 s.kind),.val (.int .i64 s.sz),.val (.int .i64 s.op),.val (.int .i64 s.hint),.val A,.list 52 BA s.data,.list 50 ek s.x,.list 50 ek s.times,.val (.int .i64 s.e),.val (.int .i64 s.f)]
abbrev CV (n:Int) (l:List Tok) (s:RS):List bM:=Wy n l s .bR
abbrev Za (n:Int) (l:List Tok) (s:RS):List bM:=Wy n l s (.bQ mQ s.args)
def adz:List (Option (TypeId×Tv.Ty)):=[none,none,none,none,none,none,none,none,none,some (52,BA),some (50,ek),some (50,ek),none,none]
def adA:List (Option Tv.Ty):=[none,none,none,none,none,none,none,none,some mQ]
abbrev Zb:=Int->List Tok->RS->Option (Bool×Bool×RS)
def gRd (F:Zb) (ins:List bM):Option (Bool×List bM×List bM) :=
 match ins with
 |
  [.val (.int .i64 n),.val (.bQ e0 l0),.val (.int .i64 a),.val (.str lab),.val (.int .i64 kind),.val (.int .i64 sz),.val (.int .i64 op),.val (.int .i64 hint),.val .bR,.list t1 e1 d,.list t2 e2 x,.list t3 e3 tm,.val (.int .i64 e),.val (.int .i64 f)] =>
  match fX e0 aL l0,fX e1 BA d,fX e2 ek x,fX e3 ek tm with
  |
   some l,some d,some x,some tm=>match F n l ⟨a,lab,kind,sz,op,hint,[],d,x,tm,e,f⟩ with
   |some (c,b,s')=>some (c&&(Nat.beq t1 52&&Nat.beq t2 50&&Nat.beq t3 50&&d.isEmpty&&x.isEmpty),Za n l s',[.val (.bool b)])
   |none=>none
  |_,_,_,_=>none
 |_=>none
def Zc (F:Zb):Bu:=⟨some (126,adz),[],gRd F⟩
theorem U5 {F:Zb} {ins outs rs:List bM} (h:gRd F ins=some (true,outs,rs)):∃n l s b s',ins=CV n l s/\s.args=[]/\s.data=[]/\s.x=[]/\F n l s=some (true,b,s')/\outs=Za n l s'/\rs=[.val (.bool b)]:=by
 unfold gRd at h
 split at h
 case h_2=>cases h
 rename_i n e0 l0 a lab kind sz op hint t1 e1 d t2 e2 x t3 e3 tm e f
 split at h
 case h_2=>cases h
 rename_i l d' x' tm' h0 h1 h2 h3
 split at h
 case h_2=>cases h
 rename_i c b s' hF
 simp only[Option.some.injEq,Prod.mk.injEq,Bool.and_eq_true] at h
 obtain ⟨⟨hc,⟨⟨⟨g1,g2⟩,g3⟩,g4⟩,g5⟩,rfl,rfl⟩:=h
 subst hc
 obtain rfl:=Nat.eq_of_beq_eq_true g1
 obtain rfl:=Nat.eq_of_beq_eq_true g2
 obtain rfl:=Nat.eq_of_beq_eq_true g3
 obtain ⟨rfl,h0⟩:=bh h0
 obtain ⟨rfl,h1⟩:=bh h1
 obtain ⟨rfl,h2⟩:=bh h2
 obtain ⟨rfl,h3⟩:=bh h3
 have h0:l0=l:=h0
 have h1:d=d':=h1
 have h2:x=x':=h2
 have h3:tm=tm':=h3
 subst h0;subst h1;subst h2;subst h3
 have hd:d=[]:=List.isEmpty_iff.1 g4
 have hx:x=[]:=List.isEmpty_iff.1 g5
 subst hd;subst hx
 exact ⟨n,l0,⟨a,lab,kind,sz,op,hint,[],[],[],tm,e,f⟩,b,s',rfl,rfl,rfl,rfl,hF,rfl,rfl⟩
abbrev rW:AV->aa->br:=Ra 126 adA adz [none]
def Av (b:Bool) (n:Int) (l:List Tok) (s:RS) (nd nx nt:Nat):br:=some (Za n l s++[.val (.bool b)],[nd,nx,nt])
theorem JG {id:FuncId} (hk:lt.inl id=true) {M:List qB} {N:List lS} (hM:cU X0 eo M) (hN:dD X0 eo N) {F:Zb}
 (h:∀n l s b s',s.args=[]->s.data=[]->s.x=[]->F n l s=some (true,b,s')->∃(an:bO) (rounds:Nat),ag X0 (cN M N _) an rounds id [.ptr 0 0] (dJ 126 14 (CV n l s)) rW=Av b n l s' s'.data.length s'.x.length s'.times.length) :
 cA X0 eo id (Zc F) :=
 Rb (nk hk) (eB hM hN) adA (nM:=[none]) λins outs rs hg hl=>by
  obtain ⟨n,l,s,b,s',rfl,h1,h2,h3,hF,rfl,rfl⟩:=U5 hg;obtain ⟨an,rounds,hrun⟩:=h n l s b s' h1 h2 h3 hF;exact ⟨an,rounds,_,hrun,rfl⟩
section
variable (n:Int) (l:List Tok)
def Wz (i:Int):Int:=match at? l i with
 |some t=>t.2.2.2
 |none=>n
def cy (s:RS) (e i:Int):Bool×RS:=(false,{ s with e:=e,f:=Wz n l i })
def rX (i:Int) (k:Tok->br):br:=Option.rec (motive:=λ_=>br) none k (aS l i)
def gM (s:RS) (nd nx nt:Nat) (e i:Int):br:=pick2 (ltI i l.length) (rX l i λy=>Av false n l { s with e:=e,f:=y.2.2.2 } nd nx nt) (Av false n l { s with e:=e,f:=n } nd nx nt)
def Zd (a k:Int) (t:List UInt8) (no yes:br):br:=pick2 (ltI a l.length) (rX l a λy=>pick2 (eqI y.1 k) (rX l a λy=>pick2 (!decide (y.2.2.1=t)) no yes) no) no
end
def Good (r:fP):Prop:=∀b st,r=some (b,st)->(b=true->0<=st.a)/\(b=false->0<=st.f)
theorem mg {st:St} {e f:Int} (h:0<=f):Good (pI st e f):=λb s hs=>by
 cases hs
 exact ⟨λh=>(by cases h),λ_=>h⟩
theorem wK {st:St} {n:Nd} {f:Int} {k:St->fP} (hf:0<=f) (hk:Good (k { st with x:=st.x++[n] })):Good (fK st n f k):=by
 unfold fK
 split
 .
  exact mg hf
 exact hk
theorem CW {st:St} {k:St->fP} (hf:0<=st.a) (hk:Good (k { st with d:=st.d+1,a:=st.a+1 })):Good (iJ st k):=by
 unfold iJ
 split
 .
  exact mg hf
 exact hk
theorem Eo {r:fP} {k:St->fP} (hr:Good r) (hk:∀s,0<=s.a->Good (k s)):Good (wu r k):=by
 unfold wu
 split
 .
  rename_i st;exact hk st ((hr true st rfl).1 rfl)
 .
  rename_i st;intro b s hs;cases hs;exact ⟨λh=>(by cases h),λ_=>(hr false st rfl).2 rfl⟩
 intro b s hs;cases hs
theorem Na {l:List Tok} {rec:Int->St->fP} {k:St->fP} (hrec:∀s st,0<=st.a->Good (rec s st)) (hk:∀s,0<=s.a->Good (k s)) {st:St} (h:0<=st.a):Good (cY bf l rec st k):=by
 have h1:0<=st.a+1:=by omega
 unfold cY
 split
 .
  exact mg h
 split
 .
  exact wK h (hk _ h1)
 split
 .
  refine CW h (Eo (hrec _ _ h1) λs hs=>?_)
  split
  .
   exact hk _ hs
  exact wK h (hk _ hs)
 split
 .
  refine CW h (Eo (hrec _ _ h1) λs hs=>?_)
  split
  .
   exact mg hs
  split
  .
   exact hk _ (by show 0<=s.a+1;omega)
  exact mg hs
 exact mg h
theorem CX {l:List Tok} {rec:Int->St->fP} (hrec:∀s st,0<=st.a->Good (rec s st)) (str:Int):∀(n:Nat) (st:St),0<=st.a->Good (bE l rec str n st)
 |0,st,h=>λb s hs=>by cases hs
 |
  n+1,st,h=>by
  have ok:Good (some (true,st)):=λb s hs=>by
   cases hs;exact ⟨λ_=>h,λh=>(by cases h)⟩
  unfold bE;split
  .
   exact ok
  split
  .
   exact ok
  exact Eo (hrec _ _ (by show 0<=st.a+1;omega)) λs hs=>wK h (CX hrec str n _ hs)
theorem tH (l:List Tok):∀(k:Nat) (str:Int) (st:St),0<=st.a->Good (av bf l k str st)
 |0,_,_,_=>λb s hs=>by cases hs
 |k+1,str,st,h=>Na (tH l k) (CX (tH l k) str _) h
theorem Aw (l:List Tok) (a:Int):0<=(ai l a).2.2.2:=by
 obtain ⟨r,hr⟩:=o6 (nm:=bf) l a
 have e1:ai l a=r:=by unfold ai;rw[hr];rfl
 rw[e1]
 unfold fB at hr
 split at hr
 .
  cases hr;exact Int.le_refl 0
 rename_i h0
 split at hr
 .
  cases hr;exact Int.le_refl 0
 .
  rename_i st hc;cases hr;exact (tH l _ 1 ⟨a,0,[],0,0⟩ (by show 0<=a;omega) false st hc).2 rfl
 cases hr
section
variable {n:Int} {l:List Tok}
theorem qQ {s:RS} {nd nx nt:Nat} {e i:Int} (h:0<=i):gM n l s nd nx nt e i=Av false n l (cy n l s e i).2 nd nx nt:=by
 unfold gM cy Wz rX
 rw[aV,getI_at?]
 cases cw:at? l i with
 |none=>have:=dR h cw;rw[if_neg (by omega)]
 |some t=>rw[if_pos (dL cw).2]
theorem Ze {a:Int} {t:List UInt8} {no yes:br} (h:0<=a):Zd l a 4 t no yes=if aM l a t=true then yes else no:=by
 unfold Zd rX aM
 rw[aV,getI_at?]
 cases cw:at? l a with
 |none=>have:=dR h cw;rw[if_neg (by omega)];rfl
 |
  some c =>
  rw[if_pos (dL cw).2];show pick2 (eqI c.1 4) (pick2 (!decide (c.2.2.1=t)) no yes) no=if iI c t=true then yes else no;rw[Eh];cases eqI c.1 4<;>cases decide (c.2.2.1=t)<;>rfl
end
def nB (s:List UInt8):Int:=match aS s ((s.length:Int)-1) with
 |some c=>if aA c=98 then 1 else if aA c=119 then 2 else if aA c=100 then 4 else 8
 |none=>8
def gSz (args:List AV):Option (Bool×List bL) :=
 match args with
 |[.str s]=>some (!ltI s.length 1&&Nat.ble s.length 1000000,[.val (.int .i64 (nB s))])
 |_=>none
theorem Zf:aT X0 eo 180 gSz :=
 aU (nk rfl) (eB xD n0) λargs rs hg=>by
  unfold gSz at hg;split at hg
  .
   rename_i s;simp only[Option.some.injEq,Prod.mk.injEq,Bool.and_eq_true,Bool.not_eq_true'] at hg;obtain ⟨⟨g0,g1⟩,rfl⟩:=hg;have g0:=Bw g0;have g1:=Nat.le_of_ble_eq_true g1;refine ⟨[.int .i64 (nB s)],dc,5,?_,rfl,rfl⟩;have h:ag X0 (cN P2 [] AV) dc 5 180 [.str s] aa.empty (λv _=>some v)=Option.rec (motive:=λ_=>Option AV) none (λc=>pick2 (eqI (aA c) 98) (some (.int .i64 1)) (pick2 (eqI (aA c) 119) (some (.int .i64 2)) (pick2 (eqI (aA c) 100) (some (.int .i64 4)) (some (.int .i64 8))))) (aS s (IntKind.wrap .i64 (s.length-1))):=by kernel_rfl
   rw[h,i64_in (n:=(s.length:Int)-1) (by omega) (by omega)]
   unfold nB;cases hc:aS s ((s.length:Int)-1) with
   |
    none =>
    rw[getI_at?] at hc;have:=dR (by omega) hc
    omega
   |
    some c =>
    simp only[aH];by_cases h1:aA c=98
    .
     rw[if_pos h1,if_pos h1];rfl
    rw[if_neg h1,if_neg h1];by_cases h2:aA c=119
    .
     rw[if_pos h2,if_pos h2];rfl
    rw[if_neg h2,if_neg h2];by_cases h3:aA c=100
    .
     rw[if_pos h3,if_pos h3];rfl
    rw[if_neg h3,if_neg h3];rfl
  cases hg
def P3:List qB:=(180,[none],gSz)::P2
theorem Ay:cU X0 eo P3:=.cons Zf xD
def CY (n:Int) (l:List Tok) (s:RS) (nd nx nt:Nat):aa:=Uy [.cells 126 [.int .i64 n,.bQ aL l,.int .i64 s.a,.str s.lab,.int .i64 s.kind,.int .i64 s.sz,.int .i64 s.op,.int .i64 s.hint,.bR,.own 1 nd,.own 2 nx,.own 3 nt,.int .i64 s.e,.int .i64 s.f],.list 52 BA s.data 0 false false,.list 50 ek s.x 0 false false,.list 50 ek s.times 0 false false]
def pDt:List Bool:=[true,true,true,false,false]
def Nb:bO:=⟨eX [0] pDt,.none,[]⟩
def Zg (n:Int) (l:List Tok) (r m:Nat) (s:RS) (nd nx nt:Nat):br:=fJ X0 (cN P3 NC _) Nb r 149 pDt rW m (j8 45 [(0,.ptr 0 0)]) (CY n l s nd nx nt)
def jDc (n:Int) (l:List Tok) (r m:Nat) (s:RS) (nd nx nt:Nat):br:=fJ X0 (cN P3 NC _) Nb r 155 pDt rW m (j8 38 [(0,.ptr 0 0)]) (CY n l s nd nx nt)
def Zh (n:Int) (l:List Tok) (s:RS) (nd nx nt:Nat) (go:List Nd->Int->br):br :=
 pick2 (Nat.ble l.length 1000000) (pick2 (!eqI (ai l s.a).2.2.1 0) (gM n l s nd nx nt (ai l s.a).2.2.1 (ai l s.a).2.2.2) (go (ai l s.a).1 (ai l s.a).2.1)) none
def Rv (n:Int) (l:List Tok) (J:RS->Nat->br) (s:RS) (nd nx nt:Nat):br :=
 (λgo:Dt->Int->br=>(λex:br=>pick2 (eqI nd 64) (gM n l s nd nx nt 3 s.a) (pick2 (ltI s.a l.length) (rX l s.a λy=>pick2 (eqI y.1 3) (rX l s.a λy=>go (y.2.2.1,[]) (IntKind.wrap .i64 (s.a+1))) ex) ex)) (Zh n l s nd nx nt λx a=>go ([],x) a))
  (λd a=>pick2 (Nat.ble (s.data.length+1) 1000000) (pick2 (eqI a l.length) (Av true n l { s with a:=a,data:=s.data++[d] } (s.data.length+1) nx nt)
   (Zd l a 4 [44] (gM n l { s with a:=a,data:=s.data++[d] } (s.data.length+1) nx nt 4 a) (J { s with a:=IntKind.wrap .i64 (a+1),data:=s.data++[d] } (s.data.length+1)))) none)
theorem Zi (n:Int) (l:List Tok) (r m:Nat) (a:Int) (lab:List UInt8) (kind sz op hint:Int) (data:List Dt) (x times:List Nd) (e f:Int) (nd nx nt:Nat) :
 Zg n l r (m+1) ⟨a,lab,kind,sz,op,hint,[],data,x,times,e,f⟩ nd nx nt=Rv n l (λs nd=>Zg n l r m s nd nx nt) ⟨a,lab,kind,sz,op,hint,[],data,x,times,e,f⟩ nd nx nt:=by kernel_rfl
def Rw (n:Int) (l:List Tok) (J:RS->Nat->br) (s:RS) (nd nx nt:Nat):br :=
 pick2 (eqI nd 3) (gM n l s nd nx nt 3 s.a) (Zh n l s nd nx nt λx a=>pick2 (Nat.ble (s.data.length+1) 1000000)
  ((
   λcm:br=>pick2 (eqI a l.length) (pick2 (ltI 1 ((s.data.length+1:Nat):Int)) (Av true n l { s with a:=a,data:=s.data++[([],x)] } (s.data.length+1) nx nt) cm) cm)
   (Zd l a 4 [44] (gM n l { s with a:=a,data:=s.data++[([],x)] } (s.data.length+1) nx nt 4 a) (J { s with a:=IntKind.wrap .i64 (a+1),data:=s.data++[([],x)] } (s.data.length+1)))) none)
theorem Zj (n:Int) (l:List Tok) (r m:Nat) (a:Int) (lab:List UInt8) (kind sz op hint:Int) (data:List Dt) (x times:List Nd) (e f:Int) (nd nx nt:Nat) :
 jDc n l r (m+1) ⟨a,lab,kind,sz,op,hint,[],data,x,times,e,f⟩ nd nx nt=Rw n l (λs nd=>jDc n l r m s nd nx nt) ⟨a,lab,kind,sz,op,hint,[],data,x,times,e,f⟩ nd nx nt:=by kernel_rfl
theorem U6 (n:Int) (l:List Tok) (r:Nat) (a:Int) (lab:List UInt8) (kind sz op hint:Int) (times:List Nd) (e f:Int) :
 ag X0 (cN P3 NC _) Nb r 149 [.ptr 0 0] (dJ 126 14 (CV n l ⟨a,lab,kind,sz,op,hint,[],[],[],times,e,f⟩)) rW =
 rX l a λy=>pick2 (!ltI y.2.2.1.length 1&&Nat.ble y.2.2.1.length 1000000) (Zg n l r r ⟨IntKind.wrap .i64 (a+1),lab,2,nB y.2.2.1,op,hint,[],[],[],times,e,f⟩ 0 0 times.length) none:=by kernel_rfl
theorem U7 (n:Int) (l:List Tok) (r:Nat) (a:Int) (lab:List UInt8) (kind sz op hint:Int) (times:List Nd) (e f:Int) :
 ag X0 (cN P3 NC _) Nb r 155 [.ptr 0 0] (dJ 126 14 (CV n l ⟨a,lab,kind,sz,op,hint,[],[],[],times,e,f⟩)) rW =
 jDc n l r r ⟨IntKind.wrap .i64 (a+1),lab,9,sz,op,hint,[],[],[],times,e,f⟩ 0 0 times.length:=by kernel_rfl
end
end Go.Proofs.YtpaddkkfefgkfaaGreatDoor.ps

namespace Go.Tv
open Go.Ev
noncomputable section
variable {β:Type}
def RP (X:cR) (call:aY β) (an:bO) (rounds:Nat) (id:FuncId) (p q:List Bool) (k:AV->aa->Option β) (K:cj->aa->Option β) (f:cj) (H:aa):Option β :=
 match X.P.funcs[id]? with
 |
  some fn=>match fn.body with
  |some c=>eT X call an.tr (mH X call an.tr an.ja rounds rounds) rounds (Qu (eW c p) q) (uJ (fI an.EI p)) f H (qt (λf H=>Bb (fI (fI an.EI p) q) f H K) (lM X fn k))
  |none=>none
 |none=>none
theorem RQ:∀(p q:List Bool) (c:Code),uK c (p++q)=true->uK (eW c p) q=true
 |[],_,_,h=>h
 |false::p,q,c,h=>by cases c<;>cases h
 |
  true::p,q,c,h=>by
  cases c with
  |seq x y=>exact RQ p q y h
  |_=>cases h
theorem jH:∀(p q:List Bool) (c:Code),eW c (p++q)=eW (eW c p) q
 |[],_,_=>rfl
 |d::p,q,c=>jH p q (inside c d)
theorem GX:∀(p q:List Bool) (a:iz),fI a (p++q)=fI (fI a p) q
 |[],_,_=>rfl
 |d::p,q,a=>GX p q (pick2 d a.r a.l)
theorem Vc (a:iz) (d:Bool) (q:List Bool):fI (uJ a) (d::q)=fI a (d::q):=by
 cases a with
 |none=>rfl
 |node o l r=>rfl
theorem RR:∀(p q:List Bool) (c:Code),uK c (p++q)=true->uK c p=true
 |
  [],q,c,h=>by
  cases c with
  |seq x y=>rfl
  |
   _=>cases q with
   |nil=>cases h
   |cons d q=>cases d<;>cases h
 |false::p,q,c,h=>by cases c<;>cases h
 |
  true::p,q,c,h=>by
  cases c with
  |seq x y=>exact RR p q y h
  |_=>cases h
theorem wN {X:cR} {call:aY β} {an:bO} {rounds:Nat} {id:FuncId} {p q:List Bool} (hp:KX X id (p++(true::q))=true) (k:AV->aa->Option β) (f:cj) (H:aa) :
 codeFrom X call an rounds id p k f H=RP X call an rounds id p (true::q) k (codeFrom X call an rounds id (p++(true::q)) k) f H:=by
 unfold KX at hp
 unfold RP
 rw[codeFrom]
 cases hf:X.P.funcs[id]? with
 |none=>rfl
 |
  some fn =>
  rw[hf] at hp;simp only at hp ⊢;cases hb:fn.body with
  |none=>rfl
  |
   some c =>
   rw[hb] at hp;simp only at hp ⊢;have h1:=RQ p (true::q) c hp;rw[yl X call an.tr _ rounds p c (RR p (true::q) c hp),tA X call an.tr _ rounds (true::q) (eW c p) h1]
   have e:(λf H=>eT X call an.tr (mH X call an.tr an.ja rounds rounds) rounds (eW (eW c p) (true::q)) (fI (uJ (fI an.EI p)) (true::q)) f H (lM X fn k)) =
    λf H=>Bb (fI (fI an.EI p) (true::q)) f H (codeFrom X call an rounds id (p++(true::q)) k):=by
    funext f H
    rw[Vc,wq X call an.tr _ rounds (true::q) (eW c p) h1]
    congr 1
    funext f H
    unfold codeFrom;rw[hf];simp only;rw[hb];simp only;rw[yl X call an.tr _ rounds (p++(true::q)) c hp,jH,GX]
   rw[e]
end
end Go.Tv

namespace Go.Proofs.YtpaddkkfefgkfaaGreatDoor.ps
open Go.Tv Go.Ev Go.Px Go.Pp Go.Proofs.YtpaddkkfefgkfaaGreatDoor.ex
set_option maxRecDepth 100000
noncomputable section
def bG (n:Int) (l:List Tok) (r:Bool×RS):br:=Av r.1 n l r.2 r.2.data.length r.2.x.length r.2.times.length
def HS (n:Int) (l:List Tok) (s:RS) (go:List Nd->Int->Bool×RS):Bool×RS :=
 if (ai l s.a).2.2.1≠0 then cy n l s (ai l s.a).2.2.1 (ai l s.a).2.2.2 else go (ai l s.a).1 (ai l s.a).2.1
def xX (n:Int) (l:List Tok) (fin:Bool) (J:RS->Bool×RS) (s:RS):Bool×RS :=
 if s.a=l.length/\fin=true then (true,s) else if aM l s.a [44]=true then J { s with a:=s.a+1 } else cy n l s 4 s.a
def mR (l:List Tok) (a:Int):Option (List UInt8):=match at? l a with
 |some t=>if t.1=3 then some t.2.2.1 else none
 |none=>none
def Lf (n:Int) (l:List Tok):Nat->RS->Bool×RS
 |0,s=>(false,s)
 |
  m+1,s=>if s.data.length=64 then cy n l s 3 s.a else match mR l s.a with
  |some t=>xX n l true (Lf n l m) { s with a:=s.a+1,data:=s.data++[(t,[])] }
  |none=>HS n l s λx e=>xX n l true (Lf n l m) { s with a:=e,data:=s.data++[([],x)] }
def Ta (n:Int) (l:List Tok):Nat->RS->Bool×RS
 |0,s=>(false,s)
 |m+1,s=>if s.data.length=3 then cy n l s 3 s.a else HS n l s λx e=>xX n l (ltI 1 ((s.data.length+1:Nat):Int)) (Ta n l m) { s with a:=e,data:=s.data++[([],x)] }
section
variable {n:Int} {l:List Tok}
theorem U8 {a:Int} (h0:0<=a) (go:List UInt8->br) (ex:br):pick2 (ltI a l.length) (rX l a λy=>pick2 (eqI y.1 3) (rX l a λy=>go y.2.2.1) ex) ex=(match mR l a with
 |some t=>go t
 |none=>ex):=by
 unfold rX mR
 rw[aV,getI_at?]
 cases cw:at? l a with
 |none=>have:=dR h0 cw;rw[if_neg (by omega)]
 |
  some c =>
  rw[if_pos (dL cw).2];show pick2 (eqI c.1 3) (go c.2.2.1) ex=_;rw[aH];by_cases h:c.1=3
  .
   rw[if_pos h];simp only;rw[if_pos h]
  rw[if_neg h];simp only;rw[if_neg h]
theorem Nc {a:Int} {t:List UInt8} (h:mR l a=some t):a<l.length:=by
 unfold mR at h
 split at h
 .
  rename_i c hc;exact (dL hc).2
 cases h
theorem Zk (hl:l.length<=200000) {s:RS} {nd nx nt:Nat} (go:List Nd->Int->br):Zh n l s nd nx nt go=if (ai l s.a).2.2.1≠0 then Av false n l (cy n l s (ai l s.a).2.2.1 (ai l s.a).2.2.2).2 nd nx nt else go (ai l s.a).1 (ai l s.a).2.1:=by
 unfold Zh
 rw[cP (show l.length<=1000000 by omega)]
 show pick2 (!eqI (ai l s.a).2.2.1 0) _ _=_
 rw[bz,qQ (Aw l s.a)]
 by_cases h:(ai l s.a).2.2.1=0
 .
  rw[if_pos h,if_neg (show ¬(ai l s.a).2.2.1≠0 from λq=>q h)]
 rw[if_neg h,if_pos h]
theorem Ep (hl:l.length<=200000) {s:RS} {go:List Nd->Int->br} {goF:List Nd->Int->Bool×RS} (h:∀x e,s.a<e->e<=l.length->go x e=bG n l (goF x e)) :
 Zh n l s s.data.length s.x.length s.times.length go=bG n l (HS n l s goF):=by
 rw[Zk hl]
 unfold HS
 by_cases he:(ai l s.a).2.2.1=0
 .
  obtain ⟨h1,h2⟩:=oD he;rw[if_neg (show ¬(ai l s.a).2.2.1≠0 from λq=>q he),if_neg (show ¬(ai l s.a).2.2.1≠0 from λq=>q he)]
  exact h _ _ h1 h2
 rw[if_pos he,if_pos he];rfl
theorem Rx (hl:l.length<=200000) {s:RS} {fin:Bool} {J:RS->br} {JF:RS->Bool×RS} (h0:0<=s.a) (h1:s.a<=l.length) (ih:s.a<l.length->J { s with a:=s.a+1 }=bG n l (JF { s with a:=s.a+1 })) :
 (λcm:br=>pick2 (eqI s.a l.length) (pick2 fin (bG n l (true,s)) cm) cm) (Zd l s.a 4 [44] (gM n l s s.data.length s.x.length s.times.length 4 s.a) (J { s with a:=IntKind.wrap .i64 (s.a+1) }))=bG n l (xX n l fin JF s):=by
 simp only
 unfold xX
 rw[Ze h0,qQ h0,i64_in (n:=s.a+1) (by omega) (by omega)]
 have hcm:(if aM l s.a [44]=true then J { s with a:=s.a+1 } else Av false n l (cy n l s 4 s.a).2 s.data.length s.x.length s.times.length)=bG n l (if aM l s.a [44]=true then JF { s with a:=s.a+1 } else cy n l s 4 s.a):=by
  by_cases hs:aM l s.a [44]=true
  .
   rw[if_pos hs,if_pos hs];obtain ⟨c,hc,_⟩:=eE hs;exact ih (dL hc).2
  rw[if_neg hs,if_neg hs];rfl
 rw[hcm,aH]
 by_cases ha:s.a=l.length
 .
  rw[if_pos ha];cases fin with
  |true=>rw[if_pos (show s.a=(l.length:Int)/\true=true from ⟨ha,rfl⟩)]
  |false=>rw[if_neg (show ¬(s.a=l.length/\false=true) from λh=>by cases h.2)]
 rw[if_neg ha,if_neg (show ¬(s.a=l.length/\fin=true) from λh=>ha h.1)]
theorem Ry (hl:l.length<=200000) {r:Nat}:∀(m:Nat) (s:RS),s.args=[]->0<=s.a->s.a<=l.length->s.data.length<=64->65<=s.data.length+m->Zg n l r m s s.data.length s.x.length s.times.length=bG n l (Lf n l m s)
 |0,s,_,_,_,h1,h2=>by omega
 |
  m+1,⟨a,lab,kind,sz,op,hint,args,data,x,times,e,f⟩,h,h0,h1,h2,h3=>by
  have h:args=[]:=h;subst h;have h0:0<=a:=h0;have h1:a<=l.length:=h1;have h2:data.length<=64:=h2;have h3:65<=data.length+(m+1):=h3;rw[Zi];unfold Rv Lf;simp only;rw[cP (show data.length+1<=1000000 by omega),aH]
  by_cases h6:data.length=64
  .
   rw[if_pos (show ((data.length:Nat):Int)=64 by omega),if_pos h6,qQ h0];rfl
  rw[if_neg (show ¬((data.length:Nat):Int)=64 by omega),if_neg h6]
  have hgo:∀(d:Dt) (b:Int),a<b->b<=l.length->(pick2 true (pick2 (eqI b l.length) (Av true n l { a:=b,lab:=lab,kind:=kind,sz:=sz,op:=op,hint:=hint,args:=[],data:=data++[d],x:=x,times:=times,e:=e,f:=f } (data.length+1) x.length times.length)
   (Zd l b 4 [44] (gM n l { a:=b,lab:=lab,kind:=kind,sz:=sz,op:=op,hint:=hint,args:=[],data:=data++[d],x:=x,times:=times,e:=e,f:=f } (data.length+1) x.length times.length 4 b)
    (Zg n l r m { a:=IntKind.wrap .i64 (b+1),lab:=lab,kind:=kind,sz:=sz,op:=op,hint:=hint,args:=[],data:=data++[d],x:=x,times:=times,e:=e,f:=f } (data.length+1) x.length times.length))) none) =
   bG n l (xX n l true (Lf n l m) { a:=b,lab:=lab,kind:=kind,sz:=sz,op:=op,hint:=hint,args:=[],data:=data++[d],x:=x,times:=times,e:=e,f:=f }):=λd b hb0 Bh=>by
   have hlen:(data++[d]).length=data.length+1:=by simp
   have:=Rx (n:=n) hl (s:={ a:=b,lab:=lab,kind:=kind,sz:=sz,op:=op,hint:=hint,args:=[],data:=data++[d],x:=x,times:=times,e:=e,f:=f }) (fin:=true) (J:=λs=>Zg n l r m s s.data.length s.x.length s.times.length) (JF:=Lf n l m) (show 0<=b by omega) Bh (λhb=>Ry hl m _ rfl (show 0<=b+1 by omega) (show b+1<=l.length by have hb:b<l.length:=hb;omega) (show (data++[d]).length<=64 by omega) (show 65<=(data++[d]).length+m by omega))
   simp only[hlen] at this;rw[<-this];show pick2 (eqI b l.length) (Av true n l _ (data.length+1) _ _) _=pick2 (eqI b l.length) (Av true n l _ (data++[d]).length _ _) _;rw[hlen]
  rw[show (IntKind.wrap .i64 (a+1))=a+1 from i64_in (by omega) (by omega)]
  refine (U8 (l:=l) h0 (λt=>pick2 true (pick2 (eqI (a+1) l.length) (Av true n l { a:=a+1,lab:=lab,kind:=kind,sz:=sz,op:=op,hint:=hint,args:=[],data:=data++[(t,[])],x:=x,times:=times,e:=e,f:=f } (data.length+1) x.length times.length)
   (Zd l (a+1) 4 [44] (gM n l { a:=a+1,lab:=lab,kind:=kind,sz:=sz,op:=op,hint:=hint,args:=[],data:=data++[(t,[])],x:=x,times:=times,e:=e,f:=f } (data.length+1) x.length times.length 4 (a+1))
    (Zg n l r m { a:=IntKind.wrap .i64 (a+1+1),lab:=lab,kind:=kind,sz:=sz,op:=op,hint:=hint,args:=[],data:=data++[(t,[])],x:=x,times:=times,e:=e,f:=f } (data.length+1) x.length times.length))) none) _).trans ?_
  cases ht:mR l a with
  |some t=>exact hgo (t,[]) (a+1) (by omega) (by have:=Nc ht;omega)
  |none=>exact Ep (n:=n) hl (s:=⟨a,lab,kind,sz,op,hint,[],data,x,times,e,f⟩) λx' b hb0 Bh=>hgo ([],x') b hb0 Bh
theorem Rz (hl:l.length<=200000) {r:Nat}:∀(m:Nat) (s:RS),s.args=[]->0<=s.a->s.a<=l.length->s.data.length<=3->4<=s.data.length+m->jDc n l r m s s.data.length s.x.length s.times.length=bG n l (Ta n l m s)
 |0,s,_,_,_,h1,h2=>by omega
 |
  m+1,⟨a,lab,kind,sz,op,hint,args,data,x,times,e,f⟩,h,h0,h1,h2,h3=>by
  have h:args=[]:=h;subst h;have h0:0<=a:=h0;have h1:a<=l.length:=h1;have h2:data.length<=3:=h2;have h3:4<=data.length+(m+1):=h3;rw[Zj];unfold Rw Ta;simp only;rw[cP (show data.length+1<=1000000 by omega),aH]
  by_cases h6:data.length=3
  .
   rw[if_pos (show ((data.length:Nat):Int)=3 by omega),if_pos h6,qQ h0];rfl
  rw[if_neg (show ¬((data.length:Nat):Int)=3 by omega),if_neg h6]
  refine Ep (n:=n) hl (s:=⟨a,lab,kind,sz,op,hint,[],data,x,times,e,f⟩) λx' b hb0 Bh=>?_
  have hlen:(data++[(([],x'):Dt)]).length=data.length+1:=by simp
  have:=Rx (n:=n) hl (s:={ a:=b,lab:=lab,kind:=kind,sz:=sz,op:=op,hint:=hint,args:=[],data:=data++[([],x')],x:=x,times:=times,e:=e,f:=f }) (fin:=ltI 1 ((data.length+1:Nat):Int)) (J:=λs=>jDc n l r m s s.data.length s.x.length s.times.length) (JF:=Ta n l m) (show 0<=b by have hb0:a<b:=hb0;omega) Bh (λhb=>Rz hl m _ rfl (show 0<=b+1 by have hb0:a<b:=hb0;omega) (show b+1<=l.length by have hb:b<l.length:=hb;omega) (show (data++[([],x')]).length<=3 by omega) (show 4<=(data++[([],x')]).length+m by omega))
  simp only[hlen] at this;rw[<-this];show pick2 (eqI b l.length) (pick2 _ (Av true n l _ (data.length+1) _ _) _) _=pick2 (eqI b l.length) (pick2 _ (Av true n l _ (data++[([],x')]).length _ _) _) _;rw[hlen]
end
def eu (l:List Tok) (a:Int):List UInt8:=match at? l a with
 |some t=>t.2.2.1
 |none=>[]
def WA (l:List Tok) (a:Int):Bool:=Nat.ble l.length 200000 && !ltI a 0&&ltI a l.length
def uV (n:Int) (l:List Tok) (s:RS):Bool×RS:=Lf n l 70 { s with a:=s.a+1,kind:=2,sz:=nB (eu l s.a) }
def Nf (n:Int) (l:List Tok) (s:RS):Bool×RS:=Ta n l 70 { s with a:=s.a+1,kind:=9 }
def FDt:Zb:=λn l s=>some (WA l s.a&&(!ltI (eu l s.a).length 1&&Nat.ble (eu l s.a).length 1000000),uV n l s)
def FDc:Zb:=λn l s=>some (WA l s.a,Nf n l s)
theorem GS {l:List Tok} {a:Int} (h:WA l a=true):l.length<=200000/\0<=a/\a<l.length:=by
 unfold WA at h
 simp only[Bool.and_eq_true,Bool.not_eq_true'] at h
 have h1:=Nat.le_of_ble_eq_true h.1.1
 have h2:=h.1.2
 have h3:=h.2
 rw[ltI_spec] at h2 h3
 refine ⟨h1,?_,?_⟩
 .
  simpa using h2
 simpa using h3
theorem Zl:cA X0 eo 149 (Zc FDt) :=
 JG rfl Ay Ru λn l s b s' h1 h2 h3 hF=>by
  obtain ⟨a,lab,kind,sz,op,hint,args,data,x,times,e,f⟩:=s;have h1:args=[]:=h1;have h2:data=[]:=h2;have h3:x=[]:=h3;subst h1;subst h2;subst h3;unfold FDt at hF;simp only[Option.some.injEq,Prod.mk.injEq,Bool.and_eq_true,Bool.not_eq_true'] at hF;obtain ⟨⟨g1,g2,g3⟩,hF⟩:=hF;obtain ⟨g1,g4,g5⟩:=GS g1;refine ⟨Nb,70,?_⟩;rw[U6];unfold rX;rw[getI_at?];obtain ⟨t,ht⟩:=nA g4 g5;rw[ht];have hw:eu l a=t.2.2.1:=by unfold eu;rw[ht]
  rw[hw] at g2 g3;show pick2 (!ltI t.2.2.1.length 1&&Nat.ble t.2.2.1.length 1000000) _ _=_;rw[g2,g3,i64_in (n:=a+1) (by omega) (by omega)]
  have:=Ry (n:=n) g1 (r:=70) 70 ⟨a+1,lab,2,nB t.2.2.1,op,hint,[],[],[],times,e,f⟩ rfl (show 0<=a+1 by omega) (show a+1<=l.length by omega) (by simp) (by simp)
  refine Eq.trans this ?_;have hd:uV n l ⟨a,lab,kind,sz,op,hint,[],[],[],times,e,f⟩=(b,s'):=hF;unfold uV at hd;simp only[hw] at hd;rw[hd];rfl
theorem Zm:cA X0 eo 155 (Zc FDc) :=
 JG rfl Ay Ru λn l s b s' h1 h2 h3 hF=>by
  obtain ⟨a,lab,kind,sz,op,hint,args,data,x,times,e,f⟩:=s;have h1:args=[]:=h1;have h2:data=[]:=h2;have h3:x=[]:=h3;subst h1;subst h2;subst h3;unfold FDc at hF;simp only[Option.some.injEq,Prod.mk.injEq] at hF;obtain ⟨g1,hF⟩:=hF;obtain ⟨g1,g4,g5⟩:=GS g1;refine ⟨Nb,70,?_⟩;rw[U7,i64_in (n:=a+1) (by omega) (by omega)]
  have:=Rz (n:=n) g1 (r:=70) 70 ⟨a+1,lab,9,sz,op,hint,[],[],[],times,e,f⟩ rfl (show 0<=a+1 by omega) (show a+1<=l.length by omega) (by simp) (by simp)
  refine Eq.trans this ?_;have hd:Nf n l ⟨a,lab,kind,sz,op,hint,[],[],[],times,e,f⟩=(b,s'):=hF;unfold Nf at hd;rw[hd];rfl
def ND:List lS:=(149,Zc FDt)::(155,Zc FDc)::NC
theorem WB:dD X0 eo ND:=.cons Zl (.cons Zm Ru)
end
end Go.Proofs.YtpaddkkfefgkfaaGreatDoor.ps

namespace Go.Proofs.YtpaddkkfefgkfaaGreatDoor.ps
open Go.Tv Go.Ev Go.Px Go.Pp Go.Proofs.YtpaddkkfefgkfaaGreatDoor.ex
set_option maxRecDepth 100000
noncomputable section
theorem RA {sg:List UInt8} {r:Rg} {a:Int} {s:TS} (h:0<=a):0<=(fS sg r a s).2.2.1:=by
 unfold fS
 repeat' split
 all_goals first|exact h|exact Int.le_refl 0
theorem CZ {sg:List UInt8} {r:Rg} {a num n:Int} {s:TS} (h:0<=a) (h2:0<=num):0<=(dg sg r a num n s).2.2.1:=by
 unfold dg
 repeat' split
 all_goals first|exact h|exact h2|exact Int.le_refl 0
theorem Zn {l:List Tok} {sg:List UInt8} {a b:Int} {s:TS} (h:0<=a):0<=(fL rp l sg a b s).2.2.1:=by
 have h2:0<=a+2:=by omega
 unfold fL
 repeat' split
 all_goals first|exact h|exact RA h|exact CZ h h2|exact CZ h h|exact Int.le_refl 0
theorem JH {l:List Tok} {en:Int} (hel:en<l.length):∀(m:Nat) (sg:List UInt8) (a:Int) (s:TS) (o:jO),0<=a->a<=en->Pp.iG rp l en m sg a s=some o->0<=o.2.2.1
 |0,_,_,_,_,_,_,h=>by cases h
 |
  m+1,sg,a,s,o,h0,h1,h=>by
  obtain ⟨b1,b2⟩:=uU (l:=l) (a:=a) (e:=en) h0 h1 (by omega)
  have hf:=Zn (l:=l) (sg:=sg) (a:=a) (b:=bH l a en) (s:=s) h0;unfold Pp.iG at h;split at h
  .
   split at h
   .
    cases h;exact Int.le_refl 0
   split at h
   .
    exact JH hel m _ _ _ o (by omega) (by omega) h
   cases h
  rename_i x f s' hs;cases h;rw[hs] at hf;exact hf
theorem Zo {l:List Tok} {op en:Int} {s:TS} (h0:0<=op) (h1:op+1<=en) (h2:en<l.length) (hc:aM l en [93]=true):0<=(fT l op en s).2.2.1:=by
 obtain ⟨ce,hce,S7⟩:=eE hc
 have key:∀r:Option jO,(∀o,r=some o->0<=o.2.2.1)->0<=(r.getD (eD s 0 0)).2.2.1:=λr h1=>by
  cases r with
  |none=>exact Int.le_refl 0
  |some o=>exact h1 o rfl
 unfold fT
 refine key _ λo ho=>?_
 split at ho
 .
  rename_i Ro
  have:op+2<=en:=by
   by_cases he:en=op+1
   .
    exfalso;rw[he] at hce;rcases Ro with h|h<;>(obtain ⟨c2,k1,k2⟩:=eE h;rw[hce] at k1;cases k1;rw[Aq S7 (by decide)] at k2;cases k2)
   omega
  exact JH h2 _ _ _ _ o (by omega) this ho
 exact JH h2 _ _ _ _ o (by omega) h1 ho
theorem GU {l:List Tok} {op sz:Int} (h0:0<=op) (h1:op<l.length):0<=(fU l op sz).2.2.2:=by
 unfold fU
 split
 .
  split
  .
   exact Aw _ _
  rename_i he;have he:=Classical.not_not.1 he;obtain ⟨q1,q2⟩:=oD he;split
  .
   exact Int.le_refl 0
  show 0<=(ai l (op+2)).2.1;omega
 split
 .
  show (0:Int)<=l.length;omega
 rename_i en hc
 obtain ⟨c1,c2,c3⟩:=wJ (by omega) (by omega) hc
 have hp:=Zo (s:=NZ) h0 c1 c2 c3
 unfold tF
 repeat' split
 all_goals first|exact hp|exact h0|exact Int.le_refl 0
theorem JI {l:List Tok} {a:Int}:0<=(au l a).2.2.2:=by
 have GQ:0<=(xU (ai l a)).2.2.2:=by
  unfold xU;split
  .
   exact Aw _ _
  exact Int.le_refl 0
 unfold au
 split
 .
  exact Int.le_refl 0
 split
 .
  exact GQ
 rename_i t cw
 have hlt:=(dL cw).2
 split
 .
  exact Int.le_refl 0
 split
 .
  split
  .
   rename_i hs;obtain ⟨c,hc,_⟩:=eE hs;exact GU (by omega) (dL hc).2
  show 0<=a+1;omega
 split
 .
  exact GU (by omega) hlt
 exact GQ
theorem WC {l:List Tok} {op hint:Int} (hl:l.length<=200000):∀(m:Nat) (a:Int) (args:List Raw) (c:xV),GP l op hint m a args=some c->0<=c.2.2.2.2
 |0,_,_,_,h=>by cases h
 |
  m+1,a,args,c,h=>by
  unfold GP at h;split at h
  .
   cases h;exact JI
  rename_i he;have he:=Classical.not_not.1 he;obtain ⟨q0,q1,q2⟩:=xE hl he;have hp:0<=(au l a).2.1:=by omega
  split at h
  .
   cases h;exact Int.le_refl 0
  split at h
  .
   cases h;exact hp
  split at h
  .
   cases h;exact hp
  exact WC hl m _ _ c h
theorem JJ {l:List Tok} {a:Int} (hl:l.length<=200000):0<=(aJ l a).2.2.2.2:=by
 unfold aJ
 split
 .
  exact Int.le_refl 0
 split
 .
  show 0<=a;omega
 unfold M9
 generalize (if lz l a=0 then a+1 else a+2)=b
 by_cases hb:b=(l.length:Int)
 .
  rw[if_pos hb];exact Int.le_refl 0
 rw[if_neg hb]
 cases hc:GP l (CM l a).1 (lz l a) 5 b [] with
 |none=>exact Int.le_refl 0
 |some c=>exact WC hl _ _ _ _ hc
end
end Go.Proofs.YtpaddkkfefgkfaaGreatDoor.ps

namespace Go.Proofs.YtpaddkkfefgkfaaGreatDoor.ps
open Go.Tv Go.Ev Go.Px Go.Pp Go.Proofs.YtpaddkkfefgkfaaGreatDoor.ex
set_option maxRecDepth 100000
def zt (t:Tok):Tok:=(t.1,t.2.1,t.2.2.1,0)
def zl (l:List Tok):List Tok:=l.map zt
theorem mS (l:List Tok):(zl l).length=l.length:=by simp[zl]
theorem kX (l:List Tok) (i:Int):at? (zl l) i=(at? l i).map zt:=by
 cases i with
 |ofNat n=>simp[at?,zl]
 |negSucc n=>rfl
section
variable {nm:List UInt8->Bool} {l:List Tok}
theorem Zp (rec:Int->St->fP) (st:St) (k:St->fP):cY nm (zl l) rec st k=cY nm l rec st k:=by
 unfold cY
 rw[kX]
 cases at? l st.a with
 |none=>rfl
 |
  some t =>
  simp only[Option.map_some];have e1:pP nm (zt t)=pP nm t:=rfl;have e2:pref (zt t)=pref t:=rfl;have e3:iI (zt t) [40]=iI t [40]:=rfl;rw[e1,e2,e3];cases pP nm t with
  |some n=>rfl
  |
   none =>
   cases pref t with
   |some op=>rfl
   |
    none =>
    simp only;by_cases h:iI t [40]=true
    .
     rw[if_pos h,if_pos h];refine congrArg (iJ st) (funext λs1=>congrArg (wu (rec 1 s1)) (funext λs2=>?_))
     rw[kX];cases at? l s2.a<;>rfl
    rw[if_neg h,if_neg h]
theorem RB (rec:Int->St->fP) (str:Int):∀n:Nat,bE (zl l) rec str n=bE l rec str n
 |0=>rfl
 |
  n+1=>by
  funext st
  unfold bE;rw[kX,RB rec str n];cases at? l st.a with
  |none=>rfl
  |some t=>rfl
theorem Lg:∀k:Nat,av nm (zl l) k=av nm l k
 |0=>rfl
 |
  k+1=>by
  funext str st
  show cY nm (zl l) (av nm (zl l) k) st (bE (zl l) (av nm (zl l) k) str ((zl l).length+1))=cY nm l (av nm l k) st (bE l (av nm l k) str (l.length+1));rw[Lg k,mS,Zp,RB]
theorem U9 (a:Int):fB nm (zl l) a=fB nm l a:=by
 unfold fB
 rw[mS,Lg]
end
theorem uW (l:List Tok) (a:Int):ai (zl l) a=ai l a:=by unfold ai;rw[U9]
def zS (s:TS):TS:={ s with put:=zl s.put }
def zO (o:jO):jO:=(o.1,o.2.1,o.2.2.1,zS o.2.2.2)
theorem nN (a b:List Tok):zl (a++b)=zl a++zl b:=by simp[zl]
theorem Az (s:List UInt8):zl [dN s]=[dN s]:=rfl
theorem adC (l:List Tok) (a b:Int):Eg (zl l) a b=zl (Eg l a b):=by
 unfold Eg zl
 rw[List.map_take,List.map_drop]
theorem lV (l:List Tok) (a:Int) (s:List UInt8):aM (zl l) a s=aM l a s:=by
 unfold aM
 rw[kX]
 cases at? l a<;>rfl
theorem Er (l:List Tok) (sg:List UInt8) (a b:Int) (s:TS):kg (zl l) sg a b (zS s)=zO (kg l sg a b s):=by
 unfold kg okO zO zS
 simp only
 have hp:(zl s.put≠[])↔s.put≠[]:=by unfold zl;simp
 rw[adC]
 by_cases h:sg=[45]\/s.put≠[]
 .
  rw[if_pos h,if_pos (h.imp id hp.2),nN,nN,nN,nN,Az,Az,Az]
 rw[if_neg h,if_neg (λq=>h (q.imp id hp.1)),nN,nN,nN,Az,Az]
theorem Lh (sg:List UInt8) (r:Rg) (a:Int) (s:TS):fS sg r a (zS s)=zO (fS sg r a s):=by
 unfold fS
 show (if sg=[45] then eD (zS s) 2 a else if s.bc=0/\s.bn=0 then _ else if s.ic=0/\s.ix=0 then _ else _)=_
 repeat' split
 all_goals rfl
theorem RC (sg:List UInt8) (r:Rg) (a num n:Int) (s:TS):dg sg r a num n (zS s)=zO (dg sg r a num n s):=by
 unfold dg
 show (if sg=[45]\/¬(s.ic=0/\s.ix=0) then eD (zS s) 2 a else if jJ n=true then _ else _)=_
 repeat' split
 all_goals rfl
theorem RD (t:Tok):iK rp (zt t)=iK rp t:=rfl
theorem adD (l:List Tok) (sg:List UInt8) (a b:Int) (s:TS):fL rp (zl l) sg a b (zS s)=zO (fL rp l sg a b s):=by
 unfold fL
 by_cases h0:b-a=0
 .
  rw[if_pos h0,if_pos h0];rfl
 rw[if_neg h0,if_neg h0]
 by_cases h1:b-a=1
 .
  rw[if_pos h1,if_pos h1,kX];cases at? l a with
  |none=>rfl
  |
   some t =>
   simp only[Option.map_some];have e1:gK (zt t) [114,105,112]=gK t [114,105,112]:=rfl;rw[e1,RD];by_cases h2:gK t [114,105,112]=true
   .
    rw[if_pos h2,if_pos h2,Lh]
   rw[if_neg h2,if_neg h2];cases iK rp t with
   |some r=>exact Lh _ _ _ _
   |none=>exact Er _ _ _ _ _
 rw[if_neg h1,if_neg h1,lV]
 by_cases h3:b-a=3/\aM l (a+1) [42]=true
 .
  rw[if_pos h3,if_pos h3,kX,kX];cases at? l a with
  |none=>rfl
  |
   some t =>
   cases at? l (a+2) with
   |none=>rfl
   |
    some u =>
    simp only[Option.map_some];rw[RD,RD];have e1:(zt t).1=t.1:=rfl;have e2:(zt u).1=u.1:=rfl;have e3:(zt t).2.1=t.2.1:=rfl;have e4:(zt u).2.1=u.2.1:=rfl;rw[e1,e2,e3,e4,Er];cases iK rp t<;>cases iK rp u<;>simp only<;>(repeat' split)<;>first|rfl|exact RC _ _ _ _ _ _
 rw[if_neg h3,if_neg h3];exact Er _ _ _ _ _
theorem yw (e:Int):∀(r:List Tok) (p:Tok) (a d:Int),jR e (zt p) (zl r) a d=jR e p r a d
 |[],_,_,_=>rfl
 |
  t::r,p,a,d=>by
  show jR e (zt p) (zt t::zl r) a d=_;unfold jR;rw[yw e r t,yw e r t,yw e r t];rfl
theorem Va (l:List Tok) (a e:Int):bH (zl l) a e=bH l a e:=by
 unfold bH
 rw[kX]
 have h1:((at? l (a-1)).map zt).getD Bx=zt ((at? l (a-1)).getD Bx):=by cases at? l (a-1)<;>rfl
 have h2:((zl l).take e.toNat).drop a.toNat=zl ((l.take e.toNat).drop a.toNat):=by unfold zl;rw[List.map_drop,List.map_take]
 rw[h1,h2,yw]
theorem uX:∀(r:List Tok) (a d:Int),gL (zl r) a d=gL r a d
 |[],_,_=>rfl
 |
  t::r,a,d=>by
  show gL (zt t::zl r) a d=_;unfold gL;rw[uX r,uX r,uX r];rfl
theorem RF (l:List Tok) (a:Int):ep (zl l) a=ep l a:=by
 unfold ep
 rw[show (zl l).drop a.toNat=zl (l.drop a.toNat) by unfold zl;rw[List.map_drop],uX]
theorem JK (l:List Tok) (e:Int):∀(n:Nat) (sg:List UInt8) (a:Int) (s:TS),Pp.iG rp (zl l) e n sg a (zS s)=(Pp.iG rp l e n sg a s).map zO
 |0,_,_,_=>rfl
 |
  n+1,sg,a,s=>by
  unfold Pp.iG;rw[Va,adD,kX];cases h:fL rp l sg a (bH l a e) s with
  |
   mk b q =>
   obtain ⟨x,f,s'⟩:=q;cases b with
   |false=>rfl
   |
    true =>
    show (if bH l a e=e then _ else _)=_;by_cases h1:bH l a e=e
    .
     rw[if_pos h1];simp only;rw[if_pos h1];rfl
    rw[if_neg h1];simp only;rw[if_neg h1];cases at? l (bH l a e) with
    |none=>rfl
    |some t=>exact JK l e n _ _ s'
theorem Zq (l:List Tok) (op en:Int) (s:TS):fT (zl l) op en (zS s)=zO (fT l op en s):=by
 unfold fT
 rw[lV,lV,mS,kX]
 have h1:(((at? l (op+1)).map zt).getD Bx).2.2.1=((at? l (op+1)).getD Bx).2.2.1:=by cases at? l (op+1)<;>rfl
 have h2:∀r:Option jO,(r.map zO).getD (eD (zS s) 0 0)=zO (r.getD (eD s 0 0)):=λr=>by cases r<;>rfl
 rw[h1,JK,JK]
 split<;>exact h2 _
theorem Zr (l:List Tok) (op en sz:Int) (o:jO):tF (zl l) op en sz (zO o)=tF l op en sz o:=by
 obtain ⟨b,x,f,s⟩:=o
 unfold tF zO zS
 simp only
 rw[uW,mS]
 have hp:(zl s.put=[])↔s.put=[]:=by unfold zl;simp
 by_cases h:s.put=[]
 .
  rw[if_pos h,if_pos (hp.2 h)];rfl
 rw[if_neg h,if_neg (λq=>h (hp.1 q))];rfl
theorem Vb (l:List Tok) (op sz:Int):fU (zl l) op sz=fU l op sz:=by
 unfold fU
 rw[kX,uW,lV,RF,mS]
 have h1:gK (((at? l (op+1)).map zt).getD Bx) [114,101,108]=gK ((at? l (op+1)).getD Bx) [114,101,108]:=by cases at? l (op+1)<;>rfl
 rw[h1]
 split
 .
  rfl
 cases ep l (op+1) with
 |none=>rfl
 |
  some en =>
  show tF (zl l) op en sz (fT (zl l) op en (zS NZ))=_;rw[Zq,Zr]
theorem Ng (l:List Tok) (a:Int):au (zl l) a=au l a:=by
 unfold au
 rw[kX,uW,lV,lV,mS]
 simp only[Vb]
 cases at? l a<;>rfl
theorem adE (l:List Tok) (a:Int):CM (zl l) a=CM l a:=by
 unfold CM
 rw[kX]
 cases at? l a<;>rfl
theorem Zs (l:List Tok) (a:Int):lz (zl l) a=lz l a:=by
 unfold lz
 rw[kX]
 cases at? l (a+1)<;>rfl
theorem WD (l:List Tok) (op hint:Int):∀(n:Nat) (a:Int) (args:List Raw),GP (zl l) op hint n a args=GP l op hint n a args
 |0,_,_=>rfl
 |
  n+1,a,args=>by
  unfold GP;rw[Ng,lV,mS,WD l op hint n]
theorem wL (l:List Tok) (a:Int):aJ (zl l) a=aJ l a:=by
 unfold aJ M9
 rw[adE,Zs,mS,WD]
end Go.Proofs.YtpaddkkfefgkfaaGreatDoor.ps

namespace Go.Proofs.YtpaddkkfefgkfaaGreatDoor.ps
open Go.Tv Go.Ev Go.Px Go.Pp Go.Proofs.YtpaddkkfefgkfaaGreatDoor.ex
set_option maxRecDepth 100000
noncomputable section
abbrev LR:=Bool×RS
def eH (l:List Tok) (a:Int):Option (List UInt8):=match at? l a with
 |some t=>if t.1=1 then some t.2.2.1 else none
 |none=>none
def pQ:List UInt8:=[101,113,117]
def wM:List UInt8:=[116,105,109,101,115]
def uY:List UInt8:=[111,114,103]
def dF:List UInt8:=[115,116,114,117,99]
def qR:List UInt8:=[101,110,100,115,116,114,117,99]
def jb:List UInt8:=[97,108,105,103,110]
def adF:List UInt8:=[100,99,120]
def nC:List (List UInt8):=[[100,98],[100,119],[100,100],[100,113]]
def Zt:List (List UInt8):=[[114,101,115,98],[114,101,115,119],[114,101,115,100],[114,101,115,113]]
section
variable (n:Int) (l:List Tok)
def rY (i:Int) (s:RS) (k:RS->LR):LR:=match eH l i with
 |none=>cy n l s 4 i
 |some t=>if lt.fR t=true then cy n l s 7 i else k { s with lab:=t }
def uZ (s:RS):LR:=if s.a=l.length then (true,s) else cy n l s 4 s.a
def qT (kind:Int) (s:RS):LR:=HS n l { s with kind:=kind } λx e=>uZ n l { s with kind:=kind,x:=x,a:=e }
def Zu (s:RS):LR:=rY n l 0 s λs=>qT n l 3 { s with a:=2 }
def GV (s:RS):LR:=qT n l 8 { s with sz:=nB (eu l s.a),a:=s.a+1 }
def Es (s:RS):LR:=rY n l (s.a+1) { s with kind:=6 } λs=>uZ n l { s with a:=s.a+2 }
def RG (s:RS):LR:=uZ n l { s with kind:=7,a:=s.a+1 }
def RH (s:RS):LR:=if (aJ l s.a).2.2.2.1≠0 then cy n l s (aJ l s.a).2.2.2.1 (aJ l s.a).2.2.2.2
 else (true,{ s with kind:=1,op:=(aJ l s.a).1,hint:=(aJ l s.a).2.1,args:=(aJ l s.a).2.2.1 })
def dh (w:List UInt8) (s:RS):LR :=
 if w∈nC then uV n l s
 else if w∈Zt then GV n l s
 else if w=jb then qT n l 4 { s with a:=s.a+1 }
 else if w=uY then qT n l 5 { s with a:=s.a+1 }
 else if w=dF then Es n l s
 else if w=qR then RG n l s
 else if w=adF then Nf n l s
 else if (nm.dP w).2=true then RH n l s
 else cy n l s 4 s.a
def Et (w:List UInt8) (aR:Bool) (s:RS):LR :=
 if (w=uY\/w=dF\/w=qR)/\(aR=true\/s.lab≠[]) then cy n l s 4 s.a
 else if w=jb/\aR=true then cy n l s 4 s.a
 else dh n l w s
def gZ (aR:Bool) (s:RS):LR :=
 if s.a=l.length then (if aR=true then cy n l s 4 s.a else (true,s))
 else match eH l s.a with
  |none=>cy n l s 4 s.a
  |some w=>Et n l w aR s
def fW (s:RS):LR :=
 if eH l s.a=some wM then HS n l { s with a:=s.a+1 } λx e=>gZ n l true { s with times:=x,a:=e } else gZ n l false s
def cF (s:RS):LR :=
 if eH l 1=some pQ then Zu n l s
 else if (eH l 0).isSome=true/\aM l 1 [58]=true then rY n l 0 s λs=>fW n l { s with a:=2 }
 else fW n l s
end
def ei:RS:=⟨0,[],0,0,0,0,[],[],[],[],0,0⟩
def ck (s:List UInt8):RS×Int×Int :=
 if (lt.aG s).2.1≠0 then (ei,(lt.aG s).2.1,(lt.aG s).2.2)
 else if (cF s.length (lt.aG s).1 ei).1=true then ((cF s.length (lt.aG s).1 ei).2,0,0)
 else (ei,(cF s.length (lt.aG s).1 ei).2.e,(cF s.length (lt.aG s).1 ei).2.f)
def zR (r:LR):LR:=(r.1,{ r.2 with f:=0 })
theorem agV (n n':Int) (l l':List Tok) (s:RS) (e i:Int):zR (cy n l s e i)=zR (cy n' l' s e i):=rfl
section
variable {n n':Int} {l:List Tok}
theorem AA (a:Int):eH (zl l) a=eH l a:=by
 unfold eH
 rw[kX]
 cases at? l a<;>rfl
theorem RI (a:Int):mR (zl l) a=mR l a:=by
 unfold mR
 rw[kX]
 cases at? l a<;>rfl
theorem GW (a:Int):eu (zl l) a=eu l a:=by
 unfold eu
 rw[kX]
 cases at? l a<;>rfl
theorem Li {s:RS} {go go':List Nd->Int->LR} (h:∀x e,zR (go x e)=zR (go' x e)):zR (HS n (zl l) s go)=zR (HS n' l s go'):=by
 unfold HS
 rw[uW]
 split
 .
  rfl
 exact h _ _
theorem RJ {fin:Bool} {J J':RS->LR} (h:∀s,zR (J s)=zR (J' s)) {s:RS}:zR (xX n (zl l) fin J s)=zR (xX n' l fin J' s):=by
 unfold xX
 rw[mS,lV]
 split
 .
  rfl
 split
 .
  exact h _
 rfl
theorem Zv:∀(m:Nat) (s:RS),zR (Lf n (zl l) m s)=zR (Lf n' l m s)
 |0,s=>rfl
 |
  m+1,s=>by
  unfold Lf;rw[RI];split
  .
   rfl
  split
  .
   exact RJ (Zv m)
  exact Li λx e=>RJ (Zv m)
theorem adG:∀(m:Nat) (s:RS),zR (Ta n (zl l) m s)=zR (Ta n' l m s)
 |0,s=>rfl
 |
  m+1,s=>by
  unfold Ta;split
  .
   rfl
  exact Li λx e=>RJ (adG m)
theorem RK {i:Int} {s:RS} {k k':RS->LR} (h:∀s,zR (k s)=zR (k' s)):zR (rY n (zl l) i s k)=zR (rY n' l i s k'):=by
 unfold rY
 rw[AA]
 split
 .
  rfl
 split
 .
  rfl
 exact h _
theorem RM (s:RS):zR (uZ n (zl l) s)=zR (uZ n' l s):=by
 unfold uZ
 rw[mS]
 split<;>rfl
theorem Eu (kind:Int) (s:RS):zR (qT n (zl l) kind s)=zR (qT n' l kind s):=Li λx e=>RM _
theorem Zw (w:List UInt8) (s:RS):zR (dh n (zl l) w s)=zR (dh n' l w s):=by
 unfold dh
 split
 .
  unfold uV;rw[GW];exact Zv _ _
 split
 .
  unfold GV;rw[GW];exact Eu _ _
 split
 .
  exact Eu _ _
 split
 .
  exact Eu _ _
 split
 .
  exact RK λs=>RM _
 split
 .
  exact RM _
 split
 .
  exact adG _ _
 split
 .
  unfold RH;rw[wL];split<;>rfl
 rfl
theorem RN (aR:Bool) (s:RS):zR (gZ n (zl l) aR s)=zR (gZ n' l aR s):=by
 unfold gZ
 rw[mS,AA]
 split
 .
  split<;>rfl
 split
 .
  rfl
 unfold Et
 split
 .
  rfl
 split
 .
  rfl
 exact Zw _ _
theorem Lj (s:RS):zR (fW n (zl l) s)=zR (fW n' l s):=by
 unfold fW
 rw[AA]
 split
 .
  exact Li λx e=>RN _ _
 exact RN _ _
theorem RO (s:RS):zR (cF n (zl l) s)=zR (cF n' l s):=by
 unfold cF
 rw[AA,AA,lV]
 split
 .
  exact RK λs=>Eu _ _
 split
 .
  exact RK λs=>Lj _
 exact Lj _
end
theorem C3 {n n':Int} {l l':List Tok} (h:zl l=zl l') (s:RS):zR (cF n l s)=zR (cF n' l' s):=by
 rw[<-RO (n:=0) (n':=n) (l:=l) s,h,RO (n:=0) (n':=n')]
end
end Go.Proofs.YtpaddkkfefgkfaaGreatDoor.ps

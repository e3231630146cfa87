/- Lines: what a reader has; pieces of data. A function from one place of its code to a later one. Lines: data, powers: contracts. Lines: where the faults of instructions are. What is read hangs not on where tokens stand: expressions, operands, instructions. Lines: what reading one comes to. -/
import Derived.Test.YtpaddkkfefgkfaaGreatDoorGre
import Derived.Test.YtpaddkkfefgkfaaGreatDoorLyg
set_option linter.unusedVariables false
set_option linter.unusedSimpArgs false

namespace Go.Proofs.YtpaddkkfefgkfaaGreatDoor.ps
open Go.Tv Go.Ev Go.Px Go.Pp Go.Proofs.YtpaddkkfefgkfaaGreatDoor.ex
set_option maxRecDepth 100000
noncomputable section
abbrev Dt:=List UInt8×List Nd
abbrev ot:Tv.Ty:=.pair .str (.sl bB)
structure RS where
 a:Int
 lab:List UInt8
 kind:Int
 sz:Int
 op:Int
 hint:Int
 args:List Raw
 data:List Dt
 x:List Nd
 times:List Nd
 e:Int
 f:Int
def WA (n:Int) (l:List Tok) (s:RS) (A:AV):List bu:=[.val (.int .i64 n),.val (.bF aC l),.val (.int .i64 s.a),.val (.str s.lab),.val (.int .i64 s.kind),.val (.int .i64 s.sz),.val (.int .i64 s.op),.val (.int .i64 s.hint),.val A,.list 52 ot s.data,.list 50 bB s.x,.list 50 bB s.times,.val (.int .i64 s.e),.val (.int .i64 s.f)]
abbrev Cz (n:Int) (l:List Tok) (s:RS):List bu:=WA n l s .bK
abbrev Zj (n:Int) (l:List Tok) (s:RS):List bu:=WA n l s (.bF fQ s.args)
def aee:List (Option (TypeId×Tv.Ty)):=[none,none,none,none,none,none,none,none,none,some (52,ot),some (50,bB),some (50,bB),none,none]
def aef:List (Option Tv.Ty):=[none,none,none,none,none,none,none,none,some fQ]
abbrev Zk:=Int->List Tok->RS->Option (Bool×Bool×RS)
def gRd (F:Zk) (ins:List bu):Option (Bool×List bu×List bu) :=
 match ins with
 |
  [.val (.int .i64 n),.val (.bF e0 l0),.val (.int .i64 a),.val (.str lab),.val (.int .i64 kind),.val (.int .i64 sz),.val (.int .i64 op),.val (.int .i64 hint),.val .bK,.list t1 e1 d,.list t2 e2 x,.list t3 e3 tm,.val (.int .i64 e),.val (.int .i64 f)] =>
  match eP e0 aC l0,eP e1 ot d,eP e2 bB x,eP e3 bB tm with
  |
   some l,some d,some x,some tm=>match F n l ⟨a,lab,kind,sz,op,hint,[],d,x,tm,e,f⟩ with
   |some (c,b,s')=>some (c&&(Nat.beq t1 52&&Nat.beq t2 50&&Nat.beq t3 50&&d.isEmpty&&x.isEmpty),Zj n l s',[.val (.bool b)])
   |none=>none
  |_,_,_,_=>none
 |_=>none
def Zl (F:Zk):xE:=⟨some (126,aee),[],gRd F⟩
theorem UI {F:Zk} {ins outs rs:List bu} (h:gRd F ins=some (true,outs,rs)):∃n l s b s',ins=Cz n l s/\s.args=[]/\s.data=[]/\s.x=[]/\F n l s=some (true,b,s')/\outs=Zj n l s'/\rs=[.val (.bool b)]:=by
 unfold gRd at h
 split at h
 case h_2=>cases h
 rename_i n e0 l0 a lab kind sz op hint t1 e1 d t2 e2 x t3 e3 tm e f
 split at h
 case h_2=>cases h
 rename_i l d' x' tm' h0 h1 h2 h3
 split at h
 case h_2=>cases h
 rename_i c b s' hF
 simp only[Option.some.injEq,Prod.mk.injEq,Bool.and_eq_true] at h
 obtain ⟨⟨hc,⟨⟨⟨g1,g2⟩,g3⟩,g4⟩,g5⟩,rfl,rfl⟩:=h
 subst hc
 obtain rfl:=Nat.eq_of_beq_eq_true g1
 obtain rfl:=Nat.eq_of_beq_eq_true g2
 obtain rfl:=Nat.eq_of_beq_eq_true g3
 obtain ⟨rfl,h0⟩:=aS h0
 obtain ⟨rfl,h1⟩:=aS h1
 obtain ⟨rfl,h2⟩:=aS h2
 obtain ⟨rfl,h3⟩:=aS h3
 have h0:l0=l:=h0
 have h1:d=d':=h1
 have h2:x=x':=h2
 have h3:tm=tm':=h3
 subst h0;subst h1;subst h2;subst h3
 have hd:d=[]:=List.isEmpty_iff.1 g4
 have hx:x=[]:=List.isEmpty_iff.1 g5
 subst hd;subst hx
 exact ⟨n,l0,⟨a,lab,kind,sz,op,hint,[],[],[],tm,e,f⟩,b,s',rfl,rfl,rfl,rfl,hF,rfl,rfl⟩
abbrev rF:AV->aa->aH:=KP 126 aef aee [none]
def Ae (b:Bool) (n:Int) (l:List Tok) (s:RS) (nd nx nt:Nat):aH:=some (Zj n l s++[.val (.bool b)],[nd,nx,nt])
theorem Jh {id:FuncId} (hk:lt.inl id=true) {M:List nY} {N:List gJ} (hM:cr X0 cg M) (hN:bS X0 cg N) {F:Zk}
 (h:∀n l s b s',s.args=[]->s.data=[]->s.x=[]->F n l s=some (true,b,s')->∃(an:bG) (rounds:Nat),ag X0 (cN M N _) an rounds id [.ptr 0 0] (ct 126 14 (Cz n l s)) rF=Ae b n l s' s'.data.length s'.x.length s'.times.length) :
 bh X0 cg id (Zl F) :=
 Gx (nk hk) (cV hM hN) aef (mK:=[none]) λins outs rs hg hl=>by
  obtain ⟨n,l,s,b,s',rfl,h1,h2,h3,hF,rfl,rfl⟩:=UI hg;obtain ⟨an,rounds,hrun⟩:=h n l s b s' h1 h2 h3 hF;exact ⟨an,rounds,_,hrun,rfl⟩
section
variable (n:Int) (l:List Tok)
def GC (i:Int):Int:=match at? l i with
 |some t=>t.2.2.2
 |none=>n
def cz (s:RS) (e i:Int):Bool×RS:=(false,{ s with e:=e,f:=GC n l i })
def rG (i:Int) (k:Tok->aH):aH:=Option.rec (motive:=λ_=>aH) none k (aI l i)
def gq (s:RS) (nd nx nt:Nat) (e i:Int):aH:=pick2 (ltI i l.length) (rG l i λy=>Ae false n l { s with e:=e,f:=y.2.2.2 } nd nx nt) (Ae false n l { s with e:=e,f:=n } nd nx nt)
def Zm (a k:Int) (t:List UInt8) (no yes:aH):aH:=pick2 (ltI a l.length) (rG l a λy=>pick2 (eqI y.1 k) (rG l a λy=>pick2 (!decide (y.2.2.1=t)) no yes) no) no
end
def Good (r:fP):Prop:=∀b st,r=some (b,st)->(b=true->0<=st.a)/\(b=false->0<=st.f)
theorem lQ {st:St} {e f:Int} (h:0<=f):Good (uu st e f):=λb s hs=>by
 cases hs
 exact ⟨λh=>(by cases h),λ_=>h⟩
theorem vZ {st:St} {n:Nd} {f:Int} {k:St->fP} (hf:0<=f) (hk:Good (k { st with x:=st.x++[n] })):Good (mz st n f k):=by
 unfold mz
 split
 .
  exact lQ hf
 exact hk
theorem CA {st:St} {k:St->fP} (hf:0<=st.a) (hk:Good (k { st with d:=st.d+1,a:=st.a+1 })):Good (mA st k):=by
 unfold mA
 split
 .
  exact lQ hf
 exact hk
theorem D5 {r:fP} {k:St->fP} (hr:Good r) (hk:∀s,0<=s.a->Good (k s)):Good (IV r k):=by
 unfold IV
 split
 .
  rename_i st;exact hk st ((hr true st rfl).1 rfl)
 .
  rename_i st;intro b s hs;cases hs;exact ⟨λh=>(by cases h),λ_=>(hr false st rfl).2 rfl⟩
 intro b s hs;cases hs
theorem MH {l:List Tok} {rec:Int->St->fP} {k:St->fP} (hrec:∀s st,0<=st.a->Good (rec s st)) (hk:∀s,0<=s.a->Good (k s)) {st:St} (h:0<=st.a):Good (kX ay l rec st k):=by
 have h1:0<=st.a+1:=by omega
 unfold kX
 split
 .
  exact lQ h
 split
 .
  exact vZ h (hk _ h1)
 split
 .
  refine CA h (D5 (hrec _ _ h1) λs hs=>?_)
  split
  .
   exact hk _ hs
  exact vZ h (hk _ hs)
 split
 .
  refine CA h (D5 (hrec _ _ h1) λs hs=>?_)
  split
  .
   exact lQ hs
  split
  .
   exact hk _ (by show 0<=s.a+1;omega)
  exact lQ hs
 exact lQ h
theorem CB {l:List Tok} {rec:Int->St->fP} (hrec:∀s st,0<=st.a->Good (rec s st)) (str:Int):∀(n:Nat) (st:St),0<=st.a->Good (fC l rec str n st)
 |0,st,h=>λb s hs=>by cases hs
 |
  n+1,st,h=>by
  have ok:Good (some (true,st)):=λb s hs=>by
   cases hs;exact ⟨λ_=>h,λh=>(by cases h)⟩
  unfold fC;split
  .
   exact ok
  split
  .
   exact ok
  exact D5 (hrec _ _ (by show 0<=st.a+1;omega)) λs hs=>vZ h (CB hrec str n _ hs)
theorem s7 (l:List Tok):∀(k:Nat) (str:Int) (st:St),0<=st.a->Good (bw ay l k str st)
 |0,_,_,_=>λb s hs=>by cases hs
 |k+1,str,st,h=>MH (s7 l k) (CB (s7 l k) str _) h
theorem Af (l:List Tok) (a:Int):0<=(ai l a).2.2.2:=by
 obtain ⟨r,hr⟩:=mD (nm:=ay) l a
 have e1:ai l a=r:=by unfold ai;rw[hr];rfl
 rw[e1]
 unfold jQ at hr
 split at hr
 .
  cases hr;exact Int.le_refl 0
 rename_i h0
 split at hr
 .
  cases hr;exact Int.le_refl 0
 .
  rename_i st hc;cases hr;exact (s7 l _ 1 ⟨a,0,[],0,0⟩ (by show 0<=a;omega) false st hc).2 rfl
 cases hr
section
variable {n:Int} {l:List Tok}
theorem qA {s:RS} {nd nx nt:Nat} {e i:Int} (h:0<=i):gq n l s nd nx nt e i=Ae false n l (cz n l s e i).2 nd nx nt:=by
 unfold gq cz GC rG
 rw[aW,getI_at?]
 cases cH:at? l i with
 |none=>have:=dA h cH;rw[if_neg (by omega)]
 |some t=>rw[if_pos (dm cH).2]
theorem Zn {a:Int} {t:List UInt8} {no yes:aH} (h:0<=a):Zm l a 4 t no yes=if aX l a t=true then yes else no:=by
 unfold Zm rG aX
 rw[aW,getI_at?]
 cases cH:at? l a with
 |none=>have:=dA h cH;rw[if_neg (by omega)];rfl
 |
  some c =>
  rw[if_pos (dm cH).2];show pick2 (eqI c.1 4) (pick2 (!decide (c.2.2.1=t)) no yes) no=if jw c t=true then yes else no;rw[DY];cases eqI c.1 4<;>cases decide (c.2.2.1=t)<;>rfl
end
def uD (s:List UInt8):Int:=match aI s ((s.length:Int)-1) with
 |some c=>if aF c=98 then 1 else if aF c=119 then 2 else if aF c=100 then 4 else 8
 |none=>8
def gSz (args:List AV):Option (Bool×List bA) :=
 match args with
 |[.str s]=>some (!ltI s.length 1&&Nat.ble s.length 1000000,[.val (.int .i64 (uD s))])
 |_=>none
theorem Zo:aO X0 cg 180 gSz :=
 aJ (nk rfl) (cV xh n0) λargs rs hg=>by
  unfold gSz at hg;split at hg
  .
   rename_i s;simp only[Option.some.injEq,Prod.mk.injEq,Bool.and_eq_true,Bool.not_eq_true'] at hg;obtain ⟨⟨g0,g1⟩,rfl⟩:=hg;have g0:=A9 g0;have g1:=Nat.le_of_ble_eq_true g1;refine ⟨[.int .i64 (uD s)],bV,5,?_,rfl,rfl⟩;have h:ag X0 (cN P2 [] AV) bV 5 180 [.str s] aa.empty (λv _=>some v)=Option.rec (motive:=λ_=>Option AV) none (λc=>pick2 (eqI (aF c) 98) (some (.int .i64 1)) (pick2 (eqI (aF c) 119) (some (.int .i64 2)) (pick2 (eqI (aF c) 100) (some (.int .i64 4)) (some (.int .i64 8))))) (aI s (IntKind.wrap .i64 (s.length-1))):=by kernel_rfl
   rw[h,i64_in (n:=(s.length:Int)-1) (by omega) (by omega)]
   unfold uD;cases hc:aI s ((s.length:Int)-1) with
   |
    none =>
    rw[getI_at?] at hc;have:=dA (by omega) hc
    omega
   |
    some c =>
    simp only[aB];by_cases h1:aF c=98
    .
     rw[if_pos h1,if_pos h1];rfl
    rw[if_neg h1,if_neg h1];by_cases h2:aF c=119
    .
     rw[if_pos h2,if_pos h2];rfl
    rw[if_neg h2,if_neg h2];by_cases h3:aF c=100
    .
     rw[if_pos h3,if_pos h3];rfl
    rw[if_neg h3,if_neg h3];rfl
  cases hg
def P3:List nY:=(180,[none],gSz)::P2
theorem Ag:cr X0 cg P3:=.cons Zo xh
def CC (n:Int) (l:List Tok) (s:RS) (nd nx nt:Nat):aa:=Qk [.cells 126 [.int .i64 n,.bF aC l,.int .i64 s.a,.str s.lab,.int .i64 s.kind,.int .i64 s.sz,.int .i64 s.op,.int .i64 s.hint,.bK,.own 1 nd,.own 2 nx,.own 3 nt,.int .i64 s.e,.int .i64 s.f],.list 52 ot s.data 0 false false,.list 50 bB s.x 0 false false,.list 50 bB s.times 0 false false]
def pDt:List Bool:=[true,true,true,false,false]
def MI:bG:=⟨dG [0] pDt,.none,[]⟩
def Zp (n:Int) (l:List Tok) (r m:Nat) (s:RS) (nd nx nt:Nat):aH:=dH X0 (cN P3 NC _) MI r 149 pDt rF m (hU 45 [(0,.ptr 0 0)]) (CC n l s nd nx nt)
def jDc (n:Int) (l:List Tok) (r m:Nat) (s:RS) (nd nx nt:Nat):aH:=dH X0 (cN P3 NC _) MI r 155 pDt rF m (hU 38 [(0,.ptr 0 0)]) (CC n l s nd nx nt)
def Zq (n:Int) (l:List Tok) (s:RS) (nd nx nt:Nat) (go:List Nd->Int->aH):aH :=
 pick2 (Nat.ble l.length 1000000) (pick2 (!eqI (ai l s.a).2.2.1 0) (gq n l s nd nx nt (ai l s.a).2.2.1 (ai l s.a).2.2.2) (go (ai l s.a).1 (ai l s.a).2.1)) none
def Q5 (n:Int) (l:List Tok) (J:RS->Nat->aH) (s:RS) (nd nx nt:Nat):aH :=
 (λgo:Dt->Int->aH=>(λex:aH=>pick2 (eqI nd 64) (gq n l s nd nx nt 3 s.a) (pick2 (ltI s.a l.length) (rG l s.a λy=>pick2 (eqI y.1 3) (rG l s.a λy=>go (y.2.2.1,[]) (IntKind.wrap .i64 (s.a+1))) ex) ex)) (Zq n l s nd nx nt λx a=>go ([],x) a))
  (λd a=>pick2 (Nat.ble (s.data.length+1) 1000000) (pick2 (eqI a l.length) (Ae true n l { s with a:=a,data:=s.data++[d] } (s.data.length+1) nx nt)
   (Zm l a 4 [44] (gq n l { s with a:=a,data:=s.data++[d] } (s.data.length+1) nx nt 4 a) (J { s with a:=IntKind.wrap .i64 (a+1),data:=s.data++[d] } (s.data.length+1)))) none)
theorem Zr (n:Int) (l:List Tok) (r m:Nat) (a:Int) (lab:List UInt8) (kind sz op hint:Int) (data:List Dt) (x times:List Nd) (e f:Int) (nd nx nt:Nat) :
 Zp n l r (m+1) ⟨a,lab,kind,sz,op,hint,[],data,x,times,e,f⟩ nd nx nt=Q5 n l (λs nd=>Zp n l r m s nd nx nt) ⟨a,lab,kind,sz,op,hint,[],data,x,times,e,f⟩ nd nx nt:=by kernel_rfl
def Q6 (n:Int) (l:List Tok) (J:RS->Nat->aH) (s:RS) (nd nx nt:Nat):aH :=
 pick2 (eqI nd 3) (gq n l s nd nx nt 3 s.a) (Zq n l s nd nx nt λx a=>pick2 (Nat.ble (s.data.length+1) 1000000)
  ((
   λcm:aH=>pick2 (eqI a l.length) (pick2 (ltI 1 ((s.data.length+1:Nat):Int)) (Ae true n l { s with a:=a,data:=s.data++[([],x)] } (s.data.length+1) nx nt) cm) cm)
   (Zm l a 4 [44] (gq n l { s with a:=a,data:=s.data++[([],x)] } (s.data.length+1) nx nt 4 a) (J { s with a:=IntKind.wrap .i64 (a+1),data:=s.data++[([],x)] } (s.data.length+1)))) none)
theorem Zs (n:Int) (l:List Tok) (r m:Nat) (a:Int) (lab:List UInt8) (kind sz op hint:Int) (data:List Dt) (x times:List Nd) (e f:Int) (nd nx nt:Nat) :
 jDc n l r (m+1) ⟨a,lab,kind,sz,op,hint,[],data,x,times,e,f⟩ nd nx nt=Q6 n l (λs nd=>jDc n l r m s nd nx nt) ⟨a,lab,kind,sz,op,hint,[],data,x,times,e,f⟩ nd nx nt:=by kernel_rfl
theorem UJ (n:Int) (l:List Tok) (r:Nat) (a:Int) (lab:List UInt8) (kind sz op hint:Int) (times:List Nd) (e f:Int) :
 ag X0 (cN P3 NC _) MI r 149 [.ptr 0 0] (ct 126 14 (Cz n l ⟨a,lab,kind,sz,op,hint,[],[],[],times,e,f⟩)) rF =
 rG l a λy=>pick2 (!ltI y.2.2.1.length 1&&Nat.ble y.2.2.1.length 1000000) (Zp n l r r ⟨IntKind.wrap .i64 (a+1),lab,2,uD y.2.2.1,op,hint,[],[],[],times,e,f⟩ 0 0 times.length) none:=by kernel_rfl
theorem UK (n:Int) (l:List Tok) (r:Nat) (a:Int) (lab:List UInt8) (kind sz op hint:Int) (times:List Nd) (e f:Int) :
 ag X0 (cN P3 NC _) MI r 155 [.ptr 0 0] (ct 126 14 (Cz n l ⟨a,lab,kind,sz,op,hint,[],[],[],times,e,f⟩)) rF =
 jDc n l r r ⟨IntKind.wrap .i64 (a+1),lab,9,sz,op,hint,[],[],[],times,e,f⟩ 0 0 times.length:=by kernel_rfl
end
end Go.Proofs.YtpaddkkfefgkfaaGreatDoor.ps

namespace Go.Tv
open Go.Ev
noncomputable section
variable {β:Type}
def Rh (X:cI) (call:aT β) (an:bG) (rounds:Nat) (id:FuncId) (p q:List Bool) (k:AV->aa->Option β) (K:cj->aa->Option β) (f:cj) (H:aa):Option β :=
 match X.P.funcs[id]? with
 |
  some fn=>match fn.body with
  |some c=>eE X call an.tr (mg X call an.tr an.ja rounds rounds) rounds (P4 (eG c p) q) (uk (fA an.Fs p)) f H (tW (λf H=>AH (fA (fA an.Fs p) q) f H K) (lC X fn k))
  |none=>none
 |none=>none
theorem Ri:∀(p q:List Bool) (c:Code),um c (p++q)=true->um (eG c p) q=true
 |[],_,_,h=>h
 |false::p,q,c,h=>by cases c<;>cases h
 |
  true::p,q,c,h=>by
  cases c with
  |seq x y=>exact Ri p q y h
  |_=>cases h
theorem sV:∀(p q:List Bool) (c:Code),eG c (p++q)=eG (eG c p) q
 |[],_,_=>rfl
 |d::p,q,c=>sV p q (inside c d)
theorem GG:∀(p q:List Bool) (a:ig),fA a (p++q)=fA (fA a p) q
 |[],_,_=>rfl
 |d::p,q,a=>GG p q (pick2 d a.r a.l)
theorem UN (a:ig) (d:Bool) (q:List Bool):fA (uk a) (d::q)=fA a (d::q):=by
 cases a with
 |none=>rfl
 |node o l r=>rfl
theorem Rj:∀(p q:List Bool) (c:Code),um c (p++q)=true->um c p=true
 |
  [],q,c,h=>by
  cases c with
  |seq x y=>rfl
  |
   _=>cases q with
   |nil=>cases h
   |cons d q=>cases d<;>cases h
 |false::p,q,c,h=>by cases c<;>cases h
 |
  true::p,q,c,h=>by
  cases c with
  |seq x y=>exact Rj p q y h
  |_=>cases h
theorem wg {X:cI} {call:aT β} {an:bG} {rounds:Nat} {id:FuncId} {p q:List Bool} (hp:KD X id (p++(true::q))=true) (k:AV->aa->Option β) (f:cj) (H:aa) :
 codeFrom X call an rounds id p k f H=Rh X call an rounds id p (true::q) k (codeFrom X call an rounds id (p++(true::q)) k) f H:=by
 unfold KD at hp
 unfold Rh
 rw[codeFrom]
 cases hf:X.P.funcs[id]? with
 |none=>rfl
 |
  some fn =>
  rw[hf] at hp;simp only at hp ⊢;cases hb:fn.body with
  |none=>rfl
  |
   some c =>
   rw[hb] at hp;simp only at hp ⊢;have h1:=Ri p (true::q) c hp;rw[x7 X call an.tr _ rounds p c (Rj p (true::q) c hp),sS X call an.tr _ rounds (true::q) (eG c p) h1]
   have e:(λf H=>eE X call an.tr (mg X call an.tr an.ja rounds rounds) rounds (eG (eG c p) (true::q)) (fA (uk (fA an.Fs p)) (true::q)) f H (lC X fn k)) =
    λf H=>AH (fA (fA an.Fs p) (true::q)) f H (codeFrom X call an rounds id (p++(true::q)) k):=by
    funext f H
    rw[UN,vP X call an.tr _ rounds (true::q) (eG c p) h1]
    congr 1
    funext f H
    unfold codeFrom;rw[hf];simp only;rw[hb];simp only;rw[x7 X call an.tr _ rounds (p++(true::q)) c hp,sV,GG]
   rw[e]
end
end Go.Tv

namespace Go.Proofs.YtpaddkkfefgkfaaGreatDoor.ps
open Go.Tv Go.Ev Go.Px Go.Pp Go.Proofs.YtpaddkkfefgkfaaGreatDoor.ex
set_option maxRecDepth 100000
noncomputable section
def bD (n:Int) (l:List Tok) (r:Bool×RS):aH:=Ae r.1 n l r.2 r.2.data.length r.2.x.length r.2.times.length
def MJ (n:Int) (l:List Tok) (s:RS) (go:List Nd->Int->Bool×RS):Bool×RS :=
 if (ai l s.a).2.2.1≠0 then cz n l s (ai l s.a).2.2.1 (ai l s.a).2.2.2 else go (ai l s.a).1 (ai l s.a).2.1
def Bc (n:Int) (l:List Tok) (fin:Bool) (J:RS->Bool×RS) (s:RS):Bool×RS :=
 if s.a=l.length/\fin=true then (true,s) else if aX l s.a [44]=true then J { s with a:=s.a+1 } else cz n l s 4 s.a
def s8 (l:List Tok) (a:Int):Option (List UInt8):=match at? l a with
 |some t=>if t.1=3 then some t.2.2.1 else none
 |none=>none
def Q7 (n:Int) (l:List Tok):Nat->RS->Bool×RS
 |0,s=>(false,s)
 |
  m+1,s=>if s.data.length=64 then cz n l s 3 s.a else match s8 l s.a with
  |some t=>Bc n l true (Q7 n l m) { s with a:=s.a+1,data:=s.data++[(t,[])] }
  |none=>MJ n l s λx e=>Bc n l true (Q7 n l m) { s with a:=e,data:=s.data++[([],x)] }
def UL (n:Int) (l:List Tok):Nat->RS->Bool×RS
 |0,s=>(false,s)
 |m+1,s=>if s.data.length=3 then cz n l s 3 s.a else MJ n l s λx e=>Bc n l (ltI 1 ((s.data.length+1:Nat):Int)) (UL n l m) { s with a:=e,data:=s.data++[([],x)] }
section
variable {n:Int} {l:List Tok}
theorem UM {a:Int} (h0:0<=a) (go:List UInt8->aH) (ex:aH):pick2 (ltI a l.length) (rG l a λy=>pick2 (eqI y.1 3) (rG l a λy=>go y.2.2.1) ex) ex=(match s8 l a with
 |some t=>go t
 |none=>ex):=by
 unfold rG s8
 rw[aW,getI_at?]
 cases cH:at? l a with
 |none=>have:=dA h0 cH;rw[if_neg (by omega)]
 |
  some c =>
  rw[if_pos (dm cH).2];show pick2 (eqI c.1 3) (go c.2.2.1) ex=_;rw[aB];by_cases h:c.1=3
  .
   rw[if_pos h];simp only;rw[if_pos h]
  rw[if_neg h];simp only;rw[if_neg h]
theorem MK {a:Int} {t:List UInt8} (h:s8 l a=some t):a<l.length:=by
 unfold s8 at h
 split at h
 .
  rename_i c hc;exact (dm hc).2
 cases h
theorem Zt (hl:l.length<=200000) {s:RS} {nd nx nt:Nat} (go:List Nd->Int->aH):Zq n l s nd nx nt go=if (ai l s.a).2.2.1≠0 then Ae false n l (cz n l s (ai l s.a).2.2.1 (ai l s.a).2.2.2).2 nd nx nt else go (ai l s.a).1 (ai l s.a).2.1:=by
 unfold Zq
 rw[bO (show l.length<=1000000 by omega)]
 show pick2 (!eqI (ai l s.a).2.2.1 0) _ _=_
 rw[aG,qA (Af l s.a)]
 by_cases h:(ai l s.a).2.2.1=0
 .
  rw[if_pos h,if_neg (show ¬(ai l s.a).2.2.1≠0 from λq=>q h)]
 rw[if_neg h,if_pos h]
theorem D6 (hl:l.length<=200000) {s:RS} {go:List Nd->Int->aH} {goF:List Nd->Int->Bool×RS} (h:∀x e,s.a<e->e<=l.length->go x e=bD n l (goF x e)) :
 Zq n l s s.data.length s.x.length s.times.length go=bD n l (MJ n l s goF):=by
 rw[Zt hl]
 unfold MJ
 by_cases he:(ai l s.a).2.2.1=0
 .
  obtain ⟨h1,h2⟩:=oo he;rw[if_neg (show ¬(ai l s.a).2.2.1≠0 from λq=>q he),if_neg (show ¬(ai l s.a).2.2.1≠0 from λq=>q he)]
  exact h _ _ h1 h2
 rw[if_pos he,if_pos he];rfl
theorem Q8 (hl:l.length<=200000) {s:RS} {fin:Bool} {J:RS->aH} {JF:RS->Bool×RS} (h0:0<=s.a) (h1:s.a<=l.length) (ih:s.a<l.length->J { s with a:=s.a+1 }=bD n l (JF { s with a:=s.a+1 })) :
 (λcm:aH=>pick2 (eqI s.a l.length) (pick2 fin (bD n l (true,s)) cm) cm) (Zm l s.a 4 [44] (gq n l s s.data.length s.x.length s.times.length 4 s.a) (J { s with a:=IntKind.wrap .i64 (s.a+1) }))=bD n l (Bc n l fin JF s):=by
 simp only
 unfold Bc
 rw[Zn h0,qA h0,i64_in (n:=s.a+1) (by omega) (by omega)]
 have hcm:(if aX l s.a [44]=true then J { s with a:=s.a+1 } else Ae false n l (cz n l s 4 s.a).2 s.data.length s.x.length s.times.length)=bD n l (if aX l s.a [44]=true then JF { s with a:=s.a+1 } else cz n l s 4 s.a):=by
  by_cases hs:aX l s.a [44]=true
  .
   rw[if_pos hs,if_pos hs];obtain ⟨c,hc,_⟩:=dR hs;exact ih (dm hc).2
  rw[if_neg hs,if_neg hs];rfl
 rw[hcm,aB]
 by_cases ha:s.a=l.length
 .
  rw[if_pos ha];cases fin with
  |true=>rw[if_pos (show s.a=(l.length:Int)/\true=true from ⟨ha,rfl⟩)]
  |false=>rw[if_neg (show ¬(s.a=l.length/\false=true) from λh=>by cases h.2)]
 rw[if_neg ha,if_neg (show ¬(s.a=l.length/\fin=true) from λh=>ha h.1)]
theorem Ra (hl:l.length<=200000) {r:Nat}:∀(m:Nat) (s:RS),s.args=[]->0<=s.a->s.a<=l.length->s.data.length<=64->65<=s.data.length+m->Zp n l r m s s.data.length s.x.length s.times.length=bD n l (Q7 n l m s)
 |0,s,_,_,_,h1,h2=>by omega
 |
  m+1,⟨a,lab,kind,sz,op,hint,args,data,x,times,e,f⟩,h,h0,h1,h2,h3=>by
  have h:args=[]:=h;subst h;have h0:0<=a:=h0;have h1:a<=l.length:=h1;have h2:data.length<=64:=h2;have h3:65<=data.length+(m+1):=h3;rw[Zr];unfold Q5 Q7;simp only;rw[bO (show data.length+1<=1000000 by omega),aB]
  by_cases h6:data.length=64
  .
   rw[if_pos (show ((data.length:Nat):Int)=64 by omega),if_pos h6,qA h0];rfl
  rw[if_neg (show ¬((data.length:Nat):Int)=64 by omega),if_neg h6]
  have hgo:∀(d:Dt) (b:Int),a<b->b<=l.length->(pick2 true (pick2 (eqI b l.length) (Ae true n l { a:=b,lab:=lab,kind:=kind,sz:=sz,op:=op,hint:=hint,args:=[],data:=data++[d],x:=x,times:=times,e:=e,f:=f } (data.length+1) x.length times.length)
   (Zm l b 4 [44] (gq n l { a:=b,lab:=lab,kind:=kind,sz:=sz,op:=op,hint:=hint,args:=[],data:=data++[d],x:=x,times:=times,e:=e,f:=f } (data.length+1) x.length times.length 4 b)
    (Zp n l r m { a:=IntKind.wrap .i64 (b+1),lab:=lab,kind:=kind,sz:=sz,op:=op,hint:=hint,args:=[],data:=data++[d],x:=x,times:=times,e:=e,f:=f } (data.length+1) x.length times.length))) none) =
   bD n l (Bc n l true (Q7 n l m) { a:=b,lab:=lab,kind:=kind,sz:=sz,op:=op,hint:=hint,args:=[],data:=data++[d],x:=x,times:=times,e:=e,f:=f }):=λd b hb0 AW=>by
   have hlen:(data++[d]).length=data.length+1:=by simp
   have:=Q8 (n:=n) hl (s:={ a:=b,lab:=lab,kind:=kind,sz:=sz,op:=op,hint:=hint,args:=[],data:=data++[d],x:=x,times:=times,e:=e,f:=f }) (fin:=true) (J:=λs=>Zp n l r m s s.data.length s.x.length s.times.length) (JF:=Q7 n l m) (show 0<=b by omega) AW (λhb=>Ra hl m _ rfl (show 0<=b+1 by omega) (show b+1<=l.length by have hb:b<l.length:=hb;omega) (show (data++[d]).length<=64 by omega) (show 65<=(data++[d]).length+m by omega))
   simp only[hlen] at this;rw[<-this];show pick2 (eqI b l.length) (Ae true n l _ (data.length+1) _ _) _=pick2 (eqI b l.length) (Ae true n l _ (data++[d]).length _ _) _;rw[hlen]
  rw[show (IntKind.wrap .i64 (a+1))=a+1 from i64_in (by omega) (by omega)]
  refine (UM (l:=l) h0 (λt=>pick2 true (pick2 (eqI (a+1) l.length) (Ae true n l { a:=a+1,lab:=lab,kind:=kind,sz:=sz,op:=op,hint:=hint,args:=[],data:=data++[(t,[])],x:=x,times:=times,e:=e,f:=f } (data.length+1) x.length times.length)
   (Zm l (a+1) 4 [44] (gq n l { a:=a+1,lab:=lab,kind:=kind,sz:=sz,op:=op,hint:=hint,args:=[],data:=data++[(t,[])],x:=x,times:=times,e:=e,f:=f } (data.length+1) x.length times.length 4 (a+1))
    (Zp n l r m { a:=IntKind.wrap .i64 (a+1+1),lab:=lab,kind:=kind,sz:=sz,op:=op,hint:=hint,args:=[],data:=data++[(t,[])],x:=x,times:=times,e:=e,f:=f } (data.length+1) x.length times.length))) none) _).trans ?_
  cases ht:s8 l a with
  |some t=>exact hgo (t,[]) (a+1) (by omega) (by have:=MK ht;omega)
  |none=>exact D6 (n:=n) hl (s:=⟨a,lab,kind,sz,op,hint,[],data,x,times,e,f⟩) λx' b hb0 AW=>hgo ([],x') b hb0 AW
theorem Rb (hl:l.length<=200000) {r:Nat}:∀(m:Nat) (s:RS),s.args=[]->0<=s.a->s.a<=l.length->s.data.length<=3->4<=s.data.length+m->jDc n l r m s s.data.length s.x.length s.times.length=bD n l (UL n l m s)
 |0,s,_,_,_,h1,h2=>by omega
 |
  m+1,⟨a,lab,kind,sz,op,hint,args,data,x,times,e,f⟩,h,h0,h1,h2,h3=>by
  have h:args=[]:=h;subst h;have h0:0<=a:=h0;have h1:a<=l.length:=h1;have h2:data.length<=3:=h2;have h3:4<=data.length+(m+1):=h3;rw[Zs];unfold Q6 UL;simp only;rw[bO (show data.length+1<=1000000 by omega),aB]
  by_cases h6:data.length=3
  .
   rw[if_pos (show ((data.length:Nat):Int)=3 by omega),if_pos h6,qA h0];rfl
  rw[if_neg (show ¬((data.length:Nat):Int)=3 by omega),if_neg h6]
  refine D6 (n:=n) hl (s:=⟨a,lab,kind,sz,op,hint,[],data,x,times,e,f⟩) λx' b hb0 AW=>?_
  have hlen:(data++[(([],x'):Dt)]).length=data.length+1:=by simp
  have:=Q8 (n:=n) hl (s:={ a:=b,lab:=lab,kind:=kind,sz:=sz,op:=op,hint:=hint,args:=[],data:=data++[([],x')],x:=x,times:=times,e:=e,f:=f }) (fin:=ltI 1 ((data.length+1:Nat):Int)) (J:=λs=>jDc n l r m s s.data.length s.x.length s.times.length) (JF:=UL n l m) (show 0<=b by have hb0:a<b:=hb0;omega) AW (λhb=>Rb hl m _ rfl (show 0<=b+1 by have hb0:a<b:=hb0;omega) (show b+1<=l.length by have hb:b<l.length:=hb;omega) (show (data++[([],x')]).length<=3 by omega) (show 4<=(data++[([],x')]).length+m by omega))
  simp only[hlen] at this;rw[<-this];show pick2 (eqI b l.length) (pick2 _ (Ae true n l _ (data.length+1) _ _) _) _=pick2 (eqI b l.length) (pick2 _ (Ae true n l _ (data++[([],x')]).length _ _) _) _;rw[hlen]
end
def gu (l:List Tok) (a:Int):List UInt8:=match at? l a with
 |some t=>t.2.2.1
 |none=>[]
def WB (l:List Tok) (a:Int):Bool:=Nat.ble l.length 200000 && !ltI a 0&&ltI a l.length
def Ah (n:Int) (l:List Tok) (s:RS):Bool×RS:=Q7 n l 70 { s with a:=s.a+1,kind:=2,sz:=uD (gu l s.a) }
def ML (n:Int) (l:List Tok) (s:RS):Bool×RS:=UL n l 70 { s with a:=s.a+1,kind:=9 }
def FDt:Zk:=λn l s=>some (WB l s.a&&(!ltI (gu l s.a).length 1&&Nat.ble (gu l s.a).length 1000000),Ah n l s)
def FDc:Zk:=λn l s=>some (WB l s.a,ML n l s)
theorem GD {l:List Tok} {a:Int} (h:WB l a=true):l.length<=200000/\0<=a/\a<l.length:=by
 unfold WB at h
 simp only[Bool.and_eq_true,Bool.not_eq_true'] at h
 have h1:=Nat.le_of_ble_eq_true h.1.1
 have h2:=h.1.2
 have h3:=h.2
 rw[ltI_spec] at h2 h3
 refine ⟨h1,?_,?_⟩
 .
  simpa using h2
 simpa using h3
theorem Zu:bh X0 cg 149 (Zl FDt) :=
 Jh rfl Ag Q4 λn l s b s' h1 h2 h3 hF=>by
  obtain ⟨a,lab,kind,sz,op,hint,args,data,x,times,e,f⟩:=s;have h1:args=[]:=h1;have h2:data=[]:=h2;have h3:x=[]:=h3;subst h1;subst h2;subst h3;unfold FDt at hF;simp only[Option.some.injEq,Prod.mk.injEq,Bool.and_eq_true,Bool.not_eq_true'] at hF;obtain ⟨⟨g1,g2,g3⟩,hF⟩:=hF;obtain ⟨g1,g4,g5⟩:=GD g1;refine ⟨MI,70,?_⟩;rw[UJ];unfold rG;rw[getI_at?];obtain ⟨t,ht⟩:=nj g4 g5;rw[ht];have hw:gu l a=t.2.2.1:=by unfold gu;rw[ht]
  rw[hw] at g2 g3;show pick2 (!ltI t.2.2.1.length 1&&Nat.ble t.2.2.1.length 1000000) _ _=_;rw[g2,g3,i64_in (n:=a+1) (by omega) (by omega)]
  have:=Ra (n:=n) g1 (r:=70) 70 ⟨a+1,lab,2,uD t.2.2.1,op,hint,[],[],[],times,e,f⟩ rfl (show 0<=a+1 by omega) (show a+1<=l.length by omega) (by simp) (by simp)
  refine Eq.trans this ?_;have hd:Ah n l ⟨a,lab,kind,sz,op,hint,[],[],[],times,e,f⟩=(b,s'):=hF;unfold Ah at hd;simp only[hw] at hd;rw[hd];rfl
theorem Zv:bh X0 cg 155 (Zl FDc) :=
 Jh rfl Ag Q4 λn l s b s' h1 h2 h3 hF=>by
  obtain ⟨a,lab,kind,sz,op,hint,args,data,x,times,e,f⟩:=s;have h1:args=[]:=h1;have h2:data=[]:=h2;have h3:x=[]:=h3;subst h1;subst h2;subst h3;unfold FDc at hF;simp only[Option.some.injEq,Prod.mk.injEq] at hF;obtain ⟨g1,hF⟩:=hF;obtain ⟨g1,g4,g5⟩:=GD g1;refine ⟨MI,70,?_⟩;rw[UK,i64_in (n:=a+1) (by omega) (by omega)]
  have:=Rb (n:=n) g1 (r:=70) 70 ⟨a+1,lab,9,sz,op,hint,[],[],[],times,e,f⟩ rfl (show 0<=a+1 by omega) (show a+1<=l.length by omega) (by simp) (by simp)
  refine Eq.trans this ?_;have hd:ML n l ⟨a,lab,kind,sz,op,hint,[],[],[],times,e,f⟩=(b,s'):=hF;unfold ML at hd;rw[hd];rfl
def ND:List gJ:=(149,Zl FDt)::(155,Zl FDc)::NC
theorem WC:bS X0 cg ND:=.cons Zu (.cons Zv Q4)
end
end Go.Proofs.YtpaddkkfefgkfaaGreatDoor.ps

namespace Go.Proofs.YtpaddkkfefgkfaaGreatDoor.ps
open Go.Tv Go.Ev Go.Px Go.Pp Go.Proofs.YtpaddkkfefgkfaaGreatDoor.ex
set_option maxRecDepth 100000
noncomputable section
theorem Rc {sg:List UInt8} {r:Rg} {a:Int} {s:TS} (h:0<=a):0<=(fL sg r a s).2.2.1:=by
 unfold fL
 repeat' split
 all_goals first|exact h|exact Int.le_refl 0
theorem CD {sg:List UInt8} {r:Rg} {a num n:Int} {s:TS} (h:0<=a) (h2:0<=num):0<=(cX sg r a num n s).2.2.1:=by
 unfold cX
 repeat' split
 all_goals first|exact h|exact h2|exact Int.le_refl 0
theorem Zw {l:List Tok} {sg:List UInt8} {a b:Int} {s:TS} (h:0<=a):0<=(fS rp l sg a b s).2.2.1:=by
 have h2:0<=a+2:=by omega
 unfold fS
 repeat' split
 all_goals first|exact h|exact Rc h|exact CD h h2|exact CD h h|exact Int.le_refl 0
theorem Ji {l:List Tok} {en:Int} (hel:en<l.length):∀(m:Nat) (sg:List UInt8) (a:Int) (s:TS) (o:jx),0<=a->a<=en->Pp.iK rp l en m sg a s=some o->0<=o.2.2.1
 |0,_,_,_,_,_,_,h=>by cases h
 |
  m+1,sg,a,s,o,h0,h1,h=>by
  obtain ⟨b1,b2⟩:=uB (l:=l) (a:=a) (e:=en) h0 h1 (by omega)
  have hf:=Zw (l:=l) (sg:=sg) (a:=a) (b:=bR l a en) (s:=s) h0;unfold Pp.iK at h;split at h
  .
   split at h
   .
    cases h;exact Int.le_refl 0
   split at h
   .
    exact Ji hel m _ _ _ o (by omega) (by omega) h
   cases h
  rename_i x f s' hs;cases h;rw[hs] at hf;exact hf
theorem Zx {l:List Tok} {op en:Int} {s:TS} (h0:0<=op) (h1:op+1<=en) (h2:en<l.length) (hc:aX l en [93]=true):0<=(fT l op en s).2.2.1:=by
 obtain ⟨ce,hce,SE⟩:=dR hc
 have key:∀r:Option jx,(∀o,r=some o->0<=o.2.2.1)->0<=(r.getD (eS s 0 0)).2.2.1:=λr h1=>by
  cases r with
  |none=>exact Int.le_refl 0
  |some o=>exact h1 o rfl
 unfold fT
 refine key _ λo ho=>?_
 split at ho
 .
  rename_i Zb
  have:op+2<=en:=by
   by_cases he:en=op+1
   .
    exfalso;rw[he] at hce;rcases Zb with h|h<;>(obtain ⟨c2,k1,k2⟩:=dR h;rw[hce] at k1;cases k1;rw[z8 SE (by decide)] at k2;cases k2)
   omega
  exact Ji h2 _ _ _ _ o (by omega) this ho
 exact Ji h2 _ _ _ _ o (by omega) h1 ho
theorem GF {l:List Tok} {op sz:Int} (h0:0<=op) (h1:op<l.length):0<=(gp l op sz).2.2.2:=by
 unfold gp
 split
 .
  split
  .
   exact Af _ _
  rename_i he;have he:=Classical.not_not.1 he;obtain ⟨q1,q2⟩:=oo he;split
  .
   exact Int.le_refl 0
  show 0<=(ai l (op+2)).2.1;omega
 split
 .
  show (0:Int)<=l.length;omega
 rename_i en hc
 obtain ⟨c1,c2,c3⟩:=vY (by omega) (by omega) hc
 have hp:=Zx (s:=KR) h0 c1 c2 c3
 unfold xH
 repeat' split
 all_goals first|exact hp|exact h0|exact Int.le_refl 0
theorem Jj {l:List Tok} {a:Int}:0<=(au l a).2.2.2:=by
 have Ad:0<=(uC (ai l a)).2.2.2:=by
  unfold uC;split
  .
   exact Af _ _
  exact Int.le_refl 0
 unfold au
 split
 .
  exact Int.le_refl 0
 split
 .
  exact Ad
 rename_i t cH
 have hlt:=(dm cH).2
 split
 .
  exact Int.le_refl 0
 split
 .
  split
  .
   rename_i hs;obtain ⟨c,hc,_⟩:=dR hs;exact GF (by omega) (dm hc).2
  show 0<=a+1;omega
 split
 .
  exact GF (by omega) hlt
 exact Ad
theorem WD {l:List Tok} {op hint:Int} (hl:l.length<=200000):∀(m:Nat) (a:Int) (args:List Raw) (c:D3),GB l op hint m a args=some c->0<=c.2.2.2.2
 |0,_,_,_,h=>by cases h
 |
  m+1,a,args,c,h=>by
  unfold GB at h;split at h
  .
   cases h;exact Jj
  rename_i he;have he:=Classical.not_not.1 he;obtain ⟨q0,q1,q2⟩:=xk hl he;have hp:0<=(au l a).2.1:=by omega
  split at h
  .
   cases h;exact Int.le_refl 0
  split at h
  .
   cases h;exact hp
  split at h
  .
   cases h;exact hp
  exact WD hl m _ _ c h
theorem Jk {l:List Tok} {a:Int} (hl:l.length<=200000):0<=(bE l a).2.2.2.2:=by
 unfold bE
 split
 .
  exact Int.le_refl 0
 split
 .
  show 0<=a;omega
 unfold MG
 generalize (if mF l a=0 then a+1 else a+2)=b
 by_cases hb:b=(l.length:Int)
 .
  rw[if_pos hb];exact Int.le_refl 0
 rw[if_neg hb]
 cases hc:GB l (Ew l a).1 (mF l a) 5 b [] with
 |none=>exact Int.le_refl 0
 |some c=>exact WD hl _ _ _ _ hc
end
end Go.Proofs.YtpaddkkfefgkfaaGreatDoor.ps

namespace Go.Proofs.YtpaddkkfefgkfaaGreatDoor.ps
open Go.Tv Go.Ev Go.Px Go.Pp Go.Proofs.YtpaddkkfefgkfaaGreatDoor.ex
set_option maxRecDepth 100000
def zt (t:Tok):Tok:=(t.1,t.2.1,t.2.2.1,0)
def zl (l:List Tok):List Tok:=l.map zt
section
variable {nm:List UInt8->Bool} {l:List Tok}
end
def zS (s:TS):TS:={ s with put:=zl s.put }
def zO (o:jx):jx:=(o.1,o.2.1,o.2.2.1,zS o.2.2.2)
end Go.Proofs.YtpaddkkfefgkfaaGreatDoor.ps

namespace Go.Proofs.YtpaddkkfefgkfaaGreatDoor.ps
open Go.Tv Go.Ev Go.Px Go.Pp Go.Proofs.YtpaddkkfefgkfaaGreatDoor.ex
set_option maxRecDepth 100000
noncomputable section
abbrev LR:=Bool×RS
def lH (l:List Tok) (a:Int):Option (List UInt8):=match at? l a with
 |some t=>if t.1=1 then some t.2.2.1 else none
 |none=>none
def v9:List UInt8:=[101,113,117]
def mG:List UInt8:=[116,105,109,101,115]
def uF:List UInt8:=[111,114,103]
def gw:List UInt8:=[115,116,114,117,99]
def qB:List UInt8:=[101,110,100,115,116,114,117,99]
def iM:List UInt8:=[97,108,105,103,110]
def Jl:List UInt8:=[100,99,120]
def Rd:List (List UInt8):=[[100,98],[100,119],[100,100],[100,113]]
def Zy:List (List UInt8):=[[114,101,115,98],[114,101,115,119],[114,101,115,100],[114,101,115,113]]
section
variable (n:Int) (l:List Tok)
def Bd (i:Int) (s:RS) (k:RS->LR):LR:=match lH l i with
 |none=>cz n l s 4 i
 |some t=>if lt.oO t=true then cz n l s 7 i else k { s with lab:=t }
def Ai (s:RS):LR:=if s.a=l.length then (true,s) else cz n l s 4 s.a
def uG (kind:Int) (s:RS):LR:=MJ n l { s with kind:=kind } λx e=>Ai n l { s with kind:=kind,x:=x,a:=e }
def ahM (s:RS):LR:=Bd n l 0 s λs=>uG n l 3 { s with a:=2 }
def KV (s:RS):LR:=uG n l 8 { s with sz:=uD (gu l s.a),a:=s.a+1 }
def Jm (s:RS):LR:=Bd n l (s.a+1) { s with kind:=6 } λs=>Ai n l { s with a:=s.a+2 }
def Re (s:RS):LR:=Ai n l { s with kind:=7,a:=s.a+1 }
def Rf (s:RS):LR:=if (bE l s.a).2.2.2.1≠0 then cz n l s (bE l s.a).2.2.2.1 (bE l s.a).2.2.2.2
 else (true,{ s with kind:=1,op:=(bE l s.a).1,hint:=(bE l s.a).2.1,args:=(bE l s.a).2.2.1 })
def dK (w:List UInt8) (s:RS):LR :=
 if w∈Rd then Ah n l s
 else if w∈Zy then KV n l s
 else if w=iM then uG n l 4 { s with a:=s.a+1 }
 else if w=uF then uG n l 5 { s with a:=s.a+1 }
 else if w=gw then Jm n l s
 else if w=qB then Re n l s
 else if w=Jl then ML n l s
 else if (nm.eH w).2=true then Rf n l s
 else cz n l s 4 s.a
def Jn (w:List UInt8) (aP:Bool) (s:RS):LR :=
 if (w=uF\/w=gw\/w=qB)/\(aP=true\/s.lab≠[]) then cz n l s 4 s.a
 else if w=iM/\aP=true then cz n l s 4 s.a
 else dK n l w s
def kY (aP:Bool) (s:RS):LR :=
 if s.a=l.length then (if aP=true then cz n l s 4 s.a else (true,s))
 else match lH l s.a with
  |none=>cz n l s 4 s.a
  |some w=>Jn n l w aP s
def jV (s:RS):LR :=
 if lH l s.a=some mG then MJ n l { s with a:=s.a+1 } λx e=>kY n l true { s with times:=x,a:=e } else kY n l false s
def jz (s:RS):LR :=
 if lH l 1=some v9 then ahM n l s
 else if (lH l 0).isSome=true/\aX l 1 [58]=true then Bd n l 0 s λs=>jV n l { s with a:=2 }
 else jV n l s
end
def iF:RS:=⟨0,[],0,0,0,0,[],[],[],[],0,0⟩
def bH (s:List UInt8):RS×Int×Int :=
 if (lt.di s).2.1≠0 then (iF,(lt.di s).2.1,(lt.di s).2.2)
 else if (jz s.length (lt.di s).1 iF).1=true then ((jz s.length (lt.di s).1 iF).2,0,0)
 else (iF,(jz s.length (lt.di s).1 iF).2.e,(jz s.length (lt.di s).1 iF).2.f)
def zR (r:LR):LR:=(r.1,{ r.2 with f:=0 })
section
variable {n n':Int} {l:List Tok}
end
end
end Go.Proofs.YtpaddkkfefgkfaaGreatDoor.ps

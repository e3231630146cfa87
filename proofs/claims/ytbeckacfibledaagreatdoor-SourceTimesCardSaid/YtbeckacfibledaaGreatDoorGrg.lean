/- Lines: reading one, as it runs. -/
import Derived.Test.YtbeckacfibledaaGreatDoorGrf
set_option linter.unusedVariables false
set_option linter.unusedSimpArgs false

namespace Go.Proofs.YtbeckacfibledaaGreatDoor.ps
open Go.Tv Go.Ev Go.Px Go.Pp Go.Proofs.YtbeckacfibledaaGreatDoor.ex
set_option maxRecDepth 100000
noncomputable section
def p3:eJ:=[true,true,true]
def p4:eJ:=[true,true,true,true]
def p8:eJ:=[true,true,true,true,true,true,true,true]
def p9:eJ:=[true,true,true,true,true,true,true,true,true]
def Ef:fe:=⟨tg (iM [0] p3) (tg (iM [0,3] p4) (tg (iM [0,3,4] p8) (iM [0,4] p9))),.none,[]⟩
def fr3:gJ:=lS 143 [(0,.ptr 0 0)]
def fr4 (b:Bool):gJ:=lS 143 [(0,.ptr 0 0),(3,.bool b)]
def fr8 (b:Bool)(w:au):gJ:=lS 143 [(0,.ptr 0 0),(3,.bool b),(4,.str w)]
def fr9 (w:au):gJ:=lS 143 [(0,.ptr 0 0),(4,.str w)]
abbrev cL:dz (eZ×cY):=cN P3 ND _
section
variable (n:Int) (l:aX)
def LF (s:RS)(nd nx a:Nat)(i:Int)(k:au->eW):eW :=
 ah (bN i l.length) (zB l i λy=>ah (!bS y.1 1) (oP n l s nd nx a 4 i) (zB l i λy=>ah (lt.wP y.2.2.1) (oP n l s nd nx a 7 i) (k y.2.2.1))) (oP n l s nd nx a 4 i)
def Ry (s:RS)(nd nx b:Nat):eW:=ah (bS s.a l.length) (GH true n l s nd nx b) (oP n l s nd nx b 4 s.a)
def Jz (aC:Int)(s:RS)(b:Nat):eW:=exT n l { s with aC:=aC } 0 0 b λx e=>Ry n l { s with aC:=aC,x:=x,a:=e } 0 x.length b
def st0 (a:Int)(lab:au)(ai:bz):RS:=⟨a,lab,0,0,0,0,[],[],[],ai,0,0⟩
def dtT (s:RS):eW:=ah (((inL l s.a&&(!bN (iJ l s.a).length 1&&Nat.ble (iJ l s.a).length 2000000))&&true)&&true) (fV n l (yC n l s)) none
def dcT (s:RS):eW:=ah ((inL l s.a&&true)&&true) (fV n l (LA n l s)) none
def rsT (s:RS)(b:Nat):eW:=zB l s.a λy=>ah (!bN y.2.2.1.length 1&&Nat.ble y.2.2.1.length 2000000) (Jz n l 8 { s with sz:=qc y.2.2.1,a:=IntKind.wrap .i64 (s.a+1) } b) none
def alT (aC:Int)(s:RS)(b:Nat):eW:=Jz n l aC { s with a:=IntKind.wrap .i64 (s.a+1) } b
def VJ (s:RS)(b:Nat):eW:=LF n l { s with aC:=6 } 0 0 b (IntKind.wrap .i64 (s.a+1)) λt=>Ry n l { s with aC:=6,lab:=t,a:=IntKind.wrap .i64 (s.a+2) } 0 0 b
def enT (s:RS)(b:Nat):eW:=Ry n l { s with aC:=7,a:=IntKind.wrap .i64 (s.a+1) } 0 0 b
def ajY (s:RS)(b:Nat):eW:=ah (Nat.ble l.length 200000) (ah (!bS (dY l s.a).2.2.2.1 0) (oP n l s 0 0 b (dY l s.a).2.2.2.1 (dY l s.a).2.2.2.2)
 (GH true n l { s with aC:=1,op:=(dY l s.a).1,aM:=(dY l s.a).2.1,args:=(dY l s.a).2.2.1 } 0 0 b)) none
def wsT (w:au)(s:RS)(b:Nat):eW :=
 [(
  [100,98],dtT n l s),([100,119],dtT n l s),([100,100],dtT n l s),([100,113],dtT n l s),([114,101,115,98],rsT n l s b),([114,101,115,119],rsT n l s b),([114,101,115,100],rsT n l s b),([114,101,115,113],rsT n l s b),
  (pV,alT n l 4 s b),(AU,alT n l 5 s b),(qt,VJ n l s b),(xh,enT n l s b),(ajT,dcT n l s)].foldr (λq r=>ah (decide (w=q.1)) q.2 r) (ah (nm.lW w).2 (ajY n l s b) (oP n l s 0 0 b 4 s.a))
end
def j9 (n:Int)(l:aX)(r:Nat)(w:au)(s:RS)(a:Nat):eW:=codeFrom X0 cL Ef r 19 p9 zA (fr9 w) (Jv n l s 0 0 a)
theorem apg (n:Int)(l:aX)(r:Nat)(w:au)(a:Int)(lab:au)(ai:bz):j9 n l r w (st0 a lab ai) ai.length=wsT n l w (st0 a lab ai) ai.length:=by kernel_rfl
def F4 (n:Int)(l:aX)(s:RS)(b:Nat):eW:=oP n l s 0 0 b 4 s.a
def ajZ (n:Int)(l:aX)(w:au)(dN:Bool)(s:RS)(a:Nat)(K:eW):eW :=
 (λb1 al:eW=>ah (decide (w=AU)) (ah (decide (w=AU)) b1 al) (ah (decide (w=qt)) (ah (decide (w=qt)) b1 al) (ah (decide (w=xh)) b1 al)))
  (ah dN (F4 n l s a) (ah (!decide (s.lab=[])) (F4 n l s a) K)) (ah (decide (w=pV)) (ah dN (F4 n l s a) K) K)
theorem aph (n:Int)(l:aX)(r:Nat)(w:au)(dN:Bool)(a:Int)(lab:au)(ai:bz)(K:gJ->aH->eW) :
 Rx X0 cL Ef r 19 p8 [true] zA K (fr8 dN w) (Jv n l (st0 a lab ai) 0 0 ai.length)=ajZ n l w dN (st0 a lab ai) ai.length (K (fr9 w) (Jv n l (st0 a lab ai) 0 0 ai.length)):=by kernel_rfl
def zV (n:Int)(l:aX)(dN:Bool)(s:RS)(b:Nat)(K:au->eW):eW :=
 ah (bS s.a l.length) (ah (!dN) (GH true n l s 0 0 b) (F4 n l s b))
  (ah (bN s.a l.length) (zB l s.a λy=>ah (!bS y.1 1) (F4 n l s b) (zB l s.a λz=>K z.2.2.1)) (F4 n l s b))
theorem api (n:Int)(l:aX)(r:Nat)(dN:Bool)(a:Int)(lab:au)(K:gJ->aH->eW) :
 Rx X0 cL Ef r 19 p4 [true,true,true,true] zA K (fr4 dN) (Jv n l (st0 a lab []) 0 0 0) =
  ah dN (exT n l (st0 (IntKind.wrap .i64 (a+1)) lab []) 0 0 0 λx e=>zV n l dN (st0 e lab x) x.length λw=>K (fr8 dN w) (Jv n l (st0 e lab x) 0 0 x.length))
   (zV n l dN (st0 a lab []) 0 λw=>K (fr8 dN w) (Jv n l (st0 a lab []) 0 0 0)):=by kernel_rfl
theorem apj (n:Int)(l:aX)(r:Nat)(a:Int)(lab:au)(K:gJ->aH->eW) :
 Rx X0 cL Ef r 19 p3 [true] zA K fr3 (Jv n l (st0 a lab []) 0 0 0) =
  (λgo:Bool->eW=>ah (bN a l.length) (zB l a λy=>ah (bS y.1 1) (zB l a λz=>go (decide (z.2.2.1=oQ))) (go false)) (go false)) λb=>K (fr4 b) (Jv n l (st0 a lab []) 0 0 0):=by kernel_rfl
def tY (n:Int)(l:aX)(K:RS->eW):eW :=
 (λno:eW=>ah (bN 1 l.length) (zB l 1 λy=>ah (bS y.1 1) (zB l 1 λy=>ah (decide (y.2.2.1=H8)) (LF n l lJ 0 0 0 0 λt=>Jz n l 3 { lJ with lab:=t,a:=2 } 0) no) no) no)
  (ah (bN 0 l.length) (zB l 0 λy=>ah (bS y.1 1) (ah (bN 1 l.length) (zB l 1 λy=>ah (bS y.1 4) (zB l 1 λy=>ah (decide (y.2.2.1=[58])) (LF n l lJ 0 0 0 0 λt=>K (st0 2 t [])) (K lJ)) (K lJ)) (K lJ)) (K lJ)) (K lJ))
theorem apk (n:Int)(l:aX)(r:Nat)(K:gJ->aH->eW) :
 adm X0 cL Ef r 19 p3 [.ptr 0 0] (kA 66 14 (Jr n l lJ)) zA K=tY n l λs=>K fr3 (Jv n l s 0 0 0):=by kernel_rfl
theorem VK {α:Type}{p:Prop}[Decidable p](x y:α):ah (!decide p) x y=if p then y else x:=by
 by_cases h:p
 .rw[ag h,bg h];rfl
 rw[aa h,aY h];rfl
section
variable {n:Int} {l:aX}
theorem rT {s:RS}{e i:Int}(h:0<=i):oP n l s s.data.length s.x.length s.ai.length e i=fV n l (iT n l s e i):=yB h
theorem vQ {i:Int}{t:Tok}(a:at? l i=some t):nA l i=if t.1=1 then some t.2.2.1 else none:=by unfold nA;rw[a]
theorem ze {i:Int}(a:at? l i=none):nA l i=none:=by unfold nA;rw[a]
theorem TD {i:Int}{w:au}(h:nA l i=some w):0<=i/\i<l.length/\iJ l i=w:=by
 unfold nA at h;unfold iJ;cases a:at? l i with
 |none=>rw[a]at h;cases h
 |some t =>
  rw[a]at h;simp only at h ⊢;split at h
  .cases h;exact⟨(jR a).1,(jR a).2,rfl⟩
  cases h
theorem TE {α:Type}{i:Int}(h:0<=i)(no:α)(yes:au->α){A:Tok->(Tok->α)->α}(d:α) :
 ah (bN i l.length) ((eL l i).elim d λy=>ah (!bS y.1 1) no ((eL l i).elim d λz=>yes z.2.2.1)) no=(match nA l i with|none=>no|some t=>yes t):=by
 rw[de,getI_at?];cases a:at? l i with
 |none =>
  have:=kM h a;rw[aa (by omega),ze a]
 |some t =>
  rw[ag (jR a).2,vQ a];show ah (!bS t.1 1) no (yes t.2.2.1)=_;rw[cF];by_cases b:t.1=1
  .rw[ag b,ag b]
  rw[aa b,aa b]
theorem LG {s:RS}{i:Int}(h:0<=i){k:au->eW}{kF:RS->LR} (a:∀t,nA l i=some t->k t=fV n l (kF { s with lab:=t })):LF n l s s.data.length s.x.length s.ai.length i k=fV n l (AW n l i s kF):=by
 have b:=TE (l:=l) h (oP n l s s.data.length s.x.length s.ai.length 4 i) (λt=>ah (lt.wP t) (oP n l s s.data.length s.x.length s.ai.length 7 i) (k t)) (A:=λ_ _=>none) (none:eW);have c:LF n l s s.data.length s.x.length s.ai.length i k=ah (bN i l.length) ((eL l i).elim none λy=>ah (!bS y.1 1) (oP n l s s.data.length s.x.length s.ai.length 4 i) ((eL l i).elim none λz=>ah (lt.wP z.2.2.1) (oP n l s s.data.length s.x.length s.ai.length 7 i) (k z.2.2.1))) (oP n l s s.data.length s.x.length s.ai.length 4 i):=by
  unfold LF zB;cases eL l i<;>rfl
 rw[c,b,rT h,rT h];unfold AW;cases d:nA l i with
 |none=>rfl
 |some t =>
  simp only;rw[ay,a t d];split<;>rfl
theorem LH {s:RS}(h:0<=s.a):Ry n l s s.data.length s.x.length s.ai.length=fV n l (zC n l s):=by
 unfold Ry zC;rw[rT h,cH];split<;>rfl
theorem GM (d:l.length<=200000){aC:Int}{s:RS}(f:s.data=[])(g:s.x=[])(h:0<=s.a):Jz n l aC s s.ai.length=fV n l (sW n l aC s):=by
 have b:s.data.length=0:=by rw[f];rfl
 have i:s.x.length=0:=by rw[g];rfl
 have:=Lz (n:=n) d (s:={ s with aC:=aC }) (go:=λx e=>Ry n l { s with aC:=aC,x:=x,a:=e } 0 x.length s.ai.length) (goF:=λx e=>zC n l { s with aC:=aC,x:=x,a:=e }) λx e c j=>by
  have:=LH (n:=n) (l:=l) (s:={ s with aC:=aC,x:=x,a:=e }) (show 0<=e by have c:s.a<e:=c;omega);simp only[b]at this;exact this
 simp only[b,i]at this;exact this
theorem aj0 (b:l.length<=200000){s:RS}(e:0<=s.a)(c:s.a<l.length)(f:1<=(iJ l s.a).length)(d:(iJ l s.a).length<=1000):dtT n l s=fV n l (yC n l s):=by
 unfold dtT inL;rw[eN b,gB (show (0:Int)<=s.a by omega),rC c,gB (show (1:Int)<=(iJ l s.a).length by omega),eN (by omega)];rfl
theorem aj1 (b:l.length<=200000){s:RS}(d:0<=s.a)(c:s.a<l.length):dcT n l s=fV n l (LA n l s):=by
 unfold dcT inL;rw[eN b,gB (show (0:Int)<=s.a by omega),rC c];rfl
theorem aj2 (d:l.length<=200000){s:RS}(f:s.data=[])(g:s.x=[])(h:0<=s.a)(i:s.a<l.length)(j:1<=(iJ l s.a).length)(b:(iJ l s.a).length<=1000):rsT n l s s.ai.length=fV n l (GK n l s):=by
 obtain⟨t,c⟩:=tq h i;have e:iJ l s.a=t.2.2.1:=by unfold iJ;rw[c]
 unfold rsT zB GK;rw[getI_at?,c];rw[e]at j b ⊢;show ah (!bN t.2.2.1.length 1&&Nat.ble t.2.2.1.length 2000000) _ none=_;rw[gB (by omega),eN (by omega),i64_in (n:=s.a+1) (by omega) (by omega)];exact GM (n:=n) d (s:={ s with sz:=qc t.2.2.1,a:=s.a+1 }) f g (show 0<=s.a+1 by omega)
theorem ZV (b:l.length<=200000){aC:Int}{s:RS}(c:s.data=[])(d:s.x=[])(e:0<=s.a)(f:s.a<l.length):alT n l aC s s.ai.length=fV n l (sW n l aC { s with a:=s.a+1 }):=by
 unfold alT;rw[i64_in (n:=s.a+1) (by omega) (by omega)];exact GM (n:=n) b (s:={ s with a:=s.a+1 }) c d (show 0<=s.a+1 by omega)
theorem AX (d:l.length<=200000){s:RS}(b:s.data=[])(c:s.x=[])(e:0<=s.a)(f:s.a<l.length):VJ n l s s.ai.length=fV n l (LC n l s):=by
 have g0:s.data.length=0:=by rw[b];rfl
 have g1:s.x.length=0:=by rw[c];rfl
 unfold VJ LC;rw[i64_in (n:=s.a+1) (by omega) (by omega),i64_in (n:=s.a+2) (by omega) (by omega)];have:=LG (n:=n) (l:=l) (s:={ s with aC:=6 }) (i:=s.a+1) (by omega) (k:=λt=>Ry n l { s with aC:=6,lab:=t,a:=s.a+2 } 0 0 s.ai.length) (kF:=λs=>zC n l { s with a:=s.a+2 }) λt _=>by
  have:=LH (n:=n) (l:=l) (s:={ s with aC:=6,lab:=t,a:=s.a+2 }) (show 0<=s.a+2 by omega);simp only[g0,g1]at this;exact this
 simp only[g0,g1]at this;exact this
theorem aj3 (d:l.length<=200000){s:RS}(b:s.data=[])(c:s.x=[])(e:0<=s.a)(f:s.a<l.length):enT n l s s.ai.length=fV n l (ZM n l s):=by
 have g0:s.data.length=0:=by rw[b];rfl
 have g1:s.x.length=0:=by rw[c];rfl
 unfold enT ZM;rw[i64_in (n:=s.a+1) (by omega) (by omega)];have:=LH (n:=n) (l:=l) (s:={ s with aC:=7,a:=s.a+1 }) (show 0<=s.a+1 by omega);simp only[g0,g1]at this;exact this
theorem aea (c:l.length<=200000){s:RS}(f:s.data=[])(g:s.x=[]):ajY n l s s.ai.length=fV n l (Rw n l s):=by
 have g0:s.data.length=0:=by rw[f];rfl
 have g1:s.x.length=0:=by rw[g];rfl
 have d:=rT (n:=n) (l:=l) (s:=s) (e:=(dY l s.a).2.2.2.1) (Ru (a:=s.a) c);rw[g0,g1]at d;unfold ajY Rw;rw[eN c,d];show ah (!bS (dY l s.a).2.2.2.1 0) _ _=_;rw[cF];by_cases b:(dY l s.a).2.2.2.1=0
 .rw[ag b,aa (show ¬(dY l s.a).2.2.2.1≠0 from λq=>q b)];show GH true n l _ 0 0 s.ai.length=GH true n l _ s.data.length s.x.length s.ai.length;rw[g0,g1]
 rw[aa b,ag b]
theorem aj4 (d:l.length<=200000){w:au}{s:RS}(i:s.data=[])(j:s.x=[])(E:nA l s.a=some w):wsT n l w s s.ai.length=fV n l (gZ n l w s):=by
 obtain⟨f,k,b⟩:=TD E;have c:∀w0:au,w=w0->1<=w0.length->w0.length<=1000->dtT n l s=fV n l (yC n l s):=λw0 e g1 C=>aj0 d f k (by rw[b,e];exact g1) (by rw[b,e];exact C)
 have p:∀w0:au,w=w0->1<=w0.length->w0.length<=1000->rsT n l s s.ai.length=fV n l (GK n l s):=λw0 e g1 C=>aj2 d i j f k (by rw[b,e];exact g1) (by rw[b,e];exact C)
 have g:∀L:cA,(∀v∈L,w≠v)->w ∉ L:=λL h F=>h w F rfl
 unfold wsT;simp only[gw,lP,vN];by_cases q:w=[100,98]
 .rw[ag q,c _ q (by decide) (by decide)];unfold gZ;rw[ag (by rw[q];decide)]
 rw[aa q];by_cases e2:w=[100,119]
 .rw[ag e2,c _ e2 (by decide) (by decide)];unfold gZ;rw[ag (by rw[e2];decide)]
 rw[aa e2];by_cases t:w=[100,100]
 .rw[ag t,c _ t (by decide) (by decide)];unfold gZ;rw[ag (by rw[t];decide)]
 rw[aa t];by_cases u:w=[100,113]
 .rw[ag u,c _ u (by decide) (by decide)];unfold gZ;rw[ag (by rw[u];decide)]
 rw[aa u];have m:w ∉ OD:=g _ λv o=>by
  simp only[OD,bD,kq,qw]at o;rcases o with rfl|rfl|rfl|rfl<;>assumption
 by_cases y:w=[114,101,115,98]
 .rw[ag y,p _ y (by decide) (by decide)];unfold gZ;rw[aa m,ag (by rw[y];decide)]
 rw[aa y];by_cases z:w=[114,101,115,119]
 .rw[ag z,p _ z (by decide) (by decide)];unfold gZ;rw[aa m,ag (by rw[z];decide)]
 rw[aa z];by_cases A:w=[114,101,115,100]
 .rw[ag A,p _ A (by decide) (by decide)];unfold gZ;rw[aa m,ag (by rw[A];decide)]
 rw[aa A];by_cases B:w=[114,101,115,113]
 .rw[ag B,p _ B (by decide) (by decide)];unfold gZ;rw[aa m,ag (by rw[B];decide)]
 rw[aa B];have k2:w ∉ ad7:=g _ λv o=>by
  simp only[ad7,bD,kq,qw]at o;rcases o with rfl|rfl|rfl|rfl<;>assumption
 unfold gZ;rw[aa m,aa k2,ZV d i j f k,ZV d i j f k,AX d i j f k,aj3 d i j f k,aj1 d f k,aea d i j];have D:=rT (n:=n) (l:=l) (s:=s) (e:=4) f;rw[show s.data.length=0 by rw[i];rfl,show s.x.length=0 by rw[j];rfl]at D;rw[D,ay];repeat' split
 all_goals rfl
theorem aeb {w:au}{dN:Bool}{s:RS}{K:eW}(i:s.data=[])(j:s.x=[])(k:0<=s.a)(m:K=fV n l (gZ n l w s)):ajZ n l w dN s s.ai.length K=fV n l (Ee n l w dN s):=by
 have g:=rT (n:=n) (l:=l) (s:=s) (e:=4) k;rw[show s.data.length=0 by rw[i];rfl,show s.x.length=0 by rw[j];rfl]at g;subst m;unfold ajZ F4 Ee;simp only;rw[g];simp only[vN,VK];have b1:ah dN (fV n l (iT n l s 4 s.a)) (if s.lab=[] then fV n l (gZ n l w s) else fV n l (iT n l s 4 s.a))=fV n l (if dN=true\/s.lab≠[] then iT n l s 4 s.a else gZ n l w s):=by
  cases dN with
  |true=>rw[ag (show true=true\/s.lab≠[] from .inl rfl)]
  |false =>
   show (if s.lab=[] then _ else _)=_;by_cases h:s.lab=[]
   .rw[ag h,aa (show ¬(false=true\/s.lab≠[]) from λq=>by rcases q with q|q;cases q;exact q h)]
   rw[aa h,ag (show false=true\/s.lab≠[] from .inr h)]
 have b2:ah dN (fV n l (iT n l s 4 s.a)) (fV n l (gZ n l w s))=fV n l (if dN=true then iT n l s 4 s.a else gZ n l w s):=by
  cases dN<;>rfl
 rw[b1,b2];by_cases b:w=AU\/w=qt\/w=xh
 .have o:(if w=AU then if w=AU then fV n l (if dN=true\/s.lab≠[] then iT n l s 4 s.a else gZ n l w s) else if w=pV then fV n l (if dN=true then iT n l s 4 s.a else gZ n l w s) else fV n l (gZ n l w s)
   else if w=qt then if w=qt then fV n l (if dN=true\/s.lab≠[] then iT n l s 4 s.a else gZ n l w s) else if w=pV then fV n l (if dN=true then iT n l s 4 s.a else gZ n l w s) else fV n l (gZ n l w s)
   else if w=xh then fV n l (if dN=true\/s.lab≠[] then iT n l s 4 s.a else gZ n l w s) else if w=pV then fV n l (if dN=true then iT n l s 4 s.a else gZ n l w s) else fV n l (gZ n l w s))=fV n l (if dN=true\/s.lab≠[] then iT n l s 4 s.a else gZ n l w s):=by
   by_cases a1:w=AU
   .rw[ag a1,ag a1]
   rw[aa a1];by_cases a2:w=qt
   .rw[ag a2,ag a2]
   rw[aa a2,ag (by rcases b with e|e|e;exact absurd e a1;exact absurd e a2;exact e)]
  rw[o];have f:w≠pV:=λe=>by rw[e]at b;revert b;decide
  by_cases c:dN=true\/s.lab≠[]
  .rw[ag c,ag (show (w=AU\/w=qt\/w=xh)/\(dN=true\/s.lab≠[]) from ⟨b,c⟩)]
  rw[aa c,aa (show ¬((w=AU\/w=qt\/w=xh)/\(dN=true\/s.lab≠[])) from λq=>c q.2),aa (show ¬(w=pV/\dN=true) from λq=>f q.1)]
 simp only[mq]at b;rw[aa b.1,aa b.2.1,aa b.2.2,aa (show ¬((w=AU\/w=qt\/w=xh)/\(dN=true\/s.lab≠[])) from λq=>by rcases q.1 with q|q|q;exact b.1 q;exact b.2.1 q;exact b.2.2 q)];by_cases d:w=pV
 .rw[ag d];by_cases c:dN=true
  .rw[ag c,ag (show w=pV/\dN=true from ⟨d,c⟩)]
  rw[aa c,aa (show ¬(w=pV/\dN=true) from λq=>c q.2)]
 rw[aa d,aa (show ¬(w=pV/\dN=true) from λq=>d q.1)]
theorem ZW {dN:Bool}{s:RS}{K:au->eW}(f:s.data=[])(g:s.x=[])(c:0<=s.a)(h:∀w,nA l s.a=some w->K w=fV n l (Ee n l w dN s)):zV n l dN s s.ai.length K=fV n l (oR n l dN s):=by
 have g0:s.data.length=0:=by rw[f];rfl
 have g1:s.x.length=0:=by rw[g];rfl
 have d:=rT (n:=n) (l:=l) (s:=s) (e:=4) c;rw[g0,g1]at d;have i:=TE (l:=l) c (fV n l (iT n l s 4 s.a)) K (A:=λ_ _=>none) (none:eW);have j:zV n l dN s s.ai.length K=ah (bS s.a l.length) (ah (!dN) (GH true n l s 0 0 s.ai.length) (fV n l (iT n l s 4 s.a))) (ah (bN s.a l.length) ((eL l s.a).elim none λy=>ah (!bS y.1 1) (fV n l (iT n l s 4 s.a)) ((eL l s.a).elim none λz=>K z.2.2.1)) (fV n l (iT n l s 4 s.a))):=by
  unfold zV F4 zB;rw[d];cases eL l s.a<;>rfl
 rw[j,i,cH];unfold oR;by_cases b:s.a=l.length
 .rw[ag b,ag b];cases dN with
  |true=>rfl
  |false =>
   show GH true n l s 0 0 s.ai.length=GH true n l s s.data.length s.x.length s.ai.length;rw[g0,g1]
 rw[aa b,aa b];cases k:nA l s.a with
 |none=>rfl
 |some w=>exact h w k
end
def kb (n:Int)(l:aX)(r:Nat)(p:eJ)(f:gJ)(H:aH):eW:=codeFrom X0 cL Ef r 19 p zA f H
section
variable {n:Int} {l:aX} {r:Nat}
theorem atv (b:l.length<=200000){w:au}{a:Int}{lab:au}{ai:bz}(c:nA l a=some w):kb n l r p9 (fr9 w) (Jv n l (st0 a lab ai) 0 0 ai.length)=fV n l (gZ n l w (st0 a lab ai)) :=
 (apg n l r w a lab ai).trans (aj4 (s:=st0 a lab ai) b rfl rfl c)
theorem atw (c:l.length<=200000){w:au}{dN:Bool}{a:Int}{lab:au}{ai:bz}(b:nA l a=some w):kb n l r p8 (fr8 dN w) (Jv n l (st0 a lab ai) 0 0 ai.length)=fV n l (Ee n l w dN (st0 a lab ai)):=by
 have h:=vP (X:=X0) (call:=cL) (an:=Ef) (rounds:=r) (id:=19) (p:=p8) (q:=[]) (by kernel_rfl) zA (fr8 dN w) (Jv n l (st0 a lab ai) 0 0 ai.length);exact h.trans ((aph n l r w dN a lab ai _).trans (aeb (s:=st0 a lab ai) rfl rfl (TD b).1 (atv c b)))
theorem apl (b:l.length<=200000){dN:Bool}{a:Int}{lab:au}{ai:bz}(c:0<=a):zV n l dN (st0 a lab ai) ai.length (λw=>kb n l r p8 (fr8 dN w) (Jv n l (st0 a lab ai) 0 0 ai.length))=fV n l (oR n l dN (st0 a lab ai)) :=
 ZW (s:=st0 a lab ai) rfl rfl c λw d=>atw b d
theorem atx (b:l.length<=200000){dN:Bool}{a:Int}{lab:au}(d:0<=a)(g:a<=l.length):kb n l r p4 (fr4 dN) (Jv n l (st0 a lab []) 0 0 0)=fV n l (if dN=true then Dj n l (st0 (a+1) lab []) λx e=>oR n l true (st0 e lab x) else oR n l false (st0 a lab [])):=by
 have h:=vP (X:=X0) (call:=cL) (an:=Ef) (rounds:=r) (id:=19) (p:=p4) (q:=[true,true,true]) (by kernel_rfl) zA (fr4 dN) (Jv n l (st0 a lab []) 0 0 0);refine h.trans ((api n l r dN a lab _).trans ?_);rw[i64_in (n:=a+1) (by omega) (by omega)];cases dN with
 |true =>
  exact Lz (n:=n) b (s:=st0 (a+1) lab []) (goF:=λx e=>oR n l true (st0 e lab x)) λx e c f=>apl (dN:=true) b (by have c:a+1<e:=c;omega)
 |false=>exact apl (dN:=false) b d
theorem aty (i:l.length<=200000){a:Int}{lab:au}(g:0<=a)(c:a<=l.length):kb n l r p3 fr3 (Jv n l (st0 a lab []) 0 0 0)=fV n l (og n l (st0 a lab [])):=by
 have h:=vP (X:=X0) (call:=cL) (an:=Ef) (rounds:=r) (id:=19) (p:=p3) (q:=[]) (by kernel_rfl) zA fr3 (Jv n l (st0 a lab []) 0 0 0);refine h.trans ((apj n l r a lab _).trans ?_);have go:∀b:Bool,codeFrom X0 cL Ef r 19 (p3++[true]) zA (fr4 b) (Jv n l (st0 a lab []) 0 0 0)=fV n l (if b=true then Dj n l (st0 (a+1) lab []) λx e=>oR n l true (st0 e lab x) else oR n l false (st0 a lab [])):=λb=>atx i g c
 simp only[go];unfold og;show _=fV n l (if nA l a=some oQ then Dj n l (st0 (a+1) lab []) λx e=>oR n l true (st0 e lab x) else oR n l false (st0 a lab []));unfold zB;rw[de,getI_at?];cases d:at? l a with
 |none =>
  have:=kM g d;rw[aa (by omega),ze d];rfl
 |some t =>
  rw[ag (jR d).2,vQ d];show ah (bS t.1 1) (fV n l (if decide (t.2.2.1=oQ)=true then _ else _)) _=_;rw[cH];by_cases c:t.1=1
  .rw[ag c,ag c];by_cases f:t.2.2.1=oQ
   .rw[ag (bg f),ag (by rw[f])]
   rw[aa (by simpa using f),aa (λq=>f (bT q))]
  rw[aa c,aa c,aa (by simp)];rfl
theorem ZX (v:l.length<=200000){K:RS->eW}(p:∀a lab,0<=a->a<=(l.length:Int)->K (st0 a lab [])=fV n l (og n l (st0 a lab []))):tY n l K=fV n l (gM n l lJ):=by
 have w:K lJ=fV n l (og n l lJ):=p 0 [] (by omega) (by omega);unfold tY gM;simp only;have m:(ah (bN 0 l.length) (zB l 0 λy=>ah (bS y.1 1) (ah (bN 1 l.length) (zB l 1 λy=>ah (bS y.1 4) (zB l 1 λy=>ah (decide (y.2.2.1=[58])) (LF n l lJ 0 0 0 0 λt=>K (st0 2 t [])) (K lJ)) (K lJ)) (K lJ)) (K lJ)) (K lJ)) =
  fV n l (if (nA l 0).isSome=true/\dK l 1 [58]=true then AW n l 0 lJ λs=>og n l { s with a:=2 } else og n l lJ):=by
  rw[w];unfold zB;rw[de,show eL l (0:Int)=at? l 0 by rw[getI_at?]];cases d:at? l 0 with
  |none =>
   have:=kM (by omega) d;rw[aa (by omega),aa (λq=>by rw[ze d]at q;cases q.1)]
  |some t =>
   rw[ag (jR d).2];show ah (bS t.1 1) _ _=_;rw[cH];by_cases e:t.1=1
   .rw[ag e,de,show eL l (1:Int)=at? l 1 by rw[getI_at?]];have x:(nA l 0).isSome=true:=by rw[vQ d,ag e];rfl
    cases h:at? l 1 with
    |none =>
     have:=kM (by omega) h;have g:dK l 1 [58]=false:=by unfold dK;rw[h]
     rw[aa (by omega),aa (λq=>by rw[g]at q;cases q.2)]
    |some c =>
     have f:=(jR h).2;have g:dK l 1 [58]=(bS c.1 4&&decide (c.2.2.1=[58])):=by unfold dK;rw[h];exact Lm c [58]
     have b:=LG (n:=n) (l:=l) (s:=lJ) (i:=0) (by omega) (k:=λt=>K (st0 2 t [])) (kF:=λs=>og n l { s with a:=2 }) λt _=>p 2 t (by omega) (by omega)
     have b:LF n l lJ 0 0 0 0 (λt=>K (st0 2 t []))=_:=b;rw[ag f,b];show ah (bS c.1 4) (ah (decide (c.2.2.1=[58])) _ _) _=_;cases o:bS c.1 4 with
     |false=>rw[aa (λq=>by rw[g,o]at q;cases q.2)]
     |true =>
      cases u:decide (c.2.2.1=[58]) with
      |false=>rw[aa (λq=>by rw[g,o,u]at q;cases q.2)]
      |true=>rw[ag ⟨x,by rw[g,o,u];rfl⟩]
   rw[aa e,aa (λq=>by rw[vQ d,aa e]at q;cases q.1)]
 rw[m];unfold zB;rw[de,show eL l (1:Int)=at? l 1 by rw[getI_at?]];cases d:at? l 1 with
 |none =>
  have:=kM (by omega) d;rw[aa (by omega),aa (show ¬nA l 1=some H8 from λq=>by rw[ze d]at q;cases q)]
 |some t =>
  have f:=(jR d).2;have b:=LG (n:=n) (l:=l) (s:=lJ) (i:=0) (by omega) (k:=λt=>Jz n l 3 { lJ with lab:=t,a:=2 } 0) (kF:=λs=>sW n l 3 { s with a:=2 }) λt _=>GM (s:={ lJ with lab:=t,a:=2 }) v rfl rfl (show (0:Int)<=2 by decide)
  have b:LF n l lJ 0 0 0 0 (λt=>Jz n l 3 { lJ with lab:=t,a:=2 } 0)=_:=b;rw[ag f,b];show ah (bS t.1 1) (ah (decide (t.2.2.1=H8)) _ _) _=_;rw[cH,vN,vQ d];by_cases e:t.1=1
  .rw[ag e,ag e];by_cases j:t.2.2.1=H8
   .rw[ag j,ag (show some t.2.2.1=some H8 by rw[j])];rfl
   rw[aa j,aa (show ¬some t.2.2.1=some H8 from λq=>j (bT q))]
  rw[aa e,aa e,aa (show ¬(none:Option au)=some H8 by simp)]
theorem GN (b:l.length<=200000):aT X0 cL Ef r 19 [.ptr 0 0] (kA 66 14 (Jr n l lJ)) zA=fV n l (gM n l lJ):=by
 rw[Gd (p:=p3) (by kernel_rfl),apk];exact ZX b λa lab c d=>aty b c d
end
def isZ (s:RS):Bool:=decide (s.a=0)&&decide (s.lab=[])&&decide (s.aC=0)&&decide (s.sz=0)&&decide (s.op=0)&&decide (s.aM=0)&&s.ai.isEmpty&&decide (s.e=0)&&decide (s.f=0)
def FLn:FRd:=λn l s=>some (Nat.ble l.length 200000&&isZ s,gM n l lJ)
theorem aj5:iI X0 gR 19 (cRd FLn) :=
 Rq rfl Ju agF λn l s b i d g h c=>by
  obtain⟨a,lab,aC,sz,op,aM,args,data,x,ai,e,f⟩:=s;have d:args=[]:=d;have g:data=[]:=g;have h:x=[]:=h;subst d;subst g;subst h;unfold FLn isZ at c;simp only[aq,az,ak,aZ,jg]at c;obtain⟨⟨g1,⟨⟨⟨⟨⟨⟨⟨⟨rfl,rfl⟩,rfl⟩,rfl⟩,rfl⟩,rfl⟩,rfl⟩,rfl⟩,rfl⟩⟩,c⟩:=c;refine⟨Ef,5,(GN (aB g1)).trans ?_⟩;rw[c];rfl
def NL:List rf:=(19,cRd FLn)::ND
theorem agI:jc X0 gR NL:=.cons aj5 agF
def stL (s:RS):AV:=.agg [.str s.lab,.int .i64 s.aC,.int .i64 s.sz,.int .i64 s.op,.int .i64 s.aM,.eC lD s.args,.eC GG s.data,.eC fA s.x,.eC fA s.ai]
def rdL (r:RS×Int×Int):aI:=[stL r.1,.agg [.int .i64 r.2.1,.int .i64 r.2.2]]
def sgS:List (List (Option Tv.Ty)):=[[none,none,none,none,none,some lD,some GG,some fA,some fA],[none,none]]
def rdT (s:au):tu :=
 ah (!bS (lt.gq s).2.1 0) (some (rdL (lJ,(lt.gq s).2.1,(lt.gq s).2.2)))
  (ah (((Nat.ble (lt.gq s).1.length 200000&&true)&&true)&&true)
   (ah (!(gM s.length (lt.gq s).1 lJ).1) (some (rdL (lJ,(gM s.length (lt.gq s).1 lJ).2.e,(gM s.length (lt.gq s).1 lJ).2.f))) (some (rdL ((gM s.length (lt.gq s).1 lJ).2,0,0)))) none)
theorem aec (s:au):aT X0 (cN P3 NL _) gC 5 12 [.str s] aH.empty (tn sgS)=rdT s:=by kernel_rfl
theorem GP (s:au):∀(m:Nat) (r:au),(lt.gD s m r).1.length<=m
 |0,_=>by simp[lt.gD]
 |m+1,[]=>by simp[lt.gD]
 |m+1,c::r=>by
  unfold lt.gD;split
  .have:=GP s m r;omega
  split
  .simp
  split
  .have:=GP s m (s.drop (lt.fN s c (s.length-(r.length+1))).2.1.toNat);simp only[aJ];omega
  simp
theorem OI (s:au):(lt.gq s).1.length<=1000:=by
 unfold lt.gq;split
 .simp
 rename_i h;split
 .have:=GP s s.length s;show (lt.gD s s.length s).1.length<=1000;omega
 simp
theorem aj6 (s:au):rdT s=some (rdL (di s)):=by
 have a:=OI s;unfold rdT di;rw[eN (show (lt.gq s).1.length<=200000 by omega),cF];by_cases h:(lt.gq s).2.1=0
 .rw[ag h,aa (show ¬(lt.gq s).2.1≠0 from λq=>q h)];show ah (!(gM s.length (lt.gq s).1 lJ).1) _ _=_;cases (gM s.length (lt.gq s).1 lJ).1<;>rfl
 rw[aa h,ag h]
def fRd (args:aI):Option (Bool×aI) :=
 match args with
 |[.str s]=>some (true,rdL (di s))
 |_=>none
theorem OJ:iI X0 gR 12 ⟨none,[none],gV fRd⟩ :=
 Tu rfl Ju agI sgS λvs b a=>by
  unfold fRd at a;split at a;case h_2=>cases a
  rename_i s;simp only[aq,az]at a;obtain⟨_,rfl⟩:=a;refine⟨rfl,gC,5,?_⟩;rw[aec,aj6]
def NR:List rf:=(12,⟨none,[none],gV fRd⟩)::NL
theorem agJ:jc X0 gR NR:=.cons OJ agI
end
end Go.Proofs.YtbeckacfibledaaGreatDoor.ps

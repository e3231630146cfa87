/- Lines: reading one, as it runs. Lines: the contract of reading one. Lines: the contract of Read. -/
import Derived.Test.YtbeckacfibledaaGreatDoorGrf
set_option linter.unusedVariables false
set_option linter.unusedSimpArgs false

namespace Go.Proofs.YtbeckacfibledaaGreatDoor.ps
open Go.Tv Go.Ev Go.Px Go.Pp Go.Proofs.YtbeckacfibledaaGreatDoor.ex
set_option maxRecDepth 100000
noncomputable section
def p3:List Bool:=[true,true,true]
def p4:List Bool:=[true,true,true,true]
def p8:List Bool:=[true,true,true,true,true,true,true,true]
def p9:List Bool:=[true,true,true,true,true,true,true,true,true]
def CW:ez:=⟨vp (gZ [0] p3) (vp (gZ [0,3] p4) (vp (gZ [0,3,4] p8) (gZ [0,4] p9))),.none,[]⟩
def fr3:fM:=lq 143 [(0,.ptr 0 0)]
def fr4 (b:Bool):fM:=lq 143 [(0,.ptr 0 0),(3,.bool b)]
def fr8 (b:Bool)(w:List UInt8):fM:=lq 143 [(0,.ptr 0 0),(3,.bool b),(4,.str w)]
def fr9 (w:List UInt8):fM:=lq 143 [(0,.ptr 0 0),(4,.str w)]
abbrev cL:cH (List fK×List Nat):=cN P3 ND _
section
variable (n:Int) (l:List Tok)
def JK (s:RS)(nd nx nt:Nat)(i:Int)(k:List UInt8->dZ):dZ :=
 ah (bB i l.length) (ye l i λy=>ah (!bI y.1 1) (nu n l s nd nx nt 4 i) (ye l i λy=>ah (lt.vk y.2.2.1) (nu n l s nd nx nt 7 i) (k y.2.2.1))) (nu n l s nd nx nt 4 i)
def Pn (s:RS)(nd nx nt:Nat):dZ:=ah (bI s.a l.length) (Fe true n l s nd nx nt) (nu n l s nd nx nt 4 s.a)
def HH (aF:Int)(s:RS)(nt:Nat):dZ:=exT n l { s with aF:=aF } 0 0 nt λx e=>Pn n l { s with aF:=aF,x:=x,a:=e } 0 x.length nt
def st0 (a:Int)(lab:List UInt8)(ai:List Nd):RS:=⟨a,lab,0,0,0,0,[],[],[],ai,0,0⟩
def dtT (s:RS):dZ:=ah (((inL l s.a&&(!bB (jZ l s.a).length 1&&Nat.ble (jZ l s.a).length 2000000))&&true)&&true) (eV n l (Ay n l s)) none
def dcT (s:RS):dZ:=ah ((inL l s.a&&true)&&true) (eV n l (Ml n l s)) none
def rsT (s:RS)(nt:Nat):dZ:=ye l s.a λy=>ah (!bB y.2.2.1.length 1&&Nat.ble y.2.2.1.length 2000000) (HH n l 8 { s with sz:=rq y.2.2.1,a:=IntKind.wrap .i64 (s.a+1) } nt) none
def alT (aF:Int)(s:RS)(nt:Nat):dZ:=HH n l aF { s with a:=IntKind.wrap .i64 (s.a+1) } nt
def Tk (s:RS)(nt:Nat):dZ:=JK n l { s with aF:=6 } 0 0 nt (IntKind.wrap .i64 (s.a+1)) λt=>Pn n l { s with aF:=6,lab:=t,a:=IntKind.wrap .i64 (s.a+2) } 0 0 nt
def enT (s:RS)(nt:Nat):dZ:=Pn n l { s with aF:=7,a:=IntKind.wrap .i64 (s.a+1) } 0 0 nt
def agB (s:RS)(nt:Nat):dZ:=ah (Nat.ble l.length 200000) (ah (!bI (eA l s.a).2.2.2.1 0) (nu n l s 0 0 nt (eA l s.a).2.2.2.1 (eA l s.a).2.2.2.2)
 (Fe true n l { s with aF:=1,op:=(eA l s.a).1,aM:=(eA l s.a).2.1,args:=(eA l s.a).2.2.1 } 0 0 nt)) none
def wsT (w:List UInt8)(s:RS)(nt:Nat):dZ :=
 [(
  [100,98],dtT n l s),([100,119],dtT n l s),([100,100],dtT n l s),([100,113],dtT n l s),([114,101,115,98],rsT n l s nt),([114,101,115,119],rsT n l s nt),([114,101,115,100],rsT n l s nt),([114,101,115,113],rsT n l s nt),
  (qg,alT n l 4 s nt),(CV,alT n l 5 s nt),(qW,Tk n l s nt),(Az,enT n l s nt),(alh,dcT n l s)].foldr (λq r=>ah (decide (w=q.1)) q.2 r) (ah (nm.lu w).2 (agB n l s nt) (nu n l s 0 0 nt 4 s.a))
end
def j9 (n:Int)(l:List Tok)(r:Nat)(w:List UInt8)(s:RS)(nt:Nat):dZ:=codeFrom X0 cL CW r 19 p9 yd (fr9 w) (HC n l s 0 0 nt)
theorem alj (n:Int)(l:List Tok)(r:Nat)(w:List UInt8)(a:Int)(lab:List UInt8)(ai:List Nd):j9 n l r w (st0 a lab ai) ai.length=wsT n l w (st0 a lab ai) ai.length:=by kernel_rfl
def F4 (n:Int)(l:List Tok)(s:RS)(nt:Nat):dZ:=nu n l s 0 0 nt 4 s.a
def agC (n:Int)(l:List Tok)(w:List UInt8)(dm:Bool)(s:RS)(nt:Nat)(K:dZ):dZ :=
 (λb1 al:dZ=>ah (decide (w=CV)) (ah (decide (w=CV)) b1 al) (ah (decide (w=qW)) (ah (decide (w=qW)) b1 al) (ah (decide (w=Az)) b1 al)))
  (ah dm (F4 n l s nt) (ah (!decide (s.lab=[])) (F4 n l s nt) K)) (ah (decide (w=qg)) (ah dm (F4 n l s nt) K) K)
theorem alk (n:Int)(l:List Tok)(r:Nat)(w:List UInt8)(dm:Bool)(a:Int)(lab:List UInt8)(ai:List Nd)(K:fM->aG->dZ) :
 Pm X0 cL CW r 19 p8 [true] yd K (fr8 dm w) (HC n l (st0 a lab ai) 0 0 ai.length)=agC n l w dm (st0 a lab ai) ai.length (K (fr9 w) (HC n l (st0 a lab ai) 0 0 ai.length)):=by kernel_rfl
def yB (n:Int)(l:List Tok)(dm:Bool)(s:RS)(nt:Nat)(K:List UInt8->dZ):dZ :=
 ah (bI s.a l.length) (ah (!dm) (Fe true n l s 0 0 nt) (F4 n l s nt))
  (ah (bB s.a l.length) (ye l s.a λy=>ah (!bI y.1 1) (F4 n l s nt) (ye l s.a λz=>K z.2.2.1)) (F4 n l s nt))
theorem alm (n:Int)(l:List Tok)(r:Nat)(dm:Bool)(a:Int)(lab:List UInt8)(K:fM->aG->dZ) :
 Pm X0 cL CW r 19 p4 [true,true,true,true] yd K (fr4 dm) (HC n l (st0 a lab []) 0 0 0) =
  ah dm (exT n l (st0 (IntKind.wrap .i64 (a+1)) lab []) 0 0 0 λx e=>yB n l dm (st0 e lab x) x.length λw=>K (fr8 dm w) (HC n l (st0 e lab x) 0 0 x.length))
   (yB n l dm (st0 a lab []) 0 λw=>K (fr8 dm w) (HC n l (st0 a lab []) 0 0 0)):=by kernel_rfl
theorem aln (n:Int)(l:List Tok)(r:Nat)(a:Int)(lab:List UInt8)(K:fM->aG->dZ) :
 Pm X0 cL CW r 19 p3 [true] yd K fr3 (HC n l (st0 a lab []) 0 0 0) =
  (λgo:Bool->dZ=>ah (bB a l.length) (ye l a λy=>ah (bI y.1 1) (ye l a λz=>go (decide (z.2.2.1=Fg))) (go false)) (go false)) λb=>K (fr4 b) (HC n l (st0 a lab []) 0 0 0):=by kernel_rfl
def sv (n:Int)(l:List Tok)(K:RS->dZ):dZ :=
 (λno:dZ=>ah (bB 1 l.length) (ye l 1 λy=>ah (bI y.1 1) (ye l 1 λy=>ah (decide (y.2.2.1=Mo)) (JK n l rN 0 0 0 0 λt=>HH n l 3 { rN with lab:=t,a:=2 } 0) no) no) no)
  (ah (bB 0 l.length) (ye l 0 λy=>ah (bI y.1 1) (ah (bB 1 l.length) (ye l 1 λy=>ah (bI y.1 4) (ye l 1 λy=>ah (decide (y.2.2.1=[58])) (JK n l rN 0 0 0 0 λt=>K (st0 2 t [])) (K rN)) (K rN)) (K rN)) (K rN)) (K rN))
theorem alo (n:Int)(l:List Tok)(r:Nat)(K:fM->aG->dZ) :
 aag X0 cL CW r 19 p3 [.ptr 0 0] (ji 66 14 (Hy n l rN)) yd K=sv n l λs=>K fr3 (HC n l s 0 0 0):=by kernel_rfl
theorem Tl {α:Type}{p:Prop}[Decidable p](x y:α):ah (!decide p) x y=if p then y else x:=by
 by_cases h:p
 .rw[ag h,aX h];rfl
 rw[aa h,aU h];rfl
section
variable {n:Int} {l:List Tok}
theorem qh {s:RS}{e i:Int}(h:0<=i):nu n l s s.data.length s.x.length s.ai.length e i=eV n l (hU n l s e i):=xk h
theorem uw {i:Int}{t:Tok}(jx:at? l i=some t):rM l i=if t.1=1 then some t.2.2.1 else none:=by unfold rM;rw[jx]
theorem xX {i:Int}(jx:at? l i=none):rM l i=none:=by unfold rM;rw[jx]
theorem Q6 {i:Int}{w:List UInt8}(h:rM l i=some w):0<=i/\i<l.length/\jZ l i=w:=by
 unfold rM at h;unfold jZ;cases jx:at? l i with
 |none=>rw[jx]at h;cases h
 |some t =>
  rw[jx]at h;simp only at h ⊢;split at h
  .cases h;exact⟨(jj jx).1,(jj jx).2,rfl⟩
  cases h
theorem Q7 {α:Type}{i:Int}(h:0<=i)(no:α)(yes:List UInt8->α){A:Tok->(Tok->α)->α}(d:α) :
 ah (bB i l.length) ((dQ l i).elim d λy=>ah (!bI y.1 1) no ((dQ l i).elim d λz=>yes z.2.2.1)) no=(match rM l i with|none=>no|some t=>yes t):=by
 rw[cF,getI_at?];cases jx:at? l i with
 |none =>
  have:=ju h jx;rw[aa (by omega),xX jx]
 |some t =>
  rw[ag (jj jx).2,uw jx];show ah (!bI t.1 1) no (yes t.2.2.1)=_;rw[cw];by_cases h1:t.1=1
  .rw[ag h1,ag h1]
  rw[aa h1,aa h1]
theorem JL {s:RS}{i:Int}(h:0<=i){k:List UInt8->dZ}{kF:RS->LR} (hk:∀t,rM l i=some t->k t=eV n l (kF { s with lab:=t })):JK n l s s.data.length s.x.length s.ai.length i k=eV n l (Mp n l i s kF):=by
 have h1:=Q7 (l:=l) h (nu n l s s.data.length s.x.length s.ai.length 4 i) (λt=>ah (lt.vk t) (nu n l s s.data.length s.x.length s.ai.length 7 i) (k t)) (A:=λ_ _=>none) (none:dZ);have h2:JK n l s s.data.length s.x.length s.ai.length i k=ah (bB i l.length) ((dQ l i).elim none λy=>ah (!bI y.1 1) (nu n l s s.data.length s.x.length s.ai.length 4 i) ((dQ l i).elim none λz=>ah (lt.vk z.2.2.1) (nu n l s s.data.length s.x.length s.ai.length 7 i) (k z.2.2.1))) (nu n l s s.data.length s.x.length s.ai.length 4 i):=by
  unfold JK ye;cases dQ l i<;>rfl
 rw[h2,h1,qh h,qh h];unfold Mp;cases hn:rM l i with
 |none=>rfl
 |some t =>
  simp only;rw[au,hk t hn];split<;>rfl
theorem JM {s:RS}(h:0<=s.a):Pn n l s s.data.length s.x.length s.ai.length=eV n l (BW n l s):=by
 unfold Pn BW;rw[qh h,cq];split<;>rfl
theorem Fh (hl:l.length<=200000){aF:Int}{s:RS}(hd:s.data=[])(hx:s.x=[])(h:0<=s.a):HH n l aF s s.ai.length=eV n l (vL n l aF s):=by
 have h0:s.data.length=0:=by rw[hd];rfl
 have h1:s.x.length=0:=by rw[hx];rfl
 have:=JJ (n:=n) hl (s:={ s with aF:=aF }) (go:=λx e=>Pn n l { s with aF:=aF,x:=x,a:=e } 0 x.length s.ai.length) (goF:=λx e=>BW n l { s with aF:=aF,x:=x,a:=e }) λx e Up he2=>by
  have:=JM (n:=n) (l:=l) (s:={ s with aF:=aF,x:=x,a:=e }) (show 0<=e by have Up:s.a<e:=Up;omega);simp only[h0]at this;exact this
 simp only[h0,h1]at this;exact this
theorem agD (hl:l.length<=200000){s:RS}(h0:0<=s.a)(h1:s.a<l.length)(hw:1<=(jZ l s.a).length)(hw2:(jZ l s.a).length<=1000):dtT n l s=eV n l (Ay n l s):=by
 unfold dtT inL;rw[dS hl,fH (show (0:Int)<=s.a by omega),qG h1,fH (show (1:Int)<=(jZ l s.a).length by omega),dS (by omega)];rfl
theorem agE (hl:l.length<=200000){s:RS}(h0:0<=s.a)(h1:s.a<l.length):dcT n l s=eV n l (Ml n l s):=by
 unfold dcT inL;rw[dS hl,fH (show (0:Int)<=s.a by omega),qG h1];rfl
theorem agF (hl:l.length<=200000){s:RS}(hd:s.data=[])(hx:s.x=[])(h0:0<=s.a)(h1:s.a<l.length)(hw:1<=(jZ l s.a).length)(hw2:(jZ l s.a).length<=1000):rsT n l s s.ai.length=eV n l (HG n l s):=by
 obtain⟨t,ht⟩:=tA h0 h1;have e:jZ l s.a=t.2.2.1:=by unfold jZ;rw[ht]
 unfold rsT ye HG;rw[getI_at?,ht];rw[e]at hw hw2 ⊢;show ah (!bB t.2.2.1.length 1&&Nat.ble t.2.2.1.length 2000000) _ none=_;rw[fH (by omega),dS (by omega),i64_in (n:=s.a+1) (by omega) (by omega)];exact Fh (n:=n) hl (s:={ s with sz:=rq t.2.2.1,a:=s.a+1 }) hd hx (show 0<=s.a+1 by omega)
theorem Xo (hl:l.length<=200000){aF:Int}{s:RS}(hd:s.data=[])(hx:s.x=[])(h0:0<=s.a)(h1:s.a<l.length):alT n l aF s s.ai.length=eV n l (vL n l aF { s with a:=s.a+1 }):=by
 unfold alT;rw[i64_in (n:=s.a+1) (by omega) (by omega)];exact Fh (n:=n) hl (s:={ s with a:=s.a+1 }) hd hx (show 0<=s.a+1 by omega)
theorem zm (hl:l.length<=200000){s:RS}(hd:s.data=[])(hx:s.x=[])(h0:0<=s.a)(h1:s.a<l.length):Tk n l s s.ai.length=eV n l (Pk n l s):=by
 have g0:s.data.length=0:=by rw[hd];rfl
 have g1:s.x.length=0:=by rw[hx];rfl
 unfold Tk Pk;rw[i64_in (n:=s.a+1) (by omega) (by omega),i64_in (n:=s.a+2) (by omega) (by omega)];have:=JL (n:=n) (l:=l) (s:={ s with aF:=6 }) (i:=s.a+1) (by omega) (k:=λt=>Pn n l { s with aF:=6,lab:=t,a:=s.a+2 } 0 0 s.ai.length) (kF:=λs=>BW n l { s with a:=s.a+2 }) λt _=>by
  have:=JM (n:=n) (l:=l) (s:={ s with aF:=6,lab:=t,a:=s.a+2 }) (show 0<=s.a+2 by omega);simp only[g0,g1]at this;exact this
 simp only[g0,g1]at this;exact this
theorem agG (hl:l.length<=200000){s:RS}(hd:s.data=[])(hx:s.x=[])(h0:0<=s.a)(h1:s.a<l.length):enT n l s s.ai.length=eV n l (Xl n l s):=by
 have g0:s.data.length=0:=by rw[hd];rfl
 have g1:s.x.length=0:=by rw[hx];rfl
 unfold enT Xl;rw[i64_in (n:=s.a+1) (by omega) (by omega)];have:=JM (n:=n) (l:=l) (s:={ s with aF:=7,a:=s.a+1 }) (show 0<=s.a+1 by omega);simp only[g0,g1]at this;exact this
theorem aaZ (hl:l.length<=200000){s:RS}(hd:s.data=[])(hx:s.x=[]):agB n l s s.ai.length=eV n l (aaW n l s):=by
 have g0:s.data.length=0:=by rw[hd];rfl
 have g1:s.x.length=0:=by rw[hx];rfl
 have hf:=qh (n:=n) (l:=l) (s:=s) (e:=(eA l s.a).2.2.2.1) (Pj (a:=s.a) hl);rw[g0,g1]at hf;unfold agB aaW;rw[dS hl,hf];show ah (!bI (eA l s.a).2.2.2.1 0) _ _=_;rw[cw];by_cases he:(eA l s.a).2.2.2.1=0
 .rw[ag he,aa (show ¬(eA l s.a).2.2.2.1≠0 from λq=>q he)];show Fe true n l _ 0 0 s.ai.length=Fe true n l _ s.data.length s.x.length s.ai.length;rw[g0,g1]
 rw[aa he,ag he]
theorem agH (hl:l.length<=200000){w:List UInt8}{s:RS}(hd:s.data=[])(hx:s.x=[])(hw:rM l s.a=some w):wsT n l w s s.ai.length=eV n l (kj n l w s):=by
 obtain⟨h0,h1,hw2⟩:=Q6 hw;have hdt:∀w0:List UInt8,w=w0->1<=w0.length->w0.length<=1000->dtT n l s=eV n l (Ay n l s):=λw0 e g1 g2=>agD hl h0 h1 (by rw[hw2,e];exact g1) (by rw[hw2,e];exact g2)
 have Kk:∀w0:List UInt8,w=w0->1<=w0.length->w0.length<=1000->rsT n l s s.ai.length=eV n l (HG n l s):=λw0 e g1 g2=>agF hl hd hx h0 h1 (by rw[hw2,e];exact g1) (by rw[hw2,e];exact g2)
 have hmem:∀L:List (List UInt8),(∀v∈L,w≠v)->w ∉ L:=λL h hm=>h w hm rfl
 unfold wsT;simp only[fB,j7,uq];by_cases e1:w=[100,98]
 .rw[ag e1,hdt _ e1 (by decide) (by decide)];unfold kj;rw[ag (by rw[e1];decide)]
 rw[aa e1];by_cases e2:w=[100,119]
 .rw[ag e2,hdt _ e2 (by decide) (by decide)];unfold kj;rw[ag (by rw[e2];decide)]
 rw[aa e2];by_cases e3:w=[100,100]
 .rw[ag e3,hdt _ e3 (by decide) (by decide)];unfold kj;rw[ag (by rw[e3];decide)]
 rw[aa e3];by_cases e4:w=[100,113]
 .rw[ag e4,hdt _ e4 (by decide) (by decide)];unfold kj;rw[ag (by rw[e4];decide)]
 rw[aa e4];have k1:w ∉ Xk:=hmem _ λv hv=>by
  simp only[Xk,bx,kC,or_false]at hv;rcases hv with rfl|rfl|rfl|rfl<;>assumption
 by_cases e5:w=[114,101,115,98]
 .rw[ag e5,Kk _ e5 (by decide) (by decide)];unfold kj;rw[aa k1,ag (by rw[e5];decide)]
 rw[aa e5];by_cases e6:w=[114,101,115,119]
 .rw[ag e6,Kk _ e6 (by decide) (by decide)];unfold kj;rw[aa k1,ag (by rw[e6];decide)]
 rw[aa e6];by_cases e7:w=[114,101,115,100]
 .rw[ag e7,Kk _ e7 (by decide) (by decide)];unfold kj;rw[aa k1,ag (by rw[e7];decide)]
 rw[aa e7];by_cases e8:w=[114,101,115,113]
 .rw[ag e8,Kk _ e8 (by decide) (by decide)];unfold kj;rw[aa k1,ag (by rw[e8];decide)]
 rw[aa e8];have k2:w ∉ agy:=hmem _ λv hv=>by
  simp only[agy,bx,kC,or_false]at hv;rcases hv with rfl|rfl|rfl|rfl<;>assumption
 unfold kj;rw[aa k1,aa k2,Xo hl hd hx h0 h1,Xo hl hd hx h0 h1,zm hl hd hx h0 h1,agG hl hd hx h0 h1,agE hl h0 h1,aaZ hl hd hx];have hf:=qh (n:=n) (l:=l) (s:=s) (e:=4) h0;rw[show s.data.length=0 by rw[hd];rfl,show s.x.length=0 by rw[hx];rfl]at hf;rw[hf,au];repeat' split
 all_goals rfl
theorem aa0 {w:List UInt8}{dm:Bool}{s:RS}{K:dZ}(hd:s.data=[])(hx:s.x=[])(h0:0<=s.a)(hK:K=eV n l (kj n l w s)):agC n l w dm s s.ai.length K=eV n l (Tj n l w dm s):=by
 have hf:=qh (n:=n) (l:=l) (s:=s) (e:=4) h0;rw[show s.data.length=0 by rw[hd];rfl,show s.x.length=0 by rw[hx];rfl]at hf;subst hK;unfold agC F4 Tj;simp only;rw[hf];simp only[uq,Tl];have b1:ah dm (eV n l (hU n l s 4 s.a)) (if s.lab=[] then eV n l (kj n l w s) else eV n l (hU n l s 4 s.a))=eV n l (if dm=true\/s.lab≠[] then hU n l s 4 s.a else kj n l w s):=by
  cases dm with
  |true=>rw[ag (show true=true\/s.lab≠[] from .inl rfl)]
  |false =>
   show (if s.lab=[] then _ else _)=_;by_cases h:s.lab=[]
   .rw[ag h,aa (show ¬(false=true\/s.lab≠[]) from λq=>by rcases q with q|q;cases q;exact q h)]
   rw[aa h,ag (show false=true\/s.lab≠[] from .inr h)]
 have b2:ah dm (eV n l (hU n l s 4 s.a)) (eV n l (kj n l w s))=eV n l (if dm=true then hU n l s 4 s.a else kj n l w s):=by
  cases dm<;>rfl
 rw[b1,b2];by_cases e1:w=CV\/w=qW\/w=Az
 .have hB:(if w=CV then if w=CV then eV n l (if dm=true\/s.lab≠[] then hU n l s 4 s.a else kj n l w s) else if w=qg then eV n l (if dm=true then hU n l s 4 s.a else kj n l w s) else eV n l (kj n l w s)
   else if w=qW then if w=qW then eV n l (if dm=true\/s.lab≠[] then hU n l s 4 s.a else kj n l w s) else if w=qg then eV n l (if dm=true then hU n l s 4 s.a else kj n l w s) else eV n l (kj n l w s)
   else if w=Az then eV n l (if dm=true\/s.lab≠[] then hU n l s 4 s.a else kj n l w s) else if w=qg then eV n l (if dm=true then hU n l s 4 s.a else kj n l w s) else eV n l (kj n l w s))=eV n l (if dm=true\/s.lab≠[] then hU n l s 4 s.a else kj n l w s):=by
   by_cases a1:w=CV
   .rw[ag a1,ag a1]
   rw[aa a1];by_cases a2:w=qW
   .rw[ag a2,ag a2]
   rw[aa a2,ag (by rcases e1 with e|e|e;exact absurd e a1;exact absurd e a2;exact e)]
  rw[hB];have hna:w≠qg:=λe=>by rw[e]at e1;revert e1;decide
  by_cases ht:dm=true\/s.lab≠[]
  .rw[ag ht,ag (show (w=CV\/w=qW\/w=Az)/\(dm=true\/s.lab≠[]) from ⟨e1,ht⟩)]
  rw[aa ht,aa (show ¬((w=CV\/w=qW\/w=Az)/\(dm=true\/s.lab≠[])) from λq=>ht q.2),aa (show ¬(w=qg/\dm=true) from λq=>hna q.1)]
 simp only[kL]at e1;rw[aa e1.1,aa e1.2.1,aa e1.2.2,aa (show ¬((w=CV\/w=qW\/w=Az)/\(dm=true\/s.lab≠[])) from λq=>by rcases q.1 with q|q|q;exact e1.1 q;exact e1.2.1 q;exact e1.2.2 q)];by_cases ha:w=qg
 .rw[ag ha];by_cases ht:dm=true
  .rw[ag ht,ag (show w=qg/\dm=true from ⟨ha,ht⟩)]
  rw[aa ht,aa (show ¬(w=qg/\dm=true) from λq=>ht q.2)]
 rw[aa ha,aa (show ¬(w=qg/\dm=true) from λq=>ha q.1)]
theorem Xp {dm:Bool}{s:RS}{K:List UInt8->dZ}(hd:s.data=[])(hx:s.x=[])(h0:0<=s.a)(hK:∀w,rM l s.a=some w->K w=eV n l (Tj n l w dm s)):yB n l dm s s.ai.length K=eV n l (tB n l dm s):=by
 have g0:s.data.length=0:=by rw[hd];rfl
 have g1:s.x.length=0:=by rw[hx];rfl
 have hf:=qh (n:=n) (l:=l) (s:=s) (e:=4) h0;rw[g0,g1]at hf;have h1:=Q7 (l:=l) h0 (eV n l (hU n l s 4 s.a)) K (A:=λ_ _=>none) (none:dZ);have h2:yB n l dm s s.ai.length K=ah (bI s.a l.length) (ah (!dm) (Fe true n l s 0 0 s.ai.length) (eV n l (hU n l s 4 s.a))) (ah (bB s.a l.length) ((dQ l s.a).elim none λy=>ah (!bI y.1 1) (eV n l (hU n l s 4 s.a)) ((dQ l s.a).elim none λz=>K z.2.2.1)) (eV n l (hU n l s 4 s.a))):=by
  unfold yB F4 ye;rw[hf];cases dQ l s.a<;>rfl
 rw[h2,h1,cq];unfold tB;by_cases ha:s.a=l.length
 .rw[ag ha,ag ha];cases dm with
  |true=>rfl
  |false =>
   show Fe true n l s 0 0 s.ai.length=Fe true n l s s.data.length s.x.length s.ai.length;rw[g0,g1]
 rw[aa ha,aa ha];cases hn:rM l s.a with
 |none=>rfl
 |some w=>exact hK w hn
end
def kb (n:Int)(l:List Tok)(r:Nat)(p:List Bool)(f:fM)(H:aG):dZ:=codeFrom X0 cL CW r 19 p yd f H
section
variable {n:Int} {l:List Tok} {r:Nat}
theorem apo (hl:l.length<=200000){w:List UInt8}{a:Int}{lab:List UInt8}{ai:List Nd}(hw:rM l a=some w):kb n l r p9 (fr9 w) (HC n l (st0 a lab ai) 0 0 ai.length)=eV n l (kj n l w (st0 a lab ai)) :=
 (alj n l r w a lab ai).trans (agH (s:=st0 a lab ai) hl rfl rfl hw)
theorem apq (hl:l.length<=200000){w:List UInt8}{dm:Bool}{a:Int}{lab:List UInt8}{ai:List Nd}(hw:rM l a=some w):kb n l r p8 (fr8 dm w) (HC n l (st0 a lab ai) 0 0 ai.length)=eV n l (Tj n l w dm (st0 a lab ai)):=by
 have h:=uv (X:=X0) (call:=cL) (an:=CW) (rounds:=r) (id:=19) (p:=p8) (q:=[]) (by kernel_rfl) yd (fr8 dm w) (HC n l (st0 a lab ai) 0 0 ai.length);exact h.trans ((alk n l r w dm a lab ai _).trans (aa0 (s:=st0 a lab ai) rfl rfl (Q6 hw).1 (apo hl hw)))
theorem alp (hl:l.length<=200000){dm:Bool}{a:Int}{lab:List UInt8}{ai:List Nd}(h0:0<=a):yB n l dm (st0 a lab ai) ai.length (λw=>kb n l r p8 (fr8 dm w) (HC n l (st0 a lab ai) 0 0 ai.length))=eV n l (tB n l dm (st0 a lab ai)) :=
 Xp (s:=st0 a lab ai) rfl rfl h0 λw hw=>apq hl hw
theorem apr (hl:l.length<=200000){dm:Bool}{a:Int}{lab:List UInt8}(h0:0<=a)(h1:a<=l.length):kb n l r p4 (fr4 dm) (HC n l (st0 a lab []) 0 0 0)=eV n l (if dm=true then Mk n l (st0 (a+1) lab []) λx e=>tB n l true (st0 e lab x) else tB n l false (st0 a lab [])):=by
 have h:=uv (X:=X0) (call:=cL) (an:=CW) (rounds:=r) (id:=19) (p:=p4) (q:=[true,true,true]) (by kernel_rfl) yd (fr4 dm) (HC n l (st0 a lab []) 0 0 0);refine h.trans ((alm n l r dm a lab _).trans ?_);rw[i64_in (n:=a+1) (by omega) (by omega)];cases dm with
 |true =>
  exact JJ (n:=n) hl (s:=st0 (a+1) lab []) (goF:=λx e=>tB n l true (st0 e lab x)) λx e Up he2=>alp (dm:=true) hl (by have Up:a+1<e:=Up;omega)
 |false=>exact alp (dm:=false) hl h0
theorem aps (hl:l.length<=200000){a:Int}{lab:List UInt8}(h0:0<=a)(h1:a<=l.length):kb n l r p3 fr3 (HC n l (st0 a lab []) 0 0 0)=eV n l (sM n l (st0 a lab [])):=by
 have h:=uv (X:=X0) (call:=cL) (an:=CW) (rounds:=r) (id:=19) (p:=p3) (q:=[]) (by kernel_rfl) yd fr3 (HC n l (st0 a lab []) 0 0 0);refine h.trans ((aln n l r a lab _).trans ?_);have go:∀b:Bool,codeFrom X0 cL CW r 19 (p3++[true]) yd (fr4 b) (HC n l (st0 a lab []) 0 0 0)=eV n l (if b=true then Mk n l (st0 (a+1) lab []) λx e=>tB n l true (st0 e lab x) else tB n l false (st0 a lab [])):=λb=>apr hl h0 h1
 simp only[go];unfold sM;show _=eV n l (if rM l a=some Fg then Mk n l (st0 (a+1) lab []) λx e=>tB n l true (st0 e lab x) else tB n l false (st0 a lab []));unfold ye;rw[cF,getI_at?];cases jx:at? l a with
 |none =>
  have:=ju h0 jx;rw[aa (by omega),xX jx];rfl
 |some t =>
  rw[ag (jj jx).2,uw jx];show ah (bI t.1 1) (eV n l (if decide (t.2.2.1=Fg)=true then _ else _)) _=_;rw[cq];by_cases h1:t.1=1
  .rw[ag h1,ag h1];by_cases h2:t.2.2.1=Fg
   .rw[ag (aX h2),ag (by rw[h2])]
   rw[aa (by simpa using h2),aa (λq=>h2 (bM q))]
  rw[aa h1,aa h1,aa (by simp)];rfl
theorem Xq (hl:l.length<=200000){K:RS->dZ}(hK:∀a lab,0<=a->a<=(l.length:Int)->K (st0 a lab [])=eV n l (sM n l (st0 a lab []))):sv n l K=eV n l (ru n l rN):=by
 have hz:K rN=eV n l (sM n l rN):=hK 0 [] (by omega) (by omega);unfold sv ru;simp only;have hno:(ah (bB 0 l.length) (ye l 0 λy=>ah (bI y.1 1) (ah (bB 1 l.length) (ye l 1 λy=>ah (bI y.1 4) (ye l 1 λy=>ah (decide (y.2.2.1=[58])) (JK n l rN 0 0 0 0 λt=>K (st0 2 t [])) (K rN)) (K rN)) (K rN)) (K rN)) (K rN)) =
  eV n l (if (rM l 0).isSome=true/\dI l 1 [58]=true then Mp n l 0 rN λs=>sM n l { s with a:=2 } else sM n l rN):=by
  rw[hz];unfold ye;rw[cF,show dQ l (0:Int)=at? l 0 by rw[getI_at?]];cases jx:at? l 0 with
  |none =>
   have:=ju (by omega) jx;rw[aa (by omega),aa (λq=>by rw[xX jx]at q;cases q.1)]
  |some t =>
   rw[ag (jj jx).2];show ah (bI t.1 1) _ _=_;rw[cq];by_cases h1:t.1=1
   .rw[ag h1,cF,show dQ l (1:Int)=at? l 1 by rw[getI_at?]];have hs:(rM l 0).isSome=true:=by rw[uw jx,ag h1];rfl
    cases vR:at? l 1 with
    |none =>
     have:=ju (by omega) vR;have hb:dI l 1 [58]=false:=by unfold dI;rw[vR]
     rw[aa (by omega),aa (λq=>by rw[hb]at q;cases q.2)]
    |some c =>
     have hlt:=(jj vR).2;have hb:dI l 1 [58]=(bI c.1 4&&decide (c.2.2.1=[58])):=by unfold dI;rw[vR];exact Jt c [58]
     have hlab:=JL (n:=n) (l:=l) (s:=rN) (i:=0) (by omega) (k:=λt=>K (st0 2 t [])) (kF:=λs=>sM n l { s with a:=2 }) λt _=>hK 2 t (by omega) (by omega)
     have hlab:JK n l rN 0 0 0 0 (λt=>K (st0 2 t []))=_:=hlab;rw[ag hlt,hlab];show ah (bI c.1 4) (ah (decide (c.2.2.1=[58])) _ _) _=_;cases h4:bI c.1 4 with
     |false=>rw[aa (λq=>by rw[hb,h4]at q;cases q.2)]
     |true =>
      cases h5:decide (c.2.2.1=[58]) with
      |false=>rw[aa (λq=>by rw[hb,h4,h5]at q;cases q.2)]
      |true=>rw[ag ⟨hs,by rw[hb,h4,h5];rfl⟩]
   rw[aa h1,aa (λq=>by rw[uw jx,aa h1]at q;cases q.1)]
 rw[hno];unfold ye;rw[cF,show dQ l (1:Int)=at? l 1 by rw[getI_at?]];cases jx:at? l 1 with
 |none =>
  have:=ju (by omega) jx;rw[aa (by omega),aa (show ¬rM l 1=some Mo from λq=>by rw[xX jx]at q;cases q)]
 |some t =>
  have hlt:=(jj jx).2;have hlab:=JL (n:=n) (l:=l) (s:=rN) (i:=0) (by omega) (k:=λt=>HH n l 3 { rN with lab:=t,a:=2 } 0) (kF:=λs=>vL n l 3 { s with a:=2 }) λt _=>Fh (s:={ rN with lab:=t,a:=2 }) hl rfl rfl (show (0:Int)<=2 by decide)
  have hlab:JK n l rN 0 0 0 0 (λt=>HH n l 3 { rN with lab:=t,a:=2 } 0)=_:=hlab;rw[ag hlt,hlab];show ah (bI t.1 1) (ah (decide (t.2.2.1=Mo)) _ _) _=_;rw[cq,uq,uw jx];by_cases h1:t.1=1
  .rw[ag h1,ag h1];by_cases h2:t.2.2.1=Mo
   .rw[ag h2,ag (show some t.2.2.1=some Mo by rw[h2])];rfl
   rw[aa h2,aa (show ¬some t.2.2.1=some Mo from λq=>h2 (bM q))]
  rw[aa h1,aa h1,aa (show ¬(none:Option (List UInt8))=some Mo by simp)]
theorem Fi (hl:l.length<=200000):aT X0 cL CW r 19 [.ptr 0 0] (ji 66 14 (Hy n l rN)) yd=eV n l (ru n l rN):=by
 rw[EJ (p:=p3) (by kernel_rfl),alo];exact Xq hl λa lab h0 h1=>aps hl h0 h1
end
def isZ (s:RS):Bool:=decide (s.a=0)&&decide (s.lab=[])&&decide (s.aF=0)&&decide (s.sz=0)&&decide (s.op=0)&&decide (s.aM=0)&&s.ai.isEmpty&&decide (s.e=0)&&decide (s.f=0)
def FLn:FRd:=λn l s=>some (Nat.ble l.length 200000&&isZ s,ru n l rN)
theorem agI:gq X0 fR 19 (cRd FLn) :=
 Pf rfl HB adx λn l s b s' h1 h2 h3 hF=>by
  obtain⟨a,lab,aF,sz,op,aM,args,data,x,ai,e,f⟩:=s;have h1:args=[]:=h1;have h2:data=[]:=h2;have h3:x=[]:=h3;subst h1;subst h2;subst h3;unfold FLn isZ at hF;simp only[aq,ax,ak,aV,gU]at hF;obtain⟨⟨g1,⟨⟨⟨⟨⟨⟨⟨⟨rfl,rfl⟩,rfl⟩,rfl⟩,rfl⟩,rfl⟩,rfl⟩,rfl⟩,rfl⟩⟩,hF⟩:=hF;refine⟨CW,5,(Fi (ay g1)).trans ?_⟩;rw[hF];rfl
def NL:List pI:=(19,cRd FLn)::ND
theorem adz:gR X0 fR NL:=.cons agI adx
def stL (s:RS):AV:=.agg [.str s.lab,.int .i64 s.aF,.int .i64 s.sz,.int .i64 s.op,.int .i64 s.aM,.dH jV s.args,.dH Fc s.data,.dH eC s.x,.dH eC s.ai]
def rdL (r:RS×Int×Int):List AV:=[stL r.1,.agg [.int .i64 r.2.1,.int .i64 r.2.2]]
def sgS:List (List (Option Tv.Ty)):=[[none,none,none,none,none,some jV,some Fc,some eC,some eC],[none,none]]
def rdT (s:List UInt8):rL :=
 ah (!bI (lt.kf s).2.1 0) (some (rdL (rN,(lt.kf s).2.1,(lt.kf s).2.2)))
  (ah (((Nat.ble (lt.kf s).1.length 200000&&true)&&true)&&true)
   (ah (!(ru s.length (lt.kf s).1 rN).1) (some (rdL (rN,(ru s.length (lt.kf s).1 rN).2.e,(ru s.length (lt.kf s).1 rN).2.f))) (some (rdL ((ru s.length (lt.kf s).1 rN).2,0,0)))) none)
theorem aa1 (s:List UInt8):aT X0 (cN P3 NL _) gG 5 12 [.str s] aG.empty (rK sgS)=rdT s:=by kernel_rfl
theorem Fj (s:List UInt8):∀(m:Nat) (r:List UInt8),(lt.sD s m r).1.length<=m
 |0,_=>by simp[lt.sD]
 |m+1,[]=>by simp[lt.sD]
 |m+1,c::r=>by
  unfold lt.sD;split
  .have:=Fj s m r;omega
  split
  .simp
  split
  .have:=Fj s m (s.drop (lt.jM s c (s.length-(r.length+1))).2.1.toNat);simp only[aJ];omega
  simp
theorem Xr (s:List UInt8):(lt.kf s).1.length<=1000:=by
 unfold lt.kf;split
 .simp
 rename_i h;split
 .have:=Fj s s.length s;show (lt.sD s s.length s).1.length<=1000;omega
 simp
theorem agJ (s:List UInt8):rdT s=some (rdL (gI s)):=by
 have hl:=Xr s;unfold rdT gI;rw[dS (show (lt.kf s).1.length<=200000 by omega),cw];by_cases h:(lt.kf s).2.1=0
 .rw[ag h,aa (show ¬(lt.kf s).2.1≠0 from λq=>q h)];show ah (!(ru s.length (lt.kf s).1 rN).1) _ _=_;cases (ru s.length (lt.kf s).1 rN).1<;>rfl
 rw[aa h,ag h]
def fRd (args:List AV):Option (Bool×List AV) :=
 match args with
 |[.str s]=>some (true,rdL (gI s))
 |_=>none
theorem Mr:gq X0 fR 12 ⟨none,[none],gV fRd⟩ :=
 Q3 rfl HB adz sgS λvs ws hf=>by
  unfold fRd at hf;split at hf;case h_2=>cases hf
  rename_i s;simp only[aq,ax]at hf;obtain⟨_,rfl⟩:=hf;refine⟨rfl,gG,5,?_⟩;rw[aa1,agJ]
def NR:List pI:=(12,⟨none,[none],gV fRd⟩)::NL
theorem adA:gR X0 fR NR:=.cons Mr adz
end
end Go.Proofs.YtbeckacfibledaaGreatDoor.ps

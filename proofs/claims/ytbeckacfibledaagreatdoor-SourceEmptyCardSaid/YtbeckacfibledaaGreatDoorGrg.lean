/- Lines: reading one, as it runs. Lines: the contract of reading one. Lines: the contract of Read. -/
import Derived.Test.YtbeckacfibledaaGreatDoorGrf
set_option linter.unusedVariables false
set_option linter.unusedSimpArgs false

namespace Go.Proofs.YtbeckacfibledaaGreatDoor.ps
open Go.Tv Go.Ev Go.Px Go.Pp Go.Proofs.YtbeckacfibledaaGreatDoor.ex
set_option maxRecDepth 100000
noncomputable section
def p3:List Bool:=[true,true,true]
def p4:List Bool:=[true,true,true,true]
def p8:List Bool:=[true,true,true,true,true,true,true,true]
def p9:List Bool:=[true,true,true,true,true,true,true,true,true]
def Da:ei:=⟨rR (gD [0] p3) (rR (gD [0,3] p4) (rR (gD [0,3,4] p8) (gD [0,4] p9))),.none,[]⟩
def fr3:fJ:=kr 143 [(0,.ptr 0 0)]
def fr4 (b:Bool):fJ:=kr 143 [(0,.ptr 0 0),(3,.bool b)]
def fr8 (b:Bool)(w:List UInt8):fJ:=kr 143 [(0,.ptr 0 0),(3,.bool b),(4,.str w)]
def fr9 (w:List UInt8):fJ:=kr 143 [(0,.ptr 0 0),(4,.str w)]
abbrev cL:cI (List fN×List Nat):=cN P3 ND _
section
variable (n:Int) (l:List Tok)
def JW (s:RS)(nd nx nt:Nat)(i:Int)(k:List UInt8->dZ):dZ :=
 ah (bC i l.length) (yw l i λy=>ah (!bI y.1 1) (nD n l s nd nx nt 4 i) (yw l i λy=>ah (lt.vu y.2.2.1) (nD n l s nd nx nt 7 i) (k y.2.2.1))) (nD n l s nd nx nt 4 i)
def PK (s:RS)(nd nx nt:Nat):dZ:=ah (bI s.a l.length) (Fs true n l s nd nx nt) (nD n l s nd nx nt 4 s.a)
def HT (aF:Int)(s:RS)(nt:Nat):dZ:=exT n l { s with aF:=aF } 0 0 nt λx e=>PK n l { s with aF:=aF,x:=x,a:=e } 0 x.length nt
def st0 (a:Int)(lab:List UInt8)(ai:List Nd):RS:=⟨a,lab,0,0,0,0,[],[],[],ai,0,0⟩
def dtT (s:RS):dZ:=ah (((inL l s.a&&(!bC (j6 l s.a).length 1&&Nat.ble (j6 l s.a).length 2000000))&&true)&&true) (eW n l (AO n l s)) none
def dcT (s:RS):dZ:=ah ((inL l s.a&&true)&&true) (eW n l (My n l s)) none
def rsT (s:RS)(nt:Nat):dZ:=yw l s.a λy=>ah (!bC y.2.2.1.length 1&&Nat.ble y.2.2.1.length 2000000) (HT n l 8 { s with sz:=rE y.2.2.1,a:=IntKind.wrap .i64 (s.a+1) } nt) none
def alT (aF:Int)(s:RS)(nt:Nat):dZ:=HT n l aF { s with a:=IntKind.wrap .i64 (s.a+1) } nt
def TI (s:RS)(nt:Nat):dZ:=JW n l { s with aF:=6 } 0 0 nt (IntKind.wrap .i64 (s.a+1)) λt=>PK n l { s with aF:=6,lab:=t,a:=IntKind.wrap .i64 (s.a+2) } 0 0 nt
def enT (s:RS)(nt:Nat):dZ:=PK n l { s with aF:=7,a:=IntKind.wrap .i64 (s.a+1) } 0 0 nt
def ag7 (s:RS)(nt:Nat):dZ:=ah (Nat.ble l.length 200000) (ah (!bI (eA l s.a).2.2.2.1 0) (nD n l s 0 0 nt (eA l s.a).2.2.2.1 (eA l s.a).2.2.2.2)
 (Fs true n l { s with aF:=1,op:=(eA l s.a).1,aM:=(eA l s.a).2.1,args:=(eA l s.a).2.2.1 } 0 0 nt)) none
def wsT (w:List UInt8)(s:RS)(nt:Nat):dZ :=
 [(
  [100,98],dtT n l s),([100,119],dtT n l s),([100,100],dtT n l s),([100,113],dtT n l s),([114,101,115,98],rsT n l s nt),([114,101,115,119],rsT n l s nt),([114,101,115,100],rsT n l s nt),([114,101,115,113],rsT n l s nt),
  (qp,alT n l 4 s nt),(C9,alT n l 5 s nt),(rA,TI n l s nt),(AP,enT n l s nt),(alU,dcT n l s)].foldr (λq r=>ah (decide (w=q.1)) q.2 r) (ah (nm.lC w).2 (ag7 n l s nt) (nD n l s 0 0 nt 4 s.a))
end
def j9 (n:Int)(l:List Tok)(r:Nat)(w:List UInt8)(s:RS)(nt:Nat):dZ:=codeFrom X0 cL Da r 19 p9 yu (fr9 w) (HQ n l s 0 0 nt)
theorem alW (n:Int)(l:List Tok)(r:Nat)(w:List UInt8)(a:Int)(lab:List UInt8)(ai:List Nd):j9 n l r w (st0 a lab ai) ai.length=wsT n l w (st0 a lab ai) ai.length:=by kernel_rfl
def F4 (n:Int)(l:List Tok)(s:RS)(nt:Nat):dZ:=nD n l s 0 0 nt 4 s.a
def ag8 (n:Int)(l:List Tok)(w:List UInt8)(dx:Bool)(s:RS)(nt:Nat)(K:dZ):dZ :=
 (λb1 al:dZ=>ah (decide (w=C9)) (ah (decide (w=C9)) b1 al) (ah (decide (w=rA)) (ah (decide (w=rA)) b1 al) (ah (decide (w=AP)) b1 al)))
  (ah dx (F4 n l s nt) (ah (!decide (s.lab=[])) (F4 n l s nt) K)) (ah (decide (w=qp)) (ah dx (F4 n l s nt) K) K)
theorem alX (n:Int)(l:List Tok)(r:Nat)(w:List UInt8)(dx:Bool)(a:Int)(lab:List UInt8)(ai:List Nd)(K:fJ->aG->dZ) :
 PJ X0 cL Da r 19 p8 [true] yu K (fr8 dx w) (HQ n l (st0 a lab ai) 0 0 ai.length)=ag8 n l w dx (st0 a lab ai) ai.length (K (fr9 w) (HQ n l (st0 a lab ai) 0 0 ai.length)):=by kernel_rfl
def yL (n:Int)(l:List Tok)(dx:Bool)(s:RS)(nt:Nat)(K:List UInt8->dZ):dZ :=
 ah (bI s.a l.length) (ah (!dx) (Fs true n l s 0 0 nt) (F4 n l s nt))
  (ah (bC s.a l.length) (yw l s.a λy=>ah (!bI y.1 1) (F4 n l s nt) (yw l s.a λz=>K z.2.2.1)) (F4 n l s nt))
theorem alY (n:Int)(l:List Tok)(r:Nat)(dx:Bool)(a:Int)(lab:List UInt8)(K:fJ->aG->dZ) :
 PJ X0 cL Da r 19 p4 [true,true,true,true] yu K (fr4 dx) (HQ n l (st0 a lab []) 0 0 0) =
  ah dx (exT n l (st0 (IntKind.wrap .i64 (a+1)) lab []) 0 0 0 λx e=>yL n l dx (st0 e lab x) x.length λw=>K (fr8 dx w) (HQ n l (st0 e lab x) 0 0 x.length))
   (yL n l dx (st0 a lab []) 0 λw=>K (fr8 dx w) (HQ n l (st0 a lab []) 0 0 0)):=by kernel_rfl
theorem alZ (n:Int)(l:List Tok)(r:Nat)(a:Int)(lab:List UInt8)(K:fJ->aG->dZ) :
 PJ X0 cL Da r 19 p3 [true] yu K fr3 (HQ n l (st0 a lab []) 0 0 0) =
  (λgo:Bool->dZ=>ah (bC a l.length) (yw l a λy=>ah (bI y.1 1) (yw l a λz=>go (decide (z.2.2.1=Fu))) (go false)) (go false)) λb=>K (fr4 b) (HQ n l (st0 a lab []) 0 0 0):=by kernel_rfl
def sG (n:Int)(l:List Tok)(K:RS->dZ):dZ :=
 (λno:dZ=>ah (bC 1 l.length) (yw l 1 λy=>ah (bI y.1 1) (yw l 1 λy=>ah (decide (y.2.2.1=MB)) (JW n l qq 0 0 0 0 λt=>HT n l 3 { qq with lab:=t,a:=2 } 0) no) no) no)
  (ah (bC 0 l.length) (yw l 0 λy=>ah (bI y.1 1) (ah (bC 1 l.length) (yw l 1 λy=>ah (bI y.1 4) (yw l 1 λy=>ah (decide (y.2.2.1=[58])) (JW n l qq 0 0 0 0 λt=>K (st0 2 t [])) (K qq)) (K qq)) (K qq)) (K qq)) (K qq))
theorem al0 (n:Int)(l:List Tok)(r:Nat)(K:fJ->aG->dZ) :
 aaK X0 cL Da r 19 p3 [.ptr 0 0] (jn 66 14 (HM n l qq)) yu K=sG n l λs=>K fr3 (HQ n l s 0 0 0):=by kernel_rfl
theorem TJ {α:Type}{p:Prop}[Decidable p](x y:α):ah (!decide p) x y=if p then y else x:=by
 by_cases h:p
 .rw[ag h,aX h];rfl
 rw[aa h,aU h];rfl
section
variable {n:Int} {l:List Tok}
theorem qs {s:RS}{e i:Int}(h:0<=i):nD n l s s.data.length s.x.length s.ai.length e i=eW n l (iq n l s e i):=xz h
theorem uH {i:Int}{t:Tok}(jG:at? l i=some t):rW l i=if t.1=1 then some t.2.2.1 else none:=by unfold rW;rw[jG]
theorem yd {i:Int}(jG:at? l i=none):rW l i=none:=by unfold rW;rw[jG]
theorem Ro {i:Int}{w:List UInt8}(h:rW l i=some w):0<=i/\i<l.length/\j6 l i=w:=by
 unfold rW at h;unfold j6;cases jG:at? l i with
 |none=>rw[jG]at h;cases h
 |some t =>
  rw[jG]at h;simp only at h ⊢;split at h
  .cases h;exact⟨(jo jG).1,(jo jG).2,rfl⟩
  cases h
theorem Rp {α:Type}{i:Int}(h:0<=i)(no:α)(yes:List UInt8->α){A:Tok->(Tok->α)->α}(d:α) :
 ah (bC i l.length) ((dQ l i).elim d λy=>ah (!bI y.1 1) no ((dQ l i).elim d λz=>yes z.2.2.1)) no=(match rW l i with|none=>no|some t=>yes t):=by
 rw[cA,getI_at?];cases jG:at? l i with
 |none =>
  have:=jz h jG;rw[aa (by omega),yd jG]
 |some t =>
  rw[ag (jo jG).2,uH jG];show ah (!bI t.1 1) no (yes t.2.2.1)=_;rw[cn];by_cases h1:t.1=1
  .rw[ag h1,ag h1]
  rw[aa h1,aa h1]
theorem JX {s:RS}{i:Int}(h:0<=i){k:List UInt8->dZ}{kF:RS->LR} (hk:∀t,rW l i=some t->k t=eW n l (kF { s with lab:=t })):JW n l s s.data.length s.x.length s.ai.length i k=eW n l (MD n l i s kF):=by
 have h1:=Rp (l:=l) h (nD n l s s.data.length s.x.length s.ai.length 4 i) (λt=>ah (lt.vu t) (nD n l s s.data.length s.x.length s.ai.length 7 i) (k t)) (A:=λ_ _=>none) (none:dZ);have h2:JW n l s s.data.length s.x.length s.ai.length i k=ah (bC i l.length) ((dQ l i).elim none λy=>ah (!bI y.1 1) (nD n l s s.data.length s.x.length s.ai.length 4 i) ((dQ l i).elim none λz=>ah (lt.vu z.2.2.1) (nD n l s s.data.length s.x.length s.ai.length 7 i) (k z.2.2.1))) (nD n l s s.data.length s.x.length s.ai.length 4 i):=by
  unfold JW yw;cases dQ l i<;>rfl
 rw[h2,h1,qs h,qs h];unfold MD;cases hn:rW l i with
 |none=>rfl
 |some t =>
  simp only;rw[ax,hk t hn];split<;>rfl
theorem JY {s:RS}(h:0<=s.a):PK n l s s.data.length s.x.length s.ai.length=eW n l (Cc n l s):=by
 unfold PK Cc;rw[qs h,cq];split<;>rfl
theorem Fv (hl:l.length<=200000){aF:Int}{s:RS}(hd:s.data=[])(hx:s.x=[])(h:0<=s.a):HT n l aF s s.ai.length=eW n l (vU n l aF s):=by
 have h0:s.data.length=0:=by rw[hd];rfl
 have h1:s.x.length=0:=by rw[hx];rfl
 have:=JV (n:=n) hl (s:={ s with aF:=aF }) (go:=λx e=>PK n l { s with aF:=aF,x:=x,a:=e } 0 x.length s.ai.length) (goF:=λx e=>Cc n l { s with aF:=aF,x:=x,a:=e }) λx e UL he2=>by
  have:=JY (n:=n) (l:=l) (s:={ s with aF:=aF,x:=x,a:=e }) (show 0<=e by have UL:s.a<e:=UL;omega);simp only[h0]at this;exact this
 simp only[h0,h1]at this;exact this
theorem ag9 (hl:l.length<=200000){s:RS}(h0:0<=s.a)(h1:s.a<l.length)(hw:1<=(j6 l s.a).length)(hw2:(j6 l s.a).length<=1000):dtT n l s=eW n l (AO n l s):=by
 unfold dtT inL;rw[dS hl,fL (show (0:Int)<=s.a by omega),pZ h1,fL (show (1:Int)<=(j6 l s.a).length by omega),dS (by omega)];rfl
theorem aha (hl:l.length<=200000){s:RS}(h0:0<=s.a)(h1:s.a<l.length):dcT n l s=eW n l (My n l s):=by
 unfold dcT inL;rw[dS hl,fL (show (0:Int)<=s.a by omega),pZ h1];rfl
theorem ahb (hl:l.length<=200000){s:RS}(hd:s.data=[])(hx:s.x=[])(h0:0<=s.a)(h1:s.a<l.length)(hw:1<=(j6 l s.a).length)(hw2:(j6 l s.a).length<=1000):rsT n l s s.ai.length=eW n l (HS n l s):=by
 obtain⟨t,ht⟩:=tK h0 h1;have e:j6 l s.a=t.2.2.1:=by unfold j6;rw[ht]
 unfold rsT yw HS;rw[getI_at?,ht];rw[e]at hw hw2 ⊢;show ah (!bC t.2.2.1.length 1&&Nat.ble t.2.2.1.length 2000000) _ none=_;rw[fL (by omega),dS (by omega),i64_in (n:=s.a+1) (by omega) (by omega)];exact Fv (n:=n) hl (s:={ s with sz:=rE t.2.2.1,a:=s.a+1 }) hd hx (show 0<=s.a+1 by omega)
theorem XK (hl:l.length<=200000){aF:Int}{s:RS}(hd:s.data=[])(hx:s.x=[])(h0:0<=s.a)(h1:s.a<l.length):alT n l aF s s.ai.length=eW n l (vU n l aF { s with a:=s.a+1 }):=by
 unfold alT;rw[i64_in (n:=s.a+1) (by omega) (by omega)];exact Fv (n:=n) hl (s:={ s with a:=s.a+1 }) hd hx (show 0<=s.a+1 by omega)
theorem zC (hl:l.length<=200000){s:RS}(hd:s.data=[])(hx:s.x=[])(h0:0<=s.a)(h1:s.a<l.length):TI n l s s.ai.length=eW n l (PG n l s):=by
 have g0:s.data.length=0:=by rw[hd];rfl
 have g1:s.x.length=0:=by rw[hx];rfl
 unfold TI PG;rw[i64_in (n:=s.a+1) (by omega) (by omega),i64_in (n:=s.a+2) (by omega) (by omega)];have:=JX (n:=n) (l:=l) (s:={ s with aF:=6 }) (i:=s.a+1) (by omega) (k:=λt=>PK n l { s with aF:=6,lab:=t,a:=s.a+2 } 0 0 s.ai.length) (kF:=λs=>Cc n l { s with a:=s.a+2 }) λt _=>by
  have:=JY (n:=n) (l:=l) (s:={ s with aF:=6,lab:=t,a:=s.a+2 }) (show 0<=s.a+2 by omega);simp only[g0,g1]at this;exact this
 simp only[g0,g1]at this;exact this
theorem ahc (hl:l.length<=200000){s:RS}(hd:s.data=[])(hx:s.x=[])(h0:0<=s.a)(h1:s.a<l.length):enT n l s s.ai.length=eW n l (XH n l s):=by
 have g0:s.data.length=0:=by rw[hd];rfl
 have g1:s.x.length=0:=by rw[hx];rfl
 unfold enT XH;rw[i64_in (n:=s.a+1) (by omega) (by omega)];have:=JY (n:=n) (l:=l) (s:={ s with aF:=7,a:=s.a+1 }) (show 0<=s.a+1 by omega);simp only[g0,g1]at this;exact this
theorem abv (hl:l.length<=200000){s:RS}(hd:s.data=[])(hx:s.x=[]):ag7 n l s s.ai.length=eW n l (abr n l s):=by
 have g0:s.data.length=0:=by rw[hd];rfl
 have g1:s.x.length=0:=by rw[hx];rfl
 have hf:=qs (n:=n) (l:=l) (s:=s) (e:=(eA l s.a).2.2.2.1) (PF (a:=s.a) hl);rw[g0,g1]at hf;unfold ag7 abr;rw[dS hl,hf];show ah (!bI (eA l s.a).2.2.2.1 0) _ _=_;rw[cn];by_cases he:(eA l s.a).2.2.2.1=0
 .rw[ag he,aa (show ¬(eA l s.a).2.2.2.1≠0 from λq=>q he)];show Fs true n l _ 0 0 s.ai.length=Fs true n l _ s.data.length s.x.length s.ai.length;rw[g0,g1]
 rw[aa he,ag he]
theorem ahd (hl:l.length<=200000){w:List UInt8}{s:RS}(hd:s.data=[])(hx:s.x=[])(hw:rW l s.a=some w):wsT n l w s s.ai.length=eW n l (kz n l w s):=by
 obtain⟨h0,h1,hw2⟩:=Ro hw;have hdt:∀w0:List UInt8,w=w0->1<=w0.length->w0.length<=1000->dtT n l s=eW n l (AO n l s):=λw0 e g1 g2=>ag9 hl h0 h1 (by rw[hw2,e];exact g1) (by rw[hw2,e];exact g2)
 have Ky:∀w0:List UInt8,w=w0->1<=w0.length->w0.length<=1000->rsT n l s s.ai.length=eW n l (HS n l s):=λw0 e g1 g2=>ahb hl hd hx h0 h1 (by rw[hw2,e];exact g1) (by rw[hw2,e];exact g2)
 have hmem:∀L:List (List UInt8),(∀v∈L,w≠v)->w ∉ L:=λL h hm=>h w hm rfl
 unfold wsT;simp only[fC,kj,uC];by_cases e1:w=[100,98]
 .rw[ag e1,hdt _ e1 (by decide) (by decide)];unfold kz;rw[ag (by rw[e1];decide)]
 rw[aa e1];by_cases e2:w=[100,119]
 .rw[ag e2,hdt _ e2 (by decide) (by decide)];unfold kz;rw[ag (by rw[e2];decide)]
 rw[aa e2];by_cases e3:w=[100,100]
 .rw[ag e3,hdt _ e3 (by decide) (by decide)];unfold kz;rw[ag (by rw[e3];decide)]
 rw[aa e3];by_cases e4:w=[100,113]
 .rw[ag e4,hdt _ e4 (by decide) (by decide)];unfold kz;rw[ag (by rw[e4];decide)]
 rw[aa e4];have k1:w ∉ XG:=hmem _ λv hv=>by
  simp only[XG,bt,kH,or_false]at hv;rcases hv with rfl|rfl|rfl|rfl<;>assumption
 by_cases e5:w=[114,101,115,98]
 .rw[ag e5,Ky _ e5 (by decide) (by decide)];unfold kz;rw[aa k1,ag (by rw[e5];decide)]
 rw[aa e5];by_cases e6:w=[114,101,115,119]
 .rw[ag e6,Ky _ e6 (by decide) (by decide)];unfold kz;rw[aa k1,ag (by rw[e6];decide)]
 rw[aa e6];by_cases e7:w=[114,101,115,100]
 .rw[ag e7,Ky _ e7 (by decide) (by decide)];unfold kz;rw[aa k1,ag (by rw[e7];decide)]
 rw[aa e7];by_cases e8:w=[114,101,115,113]
 .rw[ag e8,Ky _ e8 (by decide) (by decide)];unfold kz;rw[aa k1,ag (by rw[e8];decide)]
 rw[aa e8];have k2:w ∉ ag4:=hmem _ λv hv=>by
  simp only[ag4,bt,kH,or_false]at hv;rcases hv with rfl|rfl|rfl|rfl<;>assumption
 unfold kz;rw[aa k1,aa k2,XK hl hd hx h0 h1,XK hl hd hx h0 h1,zC hl hd hx h0 h1,ahc hl hd hx h0 h1,aha hl h0 h1,abv hl hd hx];have hf:=qs (n:=n) (l:=l) (s:=s) (e:=4) h0;rw[show s.data.length=0 by rw[hd];rfl,show s.x.length=0 by rw[hx];rfl]at hf;rw[hf,ax];repeat' split
 all_goals rfl
theorem abw {w:List UInt8}{dx:Bool}{s:RS}{K:dZ}(hd:s.data=[])(hx:s.x=[])(h0:0<=s.a)(hK:K=eW n l (kz n l w s)):ag8 n l w dx s s.ai.length K=eW n l (TH n l w dx s):=by
 have hf:=qs (n:=n) (l:=l) (s:=s) (e:=4) h0;rw[show s.data.length=0 by rw[hd];rfl,show s.x.length=0 by rw[hx];rfl]at hf;subst hK;unfold ag8 F4 TH;simp only;rw[hf];simp only[uC,TJ];have b1:ah dx (eW n l (iq n l s 4 s.a)) (if s.lab=[] then eW n l (kz n l w s) else eW n l (iq n l s 4 s.a))=eW n l (if dx=true\/s.lab≠[] then iq n l s 4 s.a else kz n l w s):=by
  cases dx with
  |true=>rw[ag (show true=true\/s.lab≠[] from .inl rfl)]
  |false =>
   show (if s.lab=[] then _ else _)=_;by_cases h:s.lab=[]
   .rw[ag h,aa (show ¬(false=true\/s.lab≠[]) from λq=>by rcases q with q|q;cases q;exact q h)]
   rw[aa h,ag (show false=true\/s.lab≠[] from .inr h)]
 have b2:ah dx (eW n l (iq n l s 4 s.a)) (eW n l (kz n l w s))=eW n l (if dx=true then iq n l s 4 s.a else kz n l w s):=by
  cases dx<;>rfl
 rw[b1,b2];by_cases e1:w=C9\/w=rA\/w=AP
 .have hB:(if w=C9 then if w=C9 then eW n l (if dx=true\/s.lab≠[] then iq n l s 4 s.a else kz n l w s) else if w=qp then eW n l (if dx=true then iq n l s 4 s.a else kz n l w s) else eW n l (kz n l w s)
   else if w=rA then if w=rA then eW n l (if dx=true\/s.lab≠[] then iq n l s 4 s.a else kz n l w s) else if w=qp then eW n l (if dx=true then iq n l s 4 s.a else kz n l w s) else eW n l (kz n l w s)
   else if w=AP then eW n l (if dx=true\/s.lab≠[] then iq n l s 4 s.a else kz n l w s) else if w=qp then eW n l (if dx=true then iq n l s 4 s.a else kz n l w s) else eW n l (kz n l w s))=eW n l (if dx=true\/s.lab≠[] then iq n l s 4 s.a else kz n l w s):=by
   by_cases a1:w=C9
   .rw[ag a1,ag a1]
   rw[aa a1];by_cases a2:w=rA
   .rw[ag a2,ag a2]
   rw[aa a2,ag (by rcases e1 with e|e|e;exact absurd e a1;exact absurd e a2;exact e)]
  rw[hB];have hna:w≠qp:=λe=>by rw[e]at e1;revert e1;decide
  by_cases ht:dx=true\/s.lab≠[]
  .rw[ag ht,ag (show (w=C9\/w=rA\/w=AP)/\(dx=true\/s.lab≠[]) from ⟨e1,ht⟩)]
  rw[aa ht,aa (show ¬((w=C9\/w=rA\/w=AP)/\(dx=true\/s.lab≠[])) from λq=>ht q.2),aa (show ¬(w=qp/\dx=true) from λq=>hna q.1)]
 simp only[kQ]at e1;rw[aa e1.1,aa e1.2.1,aa e1.2.2,aa (show ¬((w=C9\/w=rA\/w=AP)/\(dx=true\/s.lab≠[])) from λq=>by rcases q.1 with q|q|q;exact e1.1 q;exact e1.2.1 q;exact e1.2.2 q)];by_cases ha:w=qp
 .rw[ag ha];by_cases ht:dx=true
  .rw[ag ht,ag (show w=qp/\dx=true from ⟨ha,ht⟩)]
  rw[aa ht,aa (show ¬(w=qp/\dx=true) from λq=>ht q.2)]
 rw[aa ha,aa (show ¬(w=qp/\dx=true) from λq=>ha q.1)]
theorem XL {dx:Bool}{s:RS}{K:List UInt8->dZ}(hd:s.data=[])(hx:s.x=[])(h0:0<=s.a)(hK:∀w,rW l s.a=some w->K w=eW n l (TH n l w dx s)):yL n l dx s s.ai.length K=eW n l (tL n l dx s):=by
 have g0:s.data.length=0:=by rw[hd];rfl
 have g1:s.x.length=0:=by rw[hx];rfl
 have hf:=qs (n:=n) (l:=l) (s:=s) (e:=4) h0;rw[g0,g1]at hf;have h1:=Rp (l:=l) h0 (eW n l (iq n l s 4 s.a)) K (A:=λ_ _=>none) (none:dZ);have h2:yL n l dx s s.ai.length K=ah (bI s.a l.length) (ah (!dx) (Fs true n l s 0 0 s.ai.length) (eW n l (iq n l s 4 s.a))) (ah (bC s.a l.length) ((dQ l s.a).elim none λy=>ah (!bI y.1 1) (eW n l (iq n l s 4 s.a)) ((dQ l s.a).elim none λz=>K z.2.2.1)) (eW n l (iq n l s 4 s.a))):=by
  unfold yL F4 yw;rw[hf];cases dQ l s.a<;>rfl
 rw[h2,h1,cq];unfold tL;by_cases ha:s.a=l.length
 .rw[ag ha,ag ha];cases dx with
  |true=>rfl
  |false =>
   show Fs true n l s 0 0 s.ai.length=Fs true n l s s.data.length s.x.length s.ai.length;rw[g0,g1]
 rw[aa ha,aa ha];cases hn:rW l s.a with
 |none=>rfl
 |some w=>exact hK w hn
end
def kb (n:Int)(l:List Tok)(r:Nat)(p:List Bool)(f:fJ)(H:aG):dZ:=codeFrom X0 cL Da r 19 p yu f H
section
variable {n:Int} {l:List Tok} {r:Nat}
theorem apV (hl:l.length<=200000){w:List UInt8}{a:Int}{lab:List UInt8}{ai:List Nd}(hw:rW l a=some w):kb n l r p9 (fr9 w) (HQ n l (st0 a lab ai) 0 0 ai.length)=eW n l (kz n l w (st0 a lab ai)) :=
 (alW n l r w a lab ai).trans (ahd (s:=st0 a lab ai) hl rfl rfl hw)
theorem apW (hl:l.length<=200000){w:List UInt8}{dx:Bool}{a:Int}{lab:List UInt8}{ai:List Nd}(hw:rW l a=some w):kb n l r p8 (fr8 dx w) (HQ n l (st0 a lab ai) 0 0 ai.length)=eW n l (TH n l w dx (st0 a lab ai)):=by
 have h:=uG (X:=X0) (call:=cL) (an:=Da) (rounds:=r) (id:=19) (p:=p8) (q:=[]) (by kernel_rfl) yu (fr8 dx w) (HQ n l (st0 a lab ai) 0 0 ai.length);exact h.trans ((alX n l r w dx a lab ai _).trans (abw (s:=st0 a lab ai) rfl rfl (Ro hw).1 (apV hl hw)))
theorem al1 (hl:l.length<=200000){dx:Bool}{a:Int}{lab:List UInt8}{ai:List Nd}(h0:0<=a):yL n l dx (st0 a lab ai) ai.length (λw=>kb n l r p8 (fr8 dx w) (HQ n l (st0 a lab ai) 0 0 ai.length))=eW n l (tL n l dx (st0 a lab ai)) :=
 XL (s:=st0 a lab ai) rfl rfl h0 λw hw=>apW hl hw
theorem apX (hl:l.length<=200000){dx:Bool}{a:Int}{lab:List UInt8}(h0:0<=a)(h1:a<=l.length):kb n l r p4 (fr4 dx) (HQ n l (st0 a lab []) 0 0 0)=eW n l (if dx=true then Mx n l (st0 (a+1) lab []) λx e=>tL n l true (st0 e lab x) else tL n l false (st0 a lab [])):=by
 have h:=uG (X:=X0) (call:=cL) (an:=Da) (rounds:=r) (id:=19) (p:=p4) (q:=[true,true,true]) (by kernel_rfl) yu (fr4 dx) (HQ n l (st0 a lab []) 0 0 0);refine h.trans ((alY n l r dx a lab _).trans ?_);rw[i64_in (n:=a+1) (by omega) (by omega)];cases dx with
 |true =>
  exact JV (n:=n) hl (s:=st0 (a+1) lab []) (goF:=λx e=>tL n l true (st0 e lab x)) λx e UL he2=>al1 (dx:=true) hl (by have UL:a+1<e:=UL;omega)
 |false=>exact al1 (dx:=false) hl h0
theorem apY (hl:l.length<=200000){a:Int}{lab:List UInt8}(h0:0<=a)(h1:a<=l.length):kb n l r p3 fr3 (HQ n l (st0 a lab []) 0 0 0)=eW n l (sW n l (st0 a lab [])):=by
 have h:=uG (X:=X0) (call:=cL) (an:=Da) (rounds:=r) (id:=19) (p:=p3) (q:=[]) (by kernel_rfl) yu fr3 (HQ n l (st0 a lab []) 0 0 0);refine h.trans ((alZ n l r a lab _).trans ?_);have go:∀b:Bool,codeFrom X0 cL Da r 19 (p3++[true]) yu (fr4 b) (HQ n l (st0 a lab []) 0 0 0)=eW n l (if b=true then Mx n l (st0 (a+1) lab []) λx e=>tL n l true (st0 e lab x) else tL n l false (st0 a lab [])):=λb=>apX hl h0 h1
 simp only[go];unfold sW;show _=eW n l (if rW l a=some Fu then Mx n l (st0 (a+1) lab []) λx e=>tL n l true (st0 e lab x) else tL n l false (st0 a lab []));unfold yw;rw[cA,getI_at?];cases jG:at? l a with
 |none =>
  have:=jz h0 jG;rw[aa (by omega),yd jG];rfl
 |some t =>
  rw[ag (jo jG).2,uH jG];show ah (bI t.1 1) (eW n l (if decide (t.2.2.1=Fu)=true then _ else _)) _=_;rw[cq];by_cases h1:t.1=1
  .rw[ag h1,ag h1];by_cases h2:t.2.2.1=Fu
   .rw[ag (aX h2),ag (by rw[h2])]
   rw[aa (by simpa using h2),aa (λq=>h2 (bL q))]
  rw[aa h1,aa h1,aa (by simp)];rfl
theorem XM (hl:l.length<=200000){K:RS->dZ}(hK:∀a lab,0<=a->a<=(l.length:Int)->K (st0 a lab [])=eW n l (sW n l (st0 a lab []))):sG n l K=eW n l (qa n l qq):=by
 have hz:K qq=eW n l (sW n l qq):=hK 0 [] (by omega) (by omega);unfold sG qa;simp only;have hno:(ah (bC 0 l.length) (yw l 0 λy=>ah (bI y.1 1) (ah (bC 1 l.length) (yw l 1 λy=>ah (bI y.1 4) (yw l 1 λy=>ah (decide (y.2.2.1=[58])) (JW n l qq 0 0 0 0 λt=>K (st0 2 t [])) (K qq)) (K qq)) (K qq)) (K qq)) (K qq)) =
  eW n l (if (rW l 0).isSome=true/\dI l 1 [58]=true then MD n l 0 qq λs=>sW n l { s with a:=2 } else sW n l qq):=by
  rw[hz];unfold yw;rw[cA,show dQ l (0:Int)=at? l 0 by rw[getI_at?]];cases jG:at? l 0 with
  |none =>
   have:=jz (by omega) jG;rw[aa (by omega),aa (λq=>by rw[yd jG]at q;cases q.1)]
  |some t =>
   rw[ag (jo jG).2];show ah (bI t.1 1) _ _=_;rw[cq];by_cases h1:t.1=1
   .rw[ag h1,cA,show dQ l (1:Int)=at? l 1 by rw[getI_at?]];have hs:(rW l 0).isSome=true:=by rw[uH jG,ag h1];rfl
    cases vY:at? l 1 with
    |none =>
     have:=jz (by omega) vY;have hb:dI l 1 [58]=false:=by unfold dI;rw[vY]
     rw[aa (by omega),aa (λq=>by rw[hb]at q;cases q.2)]
    |some c =>
     have hlt:=(jo vY).2;have hb:dI l 1 [58]=(bI c.1 4&&decide (c.2.2.1=[58])):=by unfold dI;rw[vY];exact JI c [58]
     have hlab:=JX (n:=n) (l:=l) (s:=qq) (i:=0) (by omega) (k:=λt=>K (st0 2 t [])) (kF:=λs=>sW n l { s with a:=2 }) λt _=>hK 2 t (by omega) (by omega)
     have hlab:JW n l qq 0 0 0 0 (λt=>K (st0 2 t []))=_:=hlab;rw[ag hlt,hlab];show ah (bI c.1 4) (ah (decide (c.2.2.1=[58])) _ _) _=_;cases h4:bI c.1 4 with
     |false=>rw[aa (λq=>by rw[hb,h4]at q;cases q.2)]
     |true =>
      cases h5:decide (c.2.2.1=[58]) with
      |false=>rw[aa (λq=>by rw[hb,h4,h5]at q;cases q.2)]
      |true=>rw[ag ⟨hs,by rw[hb,h4,h5];rfl⟩]
   rw[aa h1,aa (λq=>by rw[uH jG,aa h1]at q;cases q.1)]
 rw[hno];unfold yw;rw[cA,show dQ l (1:Int)=at? l 1 by rw[getI_at?]];cases jG:at? l 1 with
 |none =>
  have:=jz (by omega) jG;rw[aa (by omega),aa (show ¬rW l 1=some MB from λq=>by rw[yd jG]at q;cases q)]
 |some t =>
  have hlt:=(jo jG).2;have hlab:=JX (n:=n) (l:=l) (s:=qq) (i:=0) (by omega) (k:=λt=>HT n l 3 { qq with lab:=t,a:=2 } 0) (kF:=λs=>vU n l 3 { s with a:=2 }) λt _=>Fv (s:={ qq with lab:=t,a:=2 }) hl rfl rfl (show (0:Int)<=2 by decide)
  have hlab:JW n l qq 0 0 0 0 (λt=>HT n l 3 { qq with lab:=t,a:=2 } 0)=_:=hlab;rw[ag hlt,hlab];show ah (bI t.1 1) (ah (decide (t.2.2.1=MB)) _ _) _=_;rw[cq,uC,uH jG];by_cases h1:t.1=1
  .rw[ag h1,ag h1];by_cases h2:t.2.2.1=MB
   .rw[ag h2,ag (show some t.2.2.1=some MB by rw[h2])];rfl
   rw[aa h2,aa (show ¬some t.2.2.1=some MB from λq=>h2 (bL q))]
  rw[aa h1,aa h1,aa (show ¬(none:Option (List UInt8))=some MB by simp)]
theorem Fw (hl:l.length<=200000):aT X0 cL Da r 19 [.ptr 0 0] (jn 66 14 (HM n l qq)) yu=eW n l (qa n l qq):=by
 rw[EV (p:=p3) (by kernel_rfl),al0];exact XM hl λa lab h0 h1=>apY hl h0 h1
end
def isZ (s:RS):Bool:=decide (s.a=0)&&decide (s.lab=[])&&decide (s.aF=0)&&decide (s.sz=0)&&decide (s.op=0)&&decide (s.aM=0)&&s.ai.isEmpty&&decide (s.e=0)&&decide (s.f=0)
def FLn:FRd:=λn l s=>some (Nat.ble l.length 200000&&isZ s,qa n l qq)
theorem ahe:gy X0 fU 19 (cRd FLn) :=
 PC rfl HP ad2 λn l s b s' h1 h2 h3 hF=>by
  obtain⟨a,lab,aF,sz,op,aM,args,data,x,ai,e,f⟩:=s;have h1:args=[]:=h1;have h2:data=[]:=h2;have h3:x=[]:=h3;subst h1;subst h2;subst h3;unfold FLn isZ at hF;simp only[aq,ay,ak,aV,ia]at hF;obtain⟨⟨g1,⟨⟨⟨⟨⟨⟨⟨⟨rfl,rfl⟩,rfl⟩,rfl⟩,rfl⟩,rfl⟩,rfl⟩,rfl⟩,rfl⟩⟩,hF⟩:=hF;refine⟨Da,5,(Fw (az g1)).trans ?_⟩;rw[hF];rfl
def NL:List pQ:=(19,cRd FLn)::ND
theorem ad4:gY X0 fU NL:=.cons ahe ad2
def stL (s:RS):AV:=.agg [.str s.lab,.int .i64 s.aF,.int .i64 s.sz,.int .i64 s.op,.int .i64 s.aM,.dH j3 s.args,.dH Fq s.data,.dH eC s.x,.dH eC s.ai]
def rdL (r:RS×Int×Int):List AV:=[stL r.1,.agg [.int .i64 r.2.1,.int .i64 r.2.2]]
def sgS:List (List (Option Tv.Ty)):=[[none,none,none,none,none,some j3,some Fq,some eC,some eC],[none,none]]
def rdT (s:List UInt8):rV :=
 ah (!bI (lt.jZ s).2.1 0) (some (rdL (qq,(lt.jZ s).2.1,(lt.jZ s).2.2)))
  (ah (((Nat.ble (lt.jZ s).1.length 200000&&true)&&true)&&true)
   (ah (!(qa s.length (lt.jZ s).1 qq).1) (some (rdL (qq,(qa s.length (lt.jZ s).1 qq).2.e,(qa s.length (lt.jZ s).1 qq).2.f))) (some (rdL ((qa s.length (lt.jZ s).1 qq).2,0,0)))) none)
theorem abx (s:List UInt8):aT X0 (cN P3 NL _) gO 5 12 [.str s] aG.empty (rU sgS)=rdT s:=by kernel_rfl
theorem Fx (s:List UInt8):∀(m:Nat) (r:List UInt8),(lt.ql s m r).1.length<=m
 |0,_=>by simp[lt.ql]
 |m+1,[]=>by simp[lt.ql]
 |m+1,c::r=>by
  unfold lt.ql;split
  .have:=Fx s m r;omega
  split
  .simp
  split
  .have:=Fx s m (s.drop (lt.jU s c (s.length-(r.length+1))).2.1.toNat);simp only[aJ];omega
  simp
theorem XN (s:List UInt8):(lt.jZ s).1.length<=1000:=by
 unfold lt.jZ;split
 .simp
 rename_i h;split
 .have:=Fx s s.length s;show (lt.ql s s.length s).1.length<=1000;omega
 simp
theorem ahf (s:List UInt8):rdT s=some (rdL (eP s)):=by
 have hl:=XN s;unfold rdT eP;rw[dS (show (lt.jZ s).1.length<=200000 by omega),cn];by_cases h:(lt.jZ s).2.1=0
 .rw[ag h,aa (show ¬(lt.jZ s).2.1≠0 from λq=>q h)];show ah (!(qa s.length (lt.jZ s).1 qq).1) _ _=_;cases (qa s.length (lt.jZ s).1 qq).1<;>rfl
 rw[aa h,ag h]
def fRd (args:List AV):Option (Bool×List AV) :=
 match args with
 |[.str s]=>some (true,rdL (eP s))
 |_=>none
theorem MF:gy X0 fU 12 ⟨none,[none],gV fRd⟩ :=
 Rl rfl HP ad4 sgS λvs ws hf=>by
  unfold fRd at hf;split at hf;case h_2=>cases hf
  rename_i s;simp only[aq,ay]at hf;obtain⟨_,rfl⟩:=hf;refine⟨rfl,gO,5,?_⟩;rw[abx,ahf]
def NR:List pQ:=(12,⟨none,[none],gV fRd⟩)::NL
theorem ad5:gY X0 fU NR:=.cons MF ad4
end
end Go.Proofs.YtbeckacfibledaaGreatDoor.ps

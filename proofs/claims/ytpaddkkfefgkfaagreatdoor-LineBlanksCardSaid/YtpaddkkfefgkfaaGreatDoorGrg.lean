/- Lines: reading one, as it runs. Lines: the contract of reading one. Lines: the contract of Read. -/
import Derived.Test.YtpaddkkfefgkfaaGreatDoorGrf

namespace Go.Proofs.YtpaddkkfefgkfaaGreatDoor.ps
open Go.Tv Go.Ev Go.Px Go.Pp Go.Proofs.YtpaddkkfefgkfaaGreatDoor.ex
set_option maxRecDepth 100000
noncomputable section
def p3:List Bool:=[true,true,true]
def p4:List Bool:=[true,true,true,true]
def p8:List Bool:=[true,true,true,true,true,true,true,true]
def p9:List Bool:=[true,true,true,true,true,true,true,true,true]
def xY:bO:=⟨o5 (eX [0] p3) (o5 (eX [0,3] p4) (o5 (eX [0,3,4] p8) (eX [0,4] p9))),.none,[]⟩
def fr3:cj:=j8 143 [(0,.ptr 0 0)]
def fr4 (b:Bool):cj:=j8 143 [(0,.ptr 0 0),(3,.bool b)]
def fr8 (b:Bool) (w:List UInt8):cj:=j8 143 [(0,.ptr 0 0),(3,.bool b),(4,.str w)]
def fr9 (w:List UInt8):cj:=j8 143 [(0,.ptr 0 0),(4,.str w)]
abbrev cL:aY (List bM×List Nat):=cN P3 ND _
section
variable (n:Int) (l:List Tok)
def Ew (s:RS) (nd nx nt:Nat) (i:Int) (k:List UInt8->br):br :=
 pick2 (ltI i l.length) (rX l i λy=>pick2 (!eqI y.1 1) (gM n l s nd nx nt 4 i) (rX l i λy=>pick2 (lt.fR y.2.2.1) (gM n l s nd nx nt 7 i) (k y.2.2.1))) (gM n l s nd nx nt 4 i)
def JL (s:RS) (nd nx nt:Nat):br:=pick2 (eqI s.a l.length) (Av true n l s nd nx nt) (gM n l s nd nx nt 4 s.a)
def C4 (kind:Int) (s:RS) (nt:Nat):br:=Zh n l { s with kind:=kind } 0 0 nt λx e=>JL n l { s with kind:=kind,x:=x,a:=e } 0 x.length nt
def st0 (a:Int) (lab:List UInt8) (times:List Nd):RS:=⟨a,lab,0,0,0,0,[],[],[],times,0,0⟩
def Zx (s:RS):br:=pick2 (((WA l s.a&&(!ltI (eu l s.a).length 1&&Nat.ble (eu l s.a).length 1000000))&&true)&&true) (bG n l (uV n l s)) none
def dcT (s:RS):br:=pick2 ((WA l s.a&&true)&&true) (bG n l (Nf n l s)) none
def Zy (s:RS) (nt:Nat):br:=rX l s.a λy=>pick2 (!ltI y.2.2.1.length 1&&Nat.ble y.2.2.1.length 1000000) (C4 n l 8 { s with sz:=nB y.2.2.1,a:=IntKind.wrap .i64 (s.a+1) } nt) none
def alT (kind:Int) (s:RS) (nt:Nat):br:=C4 n l kind { s with a:=IntKind.wrap .i64 (s.a+1) } nt
def scT (s:RS) (nt:Nat):br:=Ew n l { s with kind:=6 } 0 0 nt (IntKind.wrap .i64 (s.a+1)) λt=>JL n l { s with kind:=6,lab:=t,a:=IntKind.wrap .i64 (s.a+2) } 0 0 nt
def enT (s:RS) (nt:Nat):br:=JL n l { s with kind:=7,a:=IntKind.wrap .i64 (s.a+1) } 0 0 nt
def Zz (s:RS) (nt:Nat):br:=pick2 (Nat.ble l.length 200000) (pick2 (!eqI (aJ l s.a).2.2.2.1 0) (gM n l s 0 0 nt (aJ l s.a).2.2.2.1 (aJ l s.a).2.2.2.2)
 (Av true n l { s with kind:=1,op:=(aJ l s.a).1,hint:=(aJ l s.a).2.1,args:=(aJ l s.a).2.2.1 } 0 0 nt)) none
def wsT (w:List UInt8) (s:RS) (nt:Nat):br :=
 [(
  [100,98],Zx n l s),([100,119],Zx n l s),([100,100],Zx n l s),([100,113],Zx n l s),([114,101,115,98],Zy n l s nt),([114,101,115,119],Zy n l s nt),([114,101,115,100],Zy n l s nt),([114,101,115,113],Zy n l s nt),
  (jb,alT n l 4 s nt),(uY,alT n l 5 s nt),(dF,scT n l s nt),(qR,enT n l s nt),(adF,dcT n l s)].foldr (λq r=>pick2 (decide (w=q.1)) q.2 r) (pick2 (nm.dP w).2 (Zz n l s nt) (gM n l s 0 0 nt 4 s.a))
end
def j9 (n:Int) (l:List Tok) (r:Nat) (w:List UInt8) (s:RS) (nt:Nat):br:=codeFrom X0 cL xY r 65 p9 rW (fr9 w) (CY n l s 0 0 nt)
theorem adI (n:Int) (l:List Tok) (r:Nat) (w:List UInt8) (a:Int) (lab:List UInt8) (times:List Nd):j9 n l r w (st0 a lab times) times.length=wsT n l w (st0 a lab times) times.length:=by kernel_rfl
def F4 (n:Int) (l:List Tok) (s:RS) (nt:Nat):br:=gM n l s 0 0 nt 4 s.a
def ZA (n:Int) (l:List Tok) (w:List UInt8) (aR:Bool) (s:RS) (nt:Nat) (K:br):br :=
 (λb1 al:br=>pick2 (decide (w=uY)) (pick2 (decide (w=uY)) b1 al) (pick2 (decide (w=dF)) (pick2 (decide (w=dF)) b1 al) (pick2 (decide (w=qR)) b1 al)))
  (pick2 aR (F4 n l s nt) (pick2 (!decide (s.lab=[])) (F4 n l s nt) K)) (pick2 (decide (w=jb)) (pick2 aR (F4 n l s nt) K) K)
theorem adJ (n:Int) (l:List Tok) (r:Nat) (w:List UInt8) (aR:Bool) (a:Int) (lab:List UInt8) (times:List Nd) (K:cj->aa->br) :
 RP X0 cL xY r 65 p8 [true] rW K (fr8 aR w) (CY n l (st0 a lab times) 0 0 times.length)=ZA n l w aR (st0 a lab times) times.length (K (fr9 w) (CY n l (st0 a lab times) 0 0 times.length)):=by kernel_rfl
def sw (n:Int) (l:List Tok) (aR:Bool) (s:RS) (nt:Nat) (K:List UInt8->br):br :=
 pick2 (eqI s.a l.length) (pick2 (!aR) (Av true n l s 0 0 nt) (F4 n l s nt))
  (pick2 (ltI s.a l.length) (rX l s.a λy=>pick2 (!eqI y.1 1) (F4 n l s nt) (rX l s.a λz=>K z.2.2.1)) (F4 n l s nt))
theorem adK (n:Int) (l:List Tok) (r:Nat) (aR:Bool) (a:Int) (lab:List UInt8) (K:cj->aa->br) :
 RP X0 cL xY r 65 p4 [true,true,true,true] rW K (fr4 aR) (CY n l (st0 a lab []) 0 0 0) =
  pick2 aR (Zh n l (st0 (IntKind.wrap .i64 (a+1)) lab []) 0 0 0 λx e=>sw n l aR (st0 e lab x) x.length λw=>K (fr8 aR w) (CY n l (st0 e lab x) 0 0 x.length))
   (sw n l aR (st0 a lab []) 0 λw=>K (fr8 aR w) (CY n l (st0 a lab []) 0 0 0)):=by kernel_rfl
theorem adL (n:Int) (l:List Tok) (r:Nat) (a:Int) (lab:List UInt8) (K:cj->aa->br) :
 RP X0 cL xY r 65 p3 [true] rW K fr3 (CY n l (st0 a lab []) 0 0 0) =
  (λgo:Bool->br=>pick2 (ltI a l.length) (rX l a λy=>pick2 (eqI y.1 1) (rX l a λz=>go (decide (z.2.2.1=wM))) (go false)) (go false)) λb=>K (fr4 b) (CY n l (st0 a lab []) 0 0 0):=by kernel_rfl
def mF (n:Int) (l:List Tok) (K:RS->br):br :=
 (λno:br=>pick2 (ltI 1 l.length) (rX l 1 λy=>pick2 (eqI y.1 1) (rX l 1 λy=>pick2 (decide (y.2.2.1=pQ)) (Ew n l ei 0 0 0 0 λt=>C4 n l 3 { ei with lab:=t,a:=2 } 0) no) no) no)
  (pick2 (ltI 0 l.length) (rX l 0 λy=>pick2 (eqI y.1 1) (pick2 (ltI 1 l.length) (rX l 1 λy=>pick2 (eqI y.1 4) (rX l 1 λy=>pick2 (decide (y.2.2.1=[58])) (Ew n l ei 0 0 0 0 λt=>K (st0 2 t [])) (K ei)) (K ei)) (K ei)) (K ei)) (K ei))
theorem adM (n:Int) (l:List Tok) (r:Nat) (K:cj->aa->br) :
 Yv X0 cL xY r 65 p3 [.ptr 0 0] (dJ 126 14 (CV n l ei)) rW K=mF n l λs=>K fr3 (CY n l s 0 0 0):=by kernel_rfl
end
end Go.Proofs.YtpaddkkfefgkfaaGreatDoor.ps

namespace Go.Proofs.YtpaddkkfefgkfaaGreatDoor.ps
open Go.Tv Go.Ev Go.Px Go.Pp Go.Proofs.YtpaddkkfefgkfaaGreatDoor.ex
set_option maxRecDepth 100000
noncomputable section
theorem Nh {α:Type} {p:Prop} [Decidable p] (x y:α):pick2 (!decide p) x y=if p then y else x:=by
 by_cases h:p
 .
  rw[if_pos h,decide_eq_true h];rfl
 rw[if_neg h,decide_eq_false h];rfl
section
variable {n:Int} {l:List Tok}
theorem kj {s:RS} {e i:Int} (h:0<=i):gM n l s s.data.length s.x.length s.times.length e i=bG n l (cy n l s e i):=qQ h
theorem oF {i:Int} {t:Tok} (cw:at? l i=some t):eH l i=if t.1=1 then some t.2.2.1 else none:=by unfold eH;rw[cw]
theorem rN {i:Int} (cw:at? l i=none):eH l i=none:=by unfold eH;rw[cw]
theorem Ll {i:Int} {w:List UInt8} (h:eH l i=some w):0<=i/\i<l.length/\eu l i=w:=by
 unfold eH at h
 unfold eu
 cases cw:at? l i with
 |none=>rw[cw] at h;cases h
 |
  some t =>
  rw[cw] at h;simp only at h ⊢;split at h
  .
   cases h;exact ⟨(dL cw).1,(dL cw).2,rfl⟩
  cases h
theorem Lm {α:Type} {i:Int} (h:0<=i) (no:α) (yes:List UInt8->α) {A:Tok->(Tok->α)->α} (d:α) :
 pick2 (ltI i l.length) ((aS l i).elim d λy=>pick2 (!eqI y.1 1) no ((aS l i).elim d λz=>yes z.2.2.1)) no=(match eH l i with|none=>no|some t=>yes t):=by
 rw[aV,getI_at?]
 cases cw:at? l i with
 |
  none =>
  have:=dR h cw;rw[if_neg (by omega),rN cw]
 |
  some t =>
  rw[if_pos (dL cw).2,oF cw];show pick2 (!eqI t.1 1) no (yes t.2.2.1)=_;rw[bz];by_cases h1:t.1=1
  .
   rw[if_pos h1,if_pos h1]
  rw[if_neg h1,if_neg h1]
theorem adN {α:Type} (o:Option Tok) (d:α) (k:Tok->α):Option.rec (motive:=λ_=>α) d k o=o.elim d k:=by cases o<;>rfl
theorem Ex {s:RS} {i:Int} (h:0<=i) {k:List UInt8->br} {kF:RS->LR} (hk:∀t,eH l i=some t->k t=bG n l (kF { s with lab:=t })):Ew n l s s.data.length s.x.length s.times.length i k=bG n l (rY n l i s kF):=by
 have h1:=Lm (l:=l) h (gM n l s s.data.length s.x.length s.times.length 4 i) (λt=>pick2 (lt.fR t) (gM n l s s.data.length s.x.length s.times.length 7 i) (k t)) (A:=λ_ _=>none) (none:br)
 have h2:Ew n l s s.data.length s.x.length s.times.length i k=pick2 (ltI i l.length) ((aS l i).elim none λy=>pick2 (!eqI y.1 1) (gM n l s s.data.length s.x.length s.times.length 4 i) ((aS l i).elim none λz=>pick2 (lt.fR z.2.2.1) (gM n l s s.data.length s.x.length s.times.length 7 i) (k z.2.2.1))) (gM n l s s.data.length s.x.length s.times.length 4 i):=by
  unfold Ew rX;cases aS l i<;>rfl
 rw[h2,h1,kj h,kj h]
 unfold rY
 cases hn:eH l i with
 |none=>rfl
 |
  some t =>
  simp only;rw[pick2_eq,hk t hn];split<;>rfl
theorem Ey {s:RS} (h:0<=s.a):JL n l s s.data.length s.x.length s.times.length=bG n l (uZ n l s):=by
 unfold JL uZ
 rw[kj h,aH]
 split<;>rfl
theorem AB (hl:l.length<=200000) {kind:Int} {s:RS} (hd:s.data=[]) (hx:s.x=[]) (h:0<=s.a):C4 n l kind s s.times.length=bG n l (qT n l kind s):=by
 have h0:s.data.length=0:=by rw[hd];rfl
 have h1:s.x.length=0:=by rw[hx];rfl
 have:=Ep (n:=n) hl (s:={ s with kind:=kind }) (go:=λx e=>JL n l { s with kind:=kind,x:=x,a:=e } 0 x.length s.times.length) (goF:=λx e=>uZ n l { s with kind:=kind,x:=x,a:=e }) λx e Oj he2=>by
  have:=Ey (n:=n) (l:=l) (s:={ s with kind:=kind,x:=x,a:=e }) (show 0<=e by have Oj:s.a<e:=Oj;omega)
  simp only[h0] at this;exact this
 simp only[h0,h1] at this
 exact this
theorem ZB (hl:l.length<=200000) {s:RS} (h0:0<=s.a) (h1:s.a<l.length) (hw:1<=(eu l s.a).length) (ZC:(eu l s.a).length<=1000):Zx n l s=bG n l (uV n l s):=by
 unfold Zx WA
 rw[cP hl,cz (show (0:Int)<=s.a by omega),lQ h1,cz (show (1:Int)<=(eu l s.a).length by omega),cP (by omega)];rfl
theorem ZD (hl:l.length<=200000) {s:RS} (h0:0<=s.a) (h1:s.a<l.length):dcT n l s=bG n l (Nf n l s):=by
 unfold dcT WA
 rw[cP hl,cz (show (0:Int)<=s.a by omega),lQ h1];rfl
theorem ZE (hl:l.length<=200000) {s:RS} (hd:s.data=[]) (hx:s.x=[]) (h0:0<=s.a) (h1:s.a<l.length) (hw:1<=(eu l s.a).length) (ZC:(eu l s.a).length<=1000):Zy n l s s.times.length=bG n l (GV n l s):=by
 obtain ⟨t,ht⟩:=nA h0 h1
 have e:eu l s.a=t.2.2.1:=by unfold eu;rw[ht]
 unfold Zy rX GV
 rw[getI_at?,ht]
 rw[e] at hw ZC ⊢
 show pick2 (!ltI t.2.2.1.length 1&&Nat.ble t.2.2.1.length 1000000) _ none=_
 rw[cz (by omega),cP (by omega),i64_in (n:=s.a+1) (by omega) (by omega)]
 exact AB (n:=n) hl (s:={ s with sz:=nB t.2.2.1,a:=s.a+1 }) hd hx (show 0<=s.a+1 by omega)
theorem RU (hl:l.length<=200000) {kind:Int} {s:RS} (hd:s.data=[]) (hx:s.x=[]) (h0:0<=s.a) (h1:s.a<l.length):alT n l kind s s.times.length=bG n l (qT n l kind { s with a:=s.a+1 }):=by
 unfold alT
 rw[i64_in (n:=s.a+1) (by omega) (by omega)]
 exact AB (n:=n) hl (s:={ s with a:=s.a+1 }) hd hx (show 0<=s.a+1 by omega)
theorem ZF (hl:l.length<=200000) {s:RS} (hd:s.data=[]) (hx:s.x=[]) (h0:0<=s.a) (h1:s.a<l.length):scT n l s s.times.length=bG n l (Es n l s):=by
 have g0:s.data.length=0:=by rw[hd];rfl
 have g1:s.x.length=0:=by rw[hx];rfl
 unfold scT Es
 rw[i64_in (n:=s.a+1) (by omega) (by omega),i64_in (n:=s.a+2) (by omega) (by omega)]
 have:=Ex (n:=n) (l:=l) (s:={ s with kind:=6 }) (i:=s.a+1) (by omega) (k:=λt=>JL n l { s with kind:=6,lab:=t,a:=s.a+2 } 0 0 s.times.length) (kF:=λs=>uZ n l { s with a:=s.a+2 }) λt _=>by
  have:=Ey (n:=n) (l:=l) (s:={ s with kind:=6,lab:=t,a:=s.a+2 }) (show 0<=s.a+2 by omega)
  simp only[g0,g1] at this;exact this
 simp only[g0,g1] at this
 exact this
theorem ZG (hl:l.length<=200000) {s:RS} (hd:s.data=[]) (hx:s.x=[]) (h0:0<=s.a) (h1:s.a<l.length):enT n l s s.times.length=bG n l (RG n l s):=by
 have g0:s.data.length=0:=by rw[hd];rfl
 have g1:s.x.length=0:=by rw[hx];rfl
 unfold enT RG
 rw[i64_in (n:=s.a+1) (by omega) (by omega)]
 have:=Ey (n:=n) (l:=l) (s:={ s with kind:=7,a:=s.a+1 }) (show 0<=s.a+1 by omega)
 simp only[g0,g1] at this
 exact this
theorem Vd (hl:l.length<=200000) {s:RS} (hd:s.data=[]) (hx:s.x=[]):Zz n l s s.times.length=bG n l (RH n l s):=by
 have g0:s.data.length=0:=by rw[hd];rfl
 have g1:s.x.length=0:=by rw[hx];rfl
 have hf:=kj (n:=n) (l:=l) (s:=s) (e:=(aJ l s.a).2.2.2.1) (JJ (a:=s.a) hl)
 rw[g0,g1] at hf
 unfold Zz RH
 rw[cP hl,hf]
 show pick2 (!eqI (aJ l s.a).2.2.2.1 0) _ _=_
 rw[bz]
 by_cases he:(aJ l s.a).2.2.2.1=0
 .
  rw[if_pos he,if_neg (show ¬(aJ l s.a).2.2.2.1≠0 from λq=>q he)]
  show Av true n l _ 0 0 s.times.length=Av true n l _ s.data.length s.x.length s.times.length;rw[g0,g1]
 rw[if_neg he,if_pos he]
theorem ZH (hl:l.length<=200000) {w:List UInt8} {s:RS} (hd:s.data=[]) (hx:s.x=[]) (hw:eH l s.a=some w):wsT n l w s s.times.length=bG n l (dh n l w s):=by
 obtain ⟨h0,h1,ZC⟩:=Ll hw
 have hdt:∀w0:List UInt8,w=w0->1<=w0.length->w0.length<=1000->Zx n l s=bG n l (uV n l s):=λw0 e g1 g2=>ZB hl h0 h1 (by rw[ZC,e];exact g1) (by rw[ZC,e];exact g2)
 have H8:∀w0:List UInt8,w=w0->1<=w0.length->w0.length<=1000->Zy n l s s.times.length=bG n l (GV n l s):=λw0 e g1 g2=>ZE hl hd hx h0 h1 (by rw[ZC,e];exact g1) (by rw[ZC,e];exact g2)
 have hmem:∀L:List (List UInt8),(∀v∈L,w≠v)->w ∉ L:=λL h hm=>h w hm rfl
 unfold wsT
 simp only[List.foldr_cons,List.foldr_nil,oC]
 by_cases e1:w=[100,98]
 .
  rw[if_pos e1,hdt _ e1 (by decide) (by decide)];unfold dh;rw[if_pos (by rw[e1];decide)]
 rw[if_neg e1]
 by_cases e2:w=[100,119]
 .
  rw[if_pos e2,hdt _ e2 (by decide) (by decide)];unfold dh;rw[if_pos (by rw[e2];decide)]
 rw[if_neg e2]
 by_cases e3:w=[100,100]
 .
  rw[if_pos e3,hdt _ e3 (by decide) (by decide)];unfold dh;rw[if_pos (by rw[e3];decide)]
 rw[if_neg e3]
 by_cases e4:w=[100,113]
 .
  rw[if_pos e4,hdt _ e4 (by decide) (by decide)];unfold dh;rw[if_pos (by rw[e4];decide)]
 rw[if_neg e4]
 have k1:w ∉ nC:=hmem _ λv hv=>by
  simp only[nC,List.mem_cons,List.not_mem_nil,or_false] at hv;rcases hv with rfl|rfl|rfl|rfl<;>assumption
 by_cases e5:w=[114,101,115,98]
 .
  rw[if_pos e5,H8 _ e5 (by decide) (by decide)];unfold dh;rw[if_neg k1,if_pos (by rw[e5];decide)]
 rw[if_neg e5]
 by_cases e6:w=[114,101,115,119]
 .
  rw[if_pos e6,H8 _ e6 (by decide) (by decide)];unfold dh;rw[if_neg k1,if_pos (by rw[e6];decide)]
 rw[if_neg e6]
 by_cases e7:w=[114,101,115,100]
 .
  rw[if_pos e7,H8 _ e7 (by decide) (by decide)];unfold dh;rw[if_neg k1,if_pos (by rw[e7];decide)]
 rw[if_neg e7]
 by_cases e8:w=[114,101,115,113]
 .
  rw[if_pos e8,H8 _ e8 (by decide) (by decide)];unfold dh;rw[if_neg k1,if_pos (by rw[e8];decide)]
 rw[if_neg e8]
 have k2:w ∉ Zt:=hmem _ λv hv=>by
  simp only[Zt,List.mem_cons,List.not_mem_nil,or_false] at hv;rcases hv with rfl|rfl|rfl|rfl<;>assumption
 unfold dh
 rw[if_neg k1,if_neg k2,RU hl hd hx h0 h1,RU hl hd hx h0 h1,ZF hl hd hx h0 h1,ZG hl hd hx h0 h1,ZD hl h0 h1,Vd hl hd hx]
 have hf:=kj (n:=n) (l:=l) (s:=s) (e:=4) h0
 rw[show s.data.length=0 by rw[hd];rfl,show s.x.length=0 by rw[hx];rfl] at hf
 rw[hf,pick2_eq]
 repeat' split
 all_goals rfl
theorem Ve {w:List UInt8} {aR:Bool} {s:RS} {K:br} (hd:s.data=[]) (hx:s.x=[]) (h0:0<=s.a) (hK:K=bG n l (dh n l w s)):ZA n l w aR s s.times.length K=bG n l (Et n l w aR s):=by
 have hf:=kj (n:=n) (l:=l) (s:=s) (e:=4) h0
 rw[show s.data.length=0 by rw[hd];rfl,show s.x.length=0 by rw[hx];rfl] at hf
 subst hK
 unfold ZA F4 Et
 simp only
 rw[hf]
 simp only[oC,Nh]
 have b1:pick2 aR (bG n l (cy n l s 4 s.a)) (if s.lab=[] then bG n l (dh n l w s) else bG n l (cy n l s 4 s.a))=bG n l (if aR=true\/s.lab≠[] then cy n l s 4 s.a else dh n l w s):=by
  cases aR with
  |true=>rw[if_pos (show true=true\/s.lab≠[] from .inl rfl)]
  |
   false =>
   show (if s.lab=[] then _ else _)=_;by_cases h:s.lab=[]
   .
    rw[if_pos h,if_neg (show ¬(false=true\/s.lab≠[]) from λq=>by rcases q with q|q;cases q;exact q h)]
   rw[if_neg h,if_pos (show false=true\/s.lab≠[] from .inr h)]
 have b2:pick2 aR (bG n l (cy n l s 4 s.a)) (bG n l (dh n l w s))=bG n l (if aR=true then cy n l s 4 s.a else dh n l w s):=by
  cases aR<;>rfl
 rw[b1,b2]
 by_cases e1:w=uY\/w=dF\/w=qR
 .
  have hB:(if w=uY then if w=uY then bG n l (if aR=true\/s.lab≠[] then cy n l s 4 s.a else dh n l w s) else if w=jb then bG n l (if aR=true then cy n l s 4 s.a else dh n l w s) else bG n l (dh n l w s)
   else if w=dF then if w=dF then bG n l (if aR=true\/s.lab≠[] then cy n l s 4 s.a else dh n l w s) else if w=jb then bG n l (if aR=true then cy n l s 4 s.a else dh n l w s) else bG n l (dh n l w s)
   else if w=qR then bG n l (if aR=true\/s.lab≠[] then cy n l s 4 s.a else dh n l w s) else if w=jb then bG n l (if aR=true then cy n l s 4 s.a else dh n l w s) else bG n l (dh n l w s))=bG n l (if aR=true\/s.lab≠[] then cy n l s 4 s.a else dh n l w s):=by
   by_cases a1:w=uY
   .
    rw[if_pos a1,if_pos a1]
   rw[if_neg a1];by_cases a2:w=dF
   .
    rw[if_pos a2,if_pos a2]
   rw[if_neg a2,if_pos (by rcases e1 with e|e|e;exact absurd e a1;exact absurd e a2;exact e)]
  rw[hB];have hna:w≠jb:=λe=>by rw[e] at e1;revert e1;decide
  by_cases ht:aR=true\/s.lab≠[]
  .
   rw[if_pos ht,if_pos (show (w=uY\/w=dF\/w=qR)/\(aR=true\/s.lab≠[]) from ⟨e1,ht⟩)]
  rw[if_neg ht,if_neg (show ¬((w=uY\/w=dF\/w=qR)/\(aR=true\/s.lab≠[])) from λq=>ht q.2),if_neg (show ¬(w=jb/\aR=true) from λq=>hna q.1)]
 simp only[not_or] at e1
 rw[if_neg e1.1,if_neg e1.2.1,if_neg e1.2.2,if_neg (show ¬((w=uY\/w=dF\/w=qR)/\(aR=true\/s.lab≠[])) from λq=>by rcases q.1 with q|q|q;exact e1.1 q;exact e1.2.1 q;exact e1.2.2 q)]
 by_cases ha:w=jb
 .
  rw[if_pos ha];by_cases ht:aR=true
  .
   rw[if_pos ht,if_pos (show w=jb/\aR=true from ⟨ha,ht⟩)]
  rw[if_neg ht,if_neg (show ¬(w=jb/\aR=true) from λq=>ht q.2)]
 rw[if_neg ha,if_neg (show ¬(w=jb/\aR=true) from λq=>ha q.1)]
theorem RV {aR:Bool} {s:RS} {K:List UInt8->br} (hd:s.data=[]) (hx:s.x=[]) (h0:0<=s.a) (hK:∀w,eH l s.a=some w->K w=bG n l (Et n l w aR s)):sw n l aR s s.times.length K=bG n l (gZ n l aR s):=by
 have g0:s.data.length=0:=by rw[hd];rfl
 have g1:s.x.length=0:=by rw[hx];rfl
 have hf:=kj (n:=n) (l:=l) (s:=s) (e:=4) h0
 rw[g0,g1] at hf
 have h1:=Lm (l:=l) h0 (bG n l (cy n l s 4 s.a)) K (A:=λ_ _=>none) (none:br)
 have h2:sw n l aR s s.times.length K=pick2 (eqI s.a l.length) (pick2 (!aR) (Av true n l s 0 0 s.times.length) (bG n l (cy n l s 4 s.a))) (pick2 (ltI s.a l.length) ((aS l s.a).elim none λy=>pick2 (!eqI y.1 1) (bG n l (cy n l s 4 s.a)) ((aS l s.a).elim none λz=>K z.2.2.1)) (bG n l (cy n l s 4 s.a))):=by
  unfold sw F4 rX;rw[hf];cases aS l s.a<;>rfl
 rw[h2,h1,aH]
 unfold gZ
 by_cases ha:s.a=l.length
 .
  rw[if_pos ha,if_pos ha];cases aR with
  |true=>rfl
  |
   false =>
   show Av true n l s 0 0 s.times.length=Av true n l s s.data.length s.x.length s.times.length;rw[g0,g1]
 rw[if_neg ha,if_neg ha]
 cases hn:eH l s.a with
 |none=>rfl
 |some w=>exact hK w hn
end
def kb (n:Int) (l:List Tok) (r:Nat) (p:List Bool) (f:cj) (H:aa):br:=codeFrom X0 cL xY r 65 p rW f H
section
variable {n:Int} {l:List Tok} {r:Nat}
theorem ag1 (hl:l.length<=200000) {w:List UInt8} {a:Int} {lab:List UInt8} {times:List Nd} (hw:eH l a=some w):kb n l r p9 (fr9 w) (CY n l (st0 a lab times) 0 0 times.length)=bG n l (dh n l w (st0 a lab times)) :=
 (adI n l r w a lab times).trans (ZH (s:=st0 a lab times) hl rfl rfl hw)
theorem ag2 (hl:l.length<=200000) {w:List UInt8} {aR:Bool} {a:Int} {lab:List UInt8} {times:List Nd} (hw:eH l a=some w):kb n l r p8 (fr8 aR w) (CY n l (st0 a lab times) 0 0 times.length)=bG n l (Et n l w aR (st0 a lab times)):=by
 have h:=wN (X:=X0) (call:=cL) (an:=xY) (rounds:=r) (id:=65) (p:=p8) (q:=[]) (by kernel_rfl) rW (fr8 aR w) (CY n l (st0 a lab times) 0 0 times.length)
 exact h.trans ((adJ n l r w aR a lab times _).trans (Ve (s:=st0 a lab times) rfl rfl (Ll hw).1 (ag1 hl hw)))
theorem adO (hl:l.length<=200000) {aR:Bool} {a:Int} {lab:List UInt8} {times:List Nd} (h0:0<=a):sw n l aR (st0 a lab times) times.length (λw=>kb n l r p8 (fr8 aR w) (CY n l (st0 a lab times) 0 0 times.length))=bG n l (gZ n l aR (st0 a lab times)) :=
 RV (s:=st0 a lab times) rfl rfl h0 λw hw=>ag2 hl hw
theorem ag3 (hl:l.length<=200000) {aR:Bool} {a:Int} {lab:List UInt8} (h0:0<=a) (h1:a<=l.length):kb n l r p4 (fr4 aR) (CY n l (st0 a lab []) 0 0 0)=bG n l (if aR=true then HS n l (st0 (a+1) lab []) λx e=>gZ n l true (st0 e lab x) else gZ n l false (st0 a lab [])):=by
 have h:=wN (X:=X0) (call:=cL) (an:=xY) (rounds:=r) (id:=65) (p:=p4) (q:=[true,true,true]) (by kernel_rfl) rW (fr4 aR) (CY n l (st0 a lab []) 0 0 0)
 refine h.trans ((adK n l r aR a lab _).trans ?_)
 rw[i64_in (n:=a+1) (by omega) (by omega)]
 cases aR with
 |
  true =>
  exact Ep (n:=n) hl (s:=st0 (a+1) lab []) (goF:=λx e=>gZ n l true (st0 e lab x)) λx e Oj he2=>adO (aR:=true) hl (by have Oj:a+1<e:=Oj;omega)
 |false=>exact adO (aR:=false) hl h0
theorem ag4 (hl:l.length<=200000) {a:Int} {lab:List UInt8} (h0:0<=a) (h1:a<=l.length):kb n l r p3 fr3 (CY n l (st0 a lab []) 0 0 0)=bG n l (fW n l (st0 a lab [])):=by
 have h:=wN (X:=X0) (call:=cL) (an:=xY) (rounds:=r) (id:=65) (p:=p3) (q:=[]) (by kernel_rfl) rW fr3 (CY n l (st0 a lab []) 0 0 0)
 refine h.trans ((adL n l r a lab _).trans ?_)
 have go:∀b:Bool,codeFrom X0 cL xY r 65 (p3++[true]) rW (fr4 b) (CY n l (st0 a lab []) 0 0 0)=bG n l (if b=true then HS n l (st0 (a+1) lab []) λx e=>gZ n l true (st0 e lab x) else gZ n l false (st0 a lab [])):=λb=>ag3 hl h0 h1
 simp only[go]
 unfold fW
 show _=bG n l (if eH l a=some wM then HS n l (st0 (a+1) lab []) λx e=>gZ n l true (st0 e lab x) else gZ n l false (st0 a lab []))
 unfold rX
 rw[aV,getI_at?]
 cases cw:at? l a with
 |
  none =>
  have:=dR h0 cw;rw[if_neg (by omega),rN cw];rfl
 |
  some t =>
  rw[if_pos (dL cw).2,oF cw];show pick2 (eqI t.1 1) (bG n l (if decide (t.2.2.1=wM)=true then _ else _)) _=_;rw[aH];by_cases h1:t.1=1
  .
   rw[if_pos h1,if_pos h1];by_cases h2:t.2.2.1=wM
   .
    rw[if_pos (decide_eq_true h2),if_pos (by rw[h2])]
   rw[if_neg (by simpa using h2),if_neg (λq=>h2 (Option.some.inj q))]
  rw[if_neg h1,if_neg h1,if_neg (by simp)];rfl
theorem RW (hl:l.length<=200000) {K:RS->br} (hK:∀a lab,0<=a->a<=(l.length:Int)->K (st0 a lab [])=bG n l (fW n l (st0 a lab []))):mF n l K=bG n l (cF n l ei):=by
 have hz:K ei=bG n l (fW n l ei):=hK 0 [] (by omega) (by omega)
 unfold mF cF
 simp only
 have hno:(pick2 (ltI 0 l.length) (rX l 0 λy=>pick2 (eqI y.1 1) (pick2 (ltI 1 l.length) (rX l 1 λy=>pick2 (eqI y.1 4) (rX l 1 λy=>pick2 (decide (y.2.2.1=[58])) (Ew n l ei 0 0 0 0 λt=>K (st0 2 t [])) (K ei)) (K ei)) (K ei)) (K ei)) (K ei)) =
  bG n l (if (eH l 0).isSome=true/\aM l 1 [58]=true then rY n l 0 ei λs=>fW n l { s with a:=2 } else fW n l ei):=by
  rw[hz];unfold rX;rw[aV,show aS l (0:Int)=at? l 0 by rw[getI_at?]]
  cases cw:at? l 0 with
  |
   none =>
   have:=dR (by omega) cw
   rw[if_neg (by omega),if_neg (λq=>by rw[rN cw] at q;cases q.1)]
  |
   some t =>
   rw[if_pos (dL cw).2];show pick2 (eqI t.1 1) _ _=_;rw[aH];by_cases h1:t.1=1
   .
    rw[if_pos h1,aV,show aS l (1:Int)=at? l 1 by rw[getI_at?]]
    have hs:(eH l 0).isSome=true:=by rw[oF cw,if_pos h1];rfl
    cases pM:at? l 1 with
    |
     none =>
     have:=dR (by omega) pM
     have hb:aM l 1 [58]=false:=by unfold aM;rw[pM]
     rw[if_neg (by omega),if_neg (λq=>by rw[hb] at q;cases q.2)]
    |
     some c =>
     have hlt:=(dL pM).2;have hb:aM l 1 [58]=(eqI c.1 4&&decide (c.2.2.1=[58])):=by unfold aM;rw[pM];exact Eh c [58]
     have hlab:=Ex (n:=n) (l:=l) (s:=ei) (i:=0) (by omega) (k:=λt=>K (st0 2 t [])) (kF:=λs=>fW n l { s with a:=2 }) λt _=>hK 2 t (by omega) (by omega)
     have hlab:Ew n l ei 0 0 0 0 (λt=>K (st0 2 t []))=_:=hlab
     rw[if_pos hlt,hlab];show pick2 (eqI c.1 4) (pick2 (decide (c.2.2.1=[58])) _ _) _=_;cases h4:eqI c.1 4 with
     |false=>rw[if_neg (λq=>by rw[hb,h4] at q;cases q.2)]
     |
      true =>
      cases h5:decide (c.2.2.1=[58]) with
      |false=>rw[if_neg (λq=>by rw[hb,h4,h5] at q;cases q.2)]
      |true=>rw[if_pos ⟨hs,by rw[hb,h4,h5];rfl⟩]
   rw[if_neg h1,if_neg (λq=>by rw[oF cw,if_neg h1] at q;cases q.1)]
 rw[hno]
 unfold rX
 rw[aV,show aS l (1:Int)=at? l 1 by rw[getI_at?]]
 cases cw:at? l 1 with
 |
  none =>
  have:=dR (by omega) cw
  rw[if_neg (by omega),if_neg (show ¬eH l 1=some pQ from λq=>by rw[rN cw] at q;cases q)]
 |
  some t =>
  have hlt:=(dL cw).2;have hlab:=Ex (n:=n) (l:=l) (s:=ei) (i:=0) (by omega) (k:=λt=>C4 n l 3 { ei with lab:=t,a:=2 } 0) (kF:=λs=>qT n l 3 { s with a:=2 }) λt _=>AB (s:={ ei with lab:=t,a:=2 }) hl rfl rfl (show (0:Int)<=2 by decide)
  have hlab:Ew n l ei 0 0 0 0 (λt=>C4 n l 3 { ei with lab:=t,a:=2 } 0)=_:=hlab
  rw[if_pos hlt,hlab];show pick2 (eqI t.1 1) (pick2 (decide (t.2.2.1=pQ)) _ _) _=_;rw[aH,oC,oF cw];by_cases h1:t.1=1
  .
   rw[if_pos h1,if_pos h1];by_cases h2:t.2.2.1=pQ
   .
    rw[if_pos h2,if_pos (show some t.2.2.1=some pQ by rw[h2])];rfl
   rw[if_neg h2,if_neg (show ¬some t.2.2.1=some pQ from λq=>h2 (Option.some.inj q))]
  rw[if_neg h1,if_neg h1,if_neg (show ¬(none:Option (List UInt8))=some pQ by simp)]
theorem adP (hl:l.length<=200000):ag X0 cL xY r 65 [.ptr 0 0] (dJ 126 14 (CV n l ei)) rW=bG n l (cF n l ei):=by
 rw[Jk (p:=p3) (by kernel_rfl),adM]
 exact RW hl λa lab h0 h1=>ag4 hl h0 h1
end
def isZ (s:RS):Bool:=decide (s.a=0)&&decide (s.lab=[])&&decide (s.kind=0)&&decide (s.sz=0)&&decide (s.op=0)&&decide (s.hint=0)&&s.times.isEmpty&&decide (s.e=0)&&decide (s.f=0)
def FLn:Zb:=λn l s=>some (Nat.ble l.length 200000&&isZ s,cF n l ei)
theorem ZI:cA X0 eo 65 (Zc FLn) :=
 JG rfl Ay WB λn l s b s' h1 h2 h3 hF=>by
  obtain ⟨a,lab,kind,sz,op,hint,args,data,x,times,e,f⟩:=s;have h1:args=[]:=h1;have h2:data=[]:=h2;have h3:x=[]:=h3;subst h1;subst h2;subst h3;unfold FLn isZ at hF;simp only[Option.some.injEq,Prod.mk.injEq,Bool.and_eq_true,decide_eq_true_eq,List.isEmpty_iff] at hF;obtain ⟨⟨g1,⟨⟨⟨⟨⟨⟨⟨⟨rfl,rfl⟩,rfl⟩,rfl⟩,rfl⟩,rfl⟩,rfl⟩,rfl⟩,rfl⟩⟩,hF⟩:=hF;refine ⟨xY,5,(adP (Nat.le_of_ble_eq_true g1)).trans ?_⟩;rw[hF];rfl
def NL:List lS:=(65,Zc FLn)::ND
theorem WE:dD X0 eo NL:=.cons ZI WB
end
end Go.Proofs.YtpaddkkfefgkfaaGreatDoor.ps

namespace Go.Proofs.YtpaddkkfefgkfaaGreatDoor.ps
open Go.Tv Go.Ev Go.Px Go.Pp Go.Proofs.YtpaddkkfefgkfaaGreatDoor.ex
set_option maxRecDepth 100000
noncomputable section
def stL (s:RS):AV:=.agg [.str s.lab,.int .i64 s.kind,.int .i64 s.sz,.int .i64 s.op,.int .i64 s.hint,.bQ mQ s.args,.bQ BA s.data,.bQ ek s.x,.bQ ek s.times]
def rdL (r:RS×Int×Int):List AV:=[stL r.1,.agg [.int .i64 r.2.1,.int .i64 r.2.2]]
def sgS:List (List (Option Tv.Ty)):=[[none,none,none,none,none,some mQ,some BA,some ek,some ek],[none,none]]
def rdT (s:List UInt8):lU :=
 pick2 (!eqI (lt.aG s).2.1 0) (some (rdL (ei,(lt.aG s).2.1,(lt.aG s).2.2)))
  (pick2 (((Nat.ble (lt.aG s).1.length 200000&&true)&&true)&&true)
   (pick2 (!(cF s.length (lt.aG s).1 ei).1) (some (rdL (ei,(cF s.length (lt.aG s).1 ei).2.e,(cF s.length (lt.aG s).1 ei).2.f))) (some (rdL ((cF s.length (lt.aG s).1 ei).2,0,0)))) none)
theorem Vf (s:List UInt8):ag X0 (cN P3 NL _) dc 5 29 [.str s] aa.empty (oz sgS)=rdT s:=by kernel_rfl
theorem AE (s:List UInt8):∀(m:Nat) (r:List UInt8),(lt.bp s m r).1.length<=m
 |0,_=>by simp[lt.bp]
 |m+1,[]=>by simp[lt.bp]
 |
  m+1,c::r=>by
  unfold lt.bp;split
  .
   have:=AE s m r;omega
  split
  .
   simp
  split
  .
   have:=AE s m (s.drop (lt.bw s c (s.length-(r.length+1))).2.1.toNat);simp only[List.length_cons];omega
  simp
theorem AF (s:List UInt8):(lt.aG s).1.length<=1000:=by
 unfold lt.aG
 split
 .
  simp
 rename_i h
 split
 .
  have:=AE s s.length s;show (lt.bp s s.length s).1.length<=1000;omega
 simp
theorem ZJ (s:List UInt8):rdT s=some (rdL (ck s)):=by
 have hl:=AF s
 unfold rdT ck
 rw[cP (show (lt.aG s).1.length<=200000 by omega),bz]
 by_cases h:(lt.aG s).2.1=0
 .
  rw[if_pos h,if_neg (show ¬(lt.aG s).2.1≠0 from λq=>q h)]
  show pick2 (!(cF s.length (lt.aG s).1 ei).1) _ _=_;cases (cF s.length (lt.aG s).1 ei).1<;>rfl
 rw[if_neg h,if_pos h]
def fRd (args:List AV):Option (Bool×List AV) :=
 match args with
 |[.str s]=>some (true,rdL (ck s))
 |_=>none
theorem RX:cA X0 eo 29 ⟨none,[none],gV fRd⟩ :=
 GN rfl Ay WE sgS λvs ws hf=>by
  unfold fRd at hf;split at hf
  case h_2=>cases hf
  rename_i s;simp only[Option.some.injEq,Prod.mk.injEq] at hf;obtain ⟨_,rfl⟩:=hf;refine ⟨rfl,dc,5,?_⟩;rw[Vf,ZJ]
def NR:List lS:=(29,⟨none,[none],gV fRd⟩)::NL
theorem WG:dD X0 eo NR:=.cons RX WE
end
end Go.Proofs.YtpaddkkfefgkfaaGreatDoor.ps

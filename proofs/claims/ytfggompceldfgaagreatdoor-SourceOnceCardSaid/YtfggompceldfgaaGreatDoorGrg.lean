/- Lines: reading one, as it runs. Lines: the contract of reading one. Lines: the contract of Read. -/
import Derived.Test.YtfggompceldfgaaGreatDoorGrf
set_option linter.unusedVariables false
set_option linter.unusedSimpArgs false

namespace Go.Proofs.YtfggompceldfgaaGreatDoor.ps
open Go.Tv Go.Ev Go.Px Go.Pp Go.Proofs.YtfggompceldfgaaGreatDoor.ex
set_option maxRecDepth 100000
noncomputable section
def p3:List Bool:=[true,true,true]
def p4:List Bool:=[true,true,true,true]
def p8:List Bool:=[true,true,true,true,true,true,true,true]
def p9:List Bool:=[true,true,true,true,true,true,true,true,true]
def CM:eD:=⟨qt (gZ [0] p3) (qt (gZ [0,3] p4) (qt (gZ [0,3,4] p8) (gZ [0,4] p9))),.none,[]⟩
def fr3:fF:=lz 143 [(0,.ptr 0 0)]
def fr4 (b:Bool):fF:=lz 143 [(0,.ptr 0 0),(3,.bool b)]
def fr8 (b:Bool)(w:List UInt8):fF:=lz 143 [(0,.ptr 0 0),(3,.bool b),(4,.str w)]
def fr9 (w:List UInt8):fF:=lz 143 [(0,.ptr 0 0),(4,.str w)]
abbrev cL:cI (List fK×List Nat):=cN P3 ND _
section
variable (n:Int) (l:List Tok)
def Jp (s:RS)(nd nx nt:Nat)(i:Int)(k:List UInt8->dV):dV :=
 ah (bB i l.length) (x5 l i λy=>ah (!bI y.1 1) (nv n l s nd nx nt 4 i) (x5 l i λy=>ah (lt.vf y.2.2.1) (nv n l s nd nx nt 7 i) (k y.2.2.1))) (nv n l s nd nx nt 4 i)
def OU (s:RS)(nd nx nt:Nat):dV:=ah (bI s.a l.length) (EY true n l s nd nx nt) (nv n l s nd nx nt 4 s.a)
def Ho (aC:Int)(s:RS)(nt:Nat):dV:=exT n l { s with aC:=aC } 0 0 nt λx e=>OU n l { s with aC:=aC,x:=x,a:=e } 0 x.length nt
def st0 (a:Int)(lab:List UInt8)(ai:List Nd):RS:=⟨a,lab,0,0,0,0,[],[],[],ai,0,0⟩
def dtT (s:RS):dV:=ah (((inL l s.a&&(!bB (j4 l s.a).length 1&&Nat.ble (j4 l s.a).length 2000000))&&true)&&true) (eV n l (Ao n l s)) none
def dcT (s:RS):dV:=ah ((inL l s.a&&true)&&true) (eV n l (L3 n l s)) none
def rsT (s:RS)(nt:Nat):dV:=x5 l s.a λy=>ah (!bB y.2.2.1.length 1&&Nat.ble y.2.2.1.length 2000000) (Ho n l 8 { s with sz:=rq y.2.2.1,a:=IntKind.wrap .i64 (s.a+1) } nt) none
def alT (aC:Int)(s:RS)(nt:Nat):dV:=Ho n l aC { s with a:=IntKind.wrap .i64 (s.a+1) } nt
def SK (s:RS)(nt:Nat):dV:=Jp n l { s with aC:=6 } 0 0 nt (IntKind.wrap .i64 (s.a+1)) λt=>OU n l { s with aC:=6,lab:=t,a:=IntKind.wrap .i64 (s.a+2) } 0 0 nt
def enT (s:RS)(nt:Nat):dV:=OU n l { s with aC:=7,a:=IntKind.wrap .i64 (s.a+1) } 0 0 nt
def afN (s:RS)(nt:Nat):dV:=ah (Nat.ble l.length 200000) (ah (!bI (ep l s.a).2.2.2.1 0) (nv n l s 0 0 nt (ep l s.a).2.2.2.1 (ep l s.a).2.2.2.2)
 (EY true n l { s with aC:=1,op:=(ep l s.a).1,aL:=(ep l s.a).2.1,args:=(ep l s.a).2.2.1 } 0 0 nt)) none
def wsT (w:List UInt8)(s:RS)(nt:Nat):dV :=
 [(
  [100,98],dtT n l s),([100,119],dtT n l s),([100,100],dtT n l s),([100,113],dtT n l s),([114,101,115,98],rsT n l s nt),([114,101,115,119],rsT n l s nt),([114,101,115,100],rsT n l s nt),([114,101,115,113],rsT n l s nt),
  (qf,alT n l 4 s nt),(CL,alT n l 5 s nt),(qW,SK n l s nt),(Ap,enT n l s nt),(akp,dcT n l s)].foldr (λq r=>ah (decide (w=q.1)) q.2 r) (ah (nm.lp w).2 (afN n l s nt) (nv n l s 0 0 nt 4 s.a))
end
def j9 (n:Int)(l:List Tok)(r:Nat)(w:List UInt8)(s:RS)(nt:Nat):dV:=codeFrom X0 cL CM r 30 p9 xZ (fr9 w) (Hh n l s 0 0 nt)
theorem akr (n:Int)(l:List Tok)(r:Nat)(w:List UInt8)(a:Int)(lab:List UInt8)(ai:List Nd):j9 n l r w (st0 a lab ai) ai.length=wsT n l w (st0 a lab ai) ai.length:=by kernel_rfl
def F4 (n:Int)(l:List Tok)(s:RS)(nt:Nat):dV:=nv n l s 0 0 nt 4 s.a
def afO (n:Int)(l:List Tok)(w:List UInt8)(cY:Bool)(s:RS)(nt:Nat)(K:dV):dV :=
 (λb1 al:dV=>ah (decide (w=CL)) (ah (decide (w=CL)) b1 al) (ah (decide (w=qW)) (ah (decide (w=qW)) b1 al) (ah (decide (w=Ap)) b1 al)))
  (ah cY (F4 n l s nt) (ah (!decide (s.lab=[])) (F4 n l s nt) K)) (ah (decide (w=qf)) (ah cY (F4 n l s nt) K) K)
theorem aks (n:Int)(l:List Tok)(r:Nat)(w:List UInt8)(cY:Bool)(a:Int)(lab:List UInt8)(ai:List Nd)(K:fF->aH->dV) :
 OT X0 cL CM r 30 p8 [true] xZ K (fr8 cY w) (Hh n l (st0 a lab ai) 0 0 ai.length)=afO n l w cY (st0 a lab ai) ai.length (K (fr9 w) (Hh n l (st0 a lab ai) 0 0 ai.length)):=by kernel_rfl
def yl (n:Int)(l:List Tok)(cY:Bool)(s:RS)(nt:Nat)(K:List UInt8->dV):dV :=
 ah (bI s.a l.length) (ah (!cY) (EY true n l s 0 0 nt) (F4 n l s nt))
  (ah (bB s.a l.length) (x5 l s.a λy=>ah (!bI y.1 1) (F4 n l s nt) (x5 l s.a λz=>K z.2.2.1)) (F4 n l s nt))
theorem akt (n:Int)(l:List Tok)(r:Nat)(cY:Bool)(a:Int)(lab:List UInt8)(K:fF->aH->dV) :
 OT X0 cL CM r 30 p4 [true,true,true,true] xZ K (fr4 cY) (Hh n l (st0 a lab []) 0 0 0) =
  ah cY (exT n l (st0 (IntKind.wrap .i64 (a+1)) lab []) 0 0 0 λx e=>yl n l cY (st0 e lab x) x.length λw=>K (fr8 cY w) (Hh n l (st0 e lab x) 0 0 x.length))
   (yl n l cY (st0 a lab []) 0 λw=>K (fr8 cY w) (Hh n l (st0 a lab []) 0 0 0)):=by kernel_rfl
theorem aku (n:Int)(l:List Tok)(r:Nat)(a:Int)(lab:List UInt8)(K:fF->aH->dV) :
 OT X0 cL CM r 30 p3 [true] xZ K fr3 (Hh n l (st0 a lab []) 0 0 0) =
  (λgo:Bool->dV=>ah (bB a l.length) (x5 l a λy=>ah (bI y.1 1) (x5 l a λz=>go (decide (z.2.2.1=E4))) (go false)) (go false)) λb=>K (fr4 b) (Hh n l (st0 a lab []) 0 0 0):=by kernel_rfl
def su (n:Int)(l:List Tok)(K:RS->dV):dV :=
 (λno:dV=>ah (bB 1 l.length) (x5 l 1 λy=>ah (bI y.1 1) (x5 l 1 λy=>ah (decide (y.2.2.1=L6)) (Jp n l ry 0 0 0 0 λt=>Ho n l 3 { ry with lab:=t,a:=2 } 0) no) no) no)
  (ah (bB 0 l.length) (x5 l 0 λy=>ah (bI y.1 1) (ah (bB 1 l.length) (x5 l 1 λy=>ah (bI y.1 4) (x5 l 1 λy=>ah (decide (y.2.2.1=[58])) (Jp n l ry 0 0 0 0 λt=>K (st0 2 t [])) (K ry)) (K ry)) (K ry)) (K ry)) (K ry))
theorem akv (n:Int)(l:List Tok)(r:Nat)(K:fF->aH->dV) :
 ZM X0 cL CM r 30 p3 [.ptr 0 0] (jg 77 14 (G9 n l ry)) xZ K=su n l λs=>K fr3 (Hh n l s 0 0 0):=by kernel_rfl
theorem SL {α:Type}{p:Prop}[Decidable p](x y:α):ah (!decide p) x y=if p then y else x:=by
 by_cases h:p
 .rw[ag h,bf h];rfl
 rw[aa h,aU h];rfl
section
variable {n:Int} {l:List Tok}
theorem qh {s:RS}{e i:Int}(h:0<=i):nv n l s s.data.length s.x.length s.ai.length e i=eV n l (gJ n l s e i):=wX h
theorem uu {i:Int}{t:Tok}(jw:at? l i=some t):qM l i=if t.1=1 then some t.2.2.1 else none:=by unfold qM;rw[jw]
theorem xM {i:Int}(jw:at? l i=none):qM l i=none:=by unfold qM;rw[jw]
theorem QA {i:Int}{w:List UInt8}(h:qM l i=some w):0<=i/\i<l.length/\j4 l i=w:=by
 unfold qM at h;unfold j4;cases jw:at? l i with
 |none=>rw[jw]at h;cases h
 |some t =>
  rw[jw]at h;simp only at h ⊢;split at h
  .cases h;exact⟨(jh jw).1,(jh jw).2,rfl⟩
  cases h
theorem QB {α:Type}{i:Int}(h:0<=i)(no:α)(yes:List UInt8->α){A:Tok->(Tok->α)->α}(d:α) :
 ah (bB i l.length) ((dX l i).elim d λy=>ah (!bI y.1 1) no ((dX l i).elim d λz=>yes z.2.2.1)) no=(match qM l i with|none=>no|some t=>yes t):=by
 rw[cG,getI_at?];cases jw:at? l i with
 |none =>
  have:=jt h jw;rw[aa (by omega),xM jw]
 |some t =>
  rw[ag (jh jw).2,uu jw];show ah (!bI t.1 1) no (yes t.2.2.1)=_;rw[cX];by_cases h1:t.1=1
  .rw[ag h1,ag h1]
  rw[aa h1,aa h1]
theorem Jq {s:RS}{i:Int}(h:0<=i){k:List UInt8->dV}{kF:RS->LR} (hk:∀t,qM l i=some t->k t=eV n l (kF { s with lab:=t })):Jp n l s s.data.length s.x.length s.ai.length i k=eV n l (FR n l i s kF):=by
 have h1:=QB (l:=l) h (nv n l s s.data.length s.x.length s.ai.length 4 i) (λt=>ah (lt.vf t) (nv n l s s.data.length s.x.length s.ai.length 7 i) (k t)) (A:=λ_ _=>none) (none:dV);have h2:Jp n l s s.data.length s.x.length s.ai.length i k=ah (bB i l.length) ((dX l i).elim none λy=>ah (!bI y.1 1) (nv n l s s.data.length s.x.length s.ai.length 4 i) ((dX l i).elim none λz=>ah (lt.vf z.2.2.1) (nv n l s s.data.length s.x.length s.ai.length 7 i) (k z.2.2.1))) (nv n l s s.data.length s.x.length s.ai.length 4 i):=by
  unfold Jp x5;cases dX l i<;>rfl
 rw[h2,h1,qh h,qh h];unfold FR;cases hn:qM l i with
 |none=>rfl
 |some t =>
  simp only;rw[av,hk t hn];split<;>rfl
theorem Jr {s:RS}(h:0<=s.a):OU n l s s.data.length s.x.length s.ai.length=eV n l (BO n l s):=by
 unfold OU BO;rw[qh h,ck];split<;>rfl
theorem E6 (hl:l.length<=200000){aC:Int}{s:RS}(hd:s.data=[])(hx:s.x=[])(h:0<=s.a):Ho n l aC s s.ai.length=eV n l (vF n l aC s):=by
 have h0:s.data.length=0:=by rw[hd];rfl
 have h1:s.x.length=0:=by rw[hx];rfl
 have:=Jo (n:=n) hl (s:={ s with aC:=aC }) (go:=λx e=>OU n l { s with aC:=aC,x:=x,a:=e } 0 x.length s.ai.length) (goF:=λx e=>BO n l { s with aC:=aC,x:=x,a:=e }) λx e TV he2=>by
  have:=Jr (n:=n) (l:=l) (s:={ s with aC:=aC,x:=x,a:=e }) (show 0<=e by have TV:s.a<e:=TV;omega);simp only[h0]at this;exact this
 simp only[h0,h1]at this;exact this
theorem afP (hl:l.length<=200000){s:RS}(h0:0<=s.a)(h1:s.a<l.length)(hw:1<=(j4 l s.a).length)(hw2:(j4 l s.a).length<=1000):dtT n l s=eV n l (Ao n l s):=by
 unfold dtT inL;rw[ee hl,fG (show (0:Int)<=s.a by omega),pL h1,fG (show (1:Int)<=(j4 l s.a).length by omega),ee (by omega)];rfl
theorem afQ (hl:l.length<=200000){s:RS}(h0:0<=s.a)(h1:s.a<l.length):dcT n l s=eV n l (L3 n l s):=by
 unfold dcT inL;rw[ee hl,fG (show (0:Int)<=s.a by omega),pL h1];rfl
theorem afR (hl:l.length<=200000){s:RS}(hd:s.data=[])(hx:s.x=[])(h0:0<=s.a)(h1:s.a<l.length)(hw:1<=(j4 l s.a).length)(hw2:(j4 l s.a).length<=1000):rsT n l s s.ai.length=eV n l (Hl n l s):=by
 obtain⟨t,ht⟩:=tq h0 h1;have e:j4 l s.a=t.2.2.1:=by unfold j4;rw[ht]
 unfold rsT x5 Hl;rw[getI_at?,ht];rw[e]at hw hw2 ⊢;show ah (!bB t.2.2.1.length 1&&Nat.ble t.2.2.1.length 2000000) _ none=_;rw[fG (by omega),ee (by omega),i64_in (n:=s.a+1) (by omega) (by omega)];exact E6 (n:=n) hl (s:={ s with sz:=rq t.2.2.1,a:=s.a+1 }) hd hx (show 0<=s.a+1 by omega)
theorem WT (hl:l.length<=200000){aC:Int}{s:RS}(hd:s.data=[])(hx:s.x=[])(h0:0<=s.a)(h1:s.a<l.length):alT n l aC s s.ai.length=eV n l (vF n l aC { s with a:=s.a+1 }):=by
 unfold alT;rw[i64_in (n:=s.a+1) (by omega) (by omega)];exact E6 (n:=n) hl (s:={ s with a:=s.a+1 }) hd hx (show 0<=s.a+1 by omega)
theorem ze (hl:l.length<=200000){s:RS}(hd:s.data=[])(hx:s.x=[])(h0:0<=s.a)(h1:s.a<l.length):SK n l s s.ai.length=eV n l (OQ n l s):=by
 have g0:s.data.length=0:=by rw[hd];rfl
 have g1:s.x.length=0:=by rw[hx];rfl
 unfold SK OQ;rw[i64_in (n:=s.a+1) (by omega) (by omega),i64_in (n:=s.a+2) (by omega) (by omega)];have:=Jq (n:=n) (l:=l) (s:={ s with aC:=6 }) (i:=s.a+1) (by omega) (k:=λt=>OU n l { s with aC:=6,lab:=t,a:=s.a+2 } 0 0 s.ai.length) (kF:=λs=>BO n l { s with a:=s.a+2 }) λt _=>by
  have:=Jr (n:=n) (l:=l) (s:={ s with aC:=6,lab:=t,a:=s.a+2 }) (show 0<=s.a+2 by omega);simp only[g0,g1]at this;exact this
 simp only[g0,g1]at this;exact this
theorem afS (hl:l.length<=200000){s:RS}(hd:s.data=[])(hx:s.x=[])(h0:0<=s.a)(h1:s.a<l.length):enT n l s s.ai.length=eV n l (WO n l s):=by
 have g0:s.data.length=0:=by rw[hd];rfl
 have g1:s.x.length=0:=by rw[hx];rfl
 unfold enT WO;rw[i64_in (n:=s.a+1) (by omega) (by omega)];have:=Jr (n:=n) (l:=l) (s:={ s with aC:=7,a:=s.a+1 }) (show 0<=s.a+1 by omega);simp only[g0,g1]at this;exact this
theorem aau (hl:l.length<=200000){s:RS}(hd:s.data=[])(hx:s.x=[]):afN n l s s.ai.length=eV n l (WQ n l s):=by
 have g0:s.data.length=0:=by rw[hd];rfl
 have g1:s.x.length=0:=by rw[hx];rfl
 have hf:=qh (n:=n) (l:=l) (s:=s) (e:=(ep l s.a).2.2.2.1) (OO (a:=s.a) hl);rw[g0,g1]at hf;unfold afN WQ;rw[ee hl,hf];show ah (!bI (ep l s.a).2.2.2.1 0) _ _=_;rw[cX];by_cases he:(ep l s.a).2.2.2.1=0
 .rw[ag he,aa (show ¬(ep l s.a).2.2.2.1≠0 from λq=>q he)];show EY true n l _ 0 0 s.ai.length=EY true n l _ s.data.length s.x.length s.ai.length;rw[g0,g1]
 rw[aa he,ag he]
theorem afT (hl:l.length<=200000){w:List UInt8}{s:RS}(hd:s.data=[])(hx:s.x=[])(hw:qM l s.a=some w):wsT n l w s s.ai.length=eV n l (jR n l w s):=by
 obtain⟨h0,h1,hw2⟩:=QA hw;have hdt:∀w0:List UInt8,w=w0->1<=w0.length->w0.length<=1000->dtT n l s=eV n l (Ao n l s):=λw0 e g1 g2=>afP hl h0 h1 (by rw[hw2,e];exact g1) (by rw[hw2,e];exact g2)
 have JZ:∀w0:List UInt8,w=w0->1<=w0.length->w0.length<=1000->rsT n l s s.ai.length=eV n l (Hl n l s):=λw0 e g1 g2=>afR hl hd hx h0 h1 (by rw[hw2,e];exact g1) (by rw[hw2,e];exact g2)
 have hmem:∀L:List (List UInt8),(∀v∈L,w≠v)->w ∉ L:=λL h hm=>h w hm rfl
 unfold wsT;simp only[fB,j8,um];by_cases e1:w=[100,98]
 .rw[ag e1,hdt _ e1 (by decide) (by decide)];unfold jR;rw[ag (by rw[e1];decide)]
 rw[aa e1];by_cases e2:w=[100,119]
 .rw[ag e2,hdt _ e2 (by decide) (by decide)];unfold jR;rw[ag (by rw[e2];decide)]
 rw[aa e2];by_cases e3:w=[100,100]
 .rw[ag e3,hdt _ e3 (by decide) (by decide)];unfold jR;rw[ag (by rw[e3];decide)]
 rw[aa e3];by_cases e4:w=[100,113]
 .rw[ag e4,hdt _ e4 (by decide) (by decide)];unfold jR;rw[ag (by rw[e4];decide)]
 rw[aa e4];have k1:w ∉ WN:=hmem _ λv hv=>by
  simp only[WN,bw,kC,or_false]at hv;rcases hv with rfl|rfl|rfl|rfl<;>assumption
 by_cases e5:w=[114,101,115,98]
 .rw[ag e5,JZ _ e5 (by decide) (by decide)];unfold jR;rw[aa k1,ag (by rw[e5];decide)]
 rw[aa e5];by_cases e6:w=[114,101,115,119]
 .rw[ag e6,JZ _ e6 (by decide) (by decide)];unfold jR;rw[aa k1,ag (by rw[e6];decide)]
 rw[aa e6];by_cases e7:w=[114,101,115,100]
 .rw[ag e7,JZ _ e7 (by decide) (by decide)];unfold jR;rw[aa k1,ag (by rw[e7];decide)]
 rw[aa e7];by_cases e8:w=[114,101,115,113]
 .rw[ag e8,JZ _ e8 (by decide) (by decide)];unfold jR;rw[aa k1,ag (by rw[e8];decide)]
 rw[aa e8];have k2:w ∉ afK:=hmem _ λv hv=>by
  simp only[afK,bw,kC,or_false]at hv;rcases hv with rfl|rfl|rfl|rfl<;>assumption
 unfold jR;rw[aa k1,aa k2,WT hl hd hx h0 h1,WT hl hd hx h0 h1,ze hl hd hx h0 h1,afS hl hd hx h0 h1,afQ hl h0 h1,aau hl hd hx];have hf:=qh (n:=n) (l:=l) (s:=s) (e:=4) h0;rw[show s.data.length=0 by rw[hd];rfl,show s.x.length=0 by rw[hx];rfl]at hf;rw[hf,av];repeat' split
 all_goals rfl
theorem aav {w:List UInt8}{cY:Bool}{s:RS}{K:dV}(hd:s.data=[])(hx:s.x=[])(h0:0<=s.a)(hK:K=eV n l (jR n l w s)):afO n l w cY s s.ai.length K=eV n l (OS n l w cY s):=by
 have hf:=qh (n:=n) (l:=l) (s:=s) (e:=4) h0;rw[show s.data.length=0 by rw[hd];rfl,show s.x.length=0 by rw[hx];rfl]at hf;subst hK;unfold afO F4 OS;simp only;rw[hf];simp only[um,SL];have b1:ah cY (eV n l (gJ n l s 4 s.a)) (if s.lab=[] then eV n l (jR n l w s) else eV n l (gJ n l s 4 s.a))=eV n l (if cY=true\/s.lab≠[] then gJ n l s 4 s.a else jR n l w s):=by
  cases cY with
  |true=>rw[ag (show true=true\/s.lab≠[] from .inl rfl)]
  |false =>
   show (if s.lab=[] then _ else _)=_;by_cases h:s.lab=[]
   .rw[ag h,aa (show ¬(false=true\/s.lab≠[]) from λq=>by rcases q with q|q;cases q;exact q h)]
   rw[aa h,ag (show false=true\/s.lab≠[] from .inr h)]
 have b2:ah cY (eV n l (gJ n l s 4 s.a)) (eV n l (jR n l w s))=eV n l (if cY=true then gJ n l s 4 s.a else jR n l w s):=by
  cases cY<;>rfl
 rw[b1,b2];by_cases e1:w=CL\/w=qW\/w=Ap
 .have hB:(if w=CL then if w=CL then eV n l (if cY=true\/s.lab≠[] then gJ n l s 4 s.a else jR n l w s) else if w=qf then eV n l (if cY=true then gJ n l s 4 s.a else jR n l w s) else eV n l (jR n l w s)
   else if w=qW then if w=qW then eV n l (if cY=true\/s.lab≠[] then gJ n l s 4 s.a else jR n l w s) else if w=qf then eV n l (if cY=true then gJ n l s 4 s.a else jR n l w s) else eV n l (jR n l w s)
   else if w=Ap then eV n l (if cY=true\/s.lab≠[] then gJ n l s 4 s.a else jR n l w s) else if w=qf then eV n l (if cY=true then gJ n l s 4 s.a else jR n l w s) else eV n l (jR n l w s))=eV n l (if cY=true\/s.lab≠[] then gJ n l s 4 s.a else jR n l w s):=by
   by_cases a1:w=CL
   .rw[ag a1,ag a1]
   rw[aa a1];by_cases a2:w=qW
   .rw[ag a2,ag a2]
   rw[aa a2,ag (by rcases e1 with e|e|e;exact absurd e a1;exact absurd e a2;exact e)]
  rw[hB];have hna:w≠qf:=λe=>by rw[e]at e1;revert e1;decide
  by_cases ht:cY=true\/s.lab≠[]
  .rw[ag ht,ag (show (w=CL\/w=qW\/w=Ap)/\(cY=true\/s.lab≠[]) from ⟨e1,ht⟩)]
  rw[aa ht,aa (show ¬((w=CL\/w=qW\/w=Ap)/\(cY=true\/s.lab≠[])) from λq=>ht q.2),aa (show ¬(w=qf/\cY=true) from λq=>hna q.1)]
 simp only[kK]at e1;rw[aa e1.1,aa e1.2.1,aa e1.2.2,aa (show ¬((w=CL\/w=qW\/w=Ap)/\(cY=true\/s.lab≠[])) from λq=>by rcases q.1 with q|q|q;exact e1.1 q;exact e1.2.1 q;exact e1.2.2 q)];by_cases ha:w=qf
 .rw[ag ha];by_cases ht:cY=true
  .rw[ag ht,ag (show w=qf/\cY=true from ⟨ha,ht⟩)]
  rw[aa ht,aa (show ¬(w=qf/\cY=true) from λq=>ht q.2)]
 rw[aa ha,aa (show ¬(w=qf/\cY=true) from λq=>ha q.1)]
theorem WU {cY:Bool}{s:RS}{K:List UInt8->dV}(hd:s.data=[])(hx:s.x=[])(h0:0<=s.a)(hK:∀w,qM l s.a=some w->K w=eV n l (OS n l w cY s)):yl n l cY s s.ai.length K=eV n l (ru n l cY s):=by
 have g0:s.data.length=0:=by rw[hd];rfl
 have g1:s.x.length=0:=by rw[hx];rfl
 have hf:=qh (n:=n) (l:=l) (s:=s) (e:=4) h0;rw[g0,g1]at hf;have h1:=QB (l:=l) h0 (eV n l (gJ n l s 4 s.a)) K (A:=λ_ _=>none) (none:dV);have h2:yl n l cY s s.ai.length K=ah (bI s.a l.length) (ah (!cY) (EY true n l s 0 0 s.ai.length) (eV n l (gJ n l s 4 s.a))) (ah (bB s.a l.length) ((dX l s.a).elim none λy=>ah (!bI y.1 1) (eV n l (gJ n l s 4 s.a)) ((dX l s.a).elim none λz=>K z.2.2.1)) (eV n l (gJ n l s 4 s.a))):=by
  unfold yl F4 x5;rw[hf];cases dX l s.a<;>rfl
 rw[h2,h1,ck];unfold ru;by_cases ha:s.a=l.length
 .rw[ag ha,ag ha];cases cY with
  |true=>rfl
  |false =>
   show EY true n l s 0 0 s.ai.length=EY true n l s s.data.length s.x.length s.ai.length;rw[g0,g1]
 rw[aa ha,aa ha];cases hn:qM l s.a with
 |none=>rfl
 |some w=>exact hK w hn
end
def kb (n:Int)(l:List Tok)(r:Nat)(p:List Bool)(f:fF)(H:aH):dV:=codeFrom X0 cL CM r 30 p xZ f H
section
variable {n:Int} {l:List Tok} {r:Nat}
theorem aon (hl:l.length<=200000){w:List UInt8}{a:Int}{lab:List UInt8}{ai:List Nd}(hw:qM l a=some w):kb n l r p9 (fr9 w) (Hh n l (st0 a lab ai) 0 0 ai.length)=eV n l (jR n l w (st0 a lab ai)) :=
 (akr n l r w a lab ai).trans (afT (s:=st0 a lab ai) hl rfl rfl hw)
theorem aoo (hl:l.length<=200000){w:List UInt8}{cY:Bool}{a:Int}{lab:List UInt8}{ai:List Nd}(hw:qM l a=some w):kb n l r p8 (fr8 cY w) (Hh n l (st0 a lab ai) 0 0 ai.length)=eV n l (OS n l w cY (st0 a lab ai)):=by
 have h:=ur (X:=X0) (call:=cL) (an:=CM) (rounds:=r) (id:=30) (p:=p8) (q:=[]) (by kernel_rfl) xZ (fr8 cY w) (Hh n l (st0 a lab ai) 0 0 ai.length);exact h.trans ((aks n l r w cY a lab ai _).trans (aav (s:=st0 a lab ai) rfl rfl (QA hw).1 (aon hl hw)))
theorem akw (hl:l.length<=200000){cY:Bool}{a:Int}{lab:List UInt8}{ai:List Nd}(h0:0<=a):yl n l cY (st0 a lab ai) ai.length (λw=>kb n l r p8 (fr8 cY w) (Hh n l (st0 a lab ai) 0 0 ai.length))=eV n l (ru n l cY (st0 a lab ai)) :=
 WU (s:=st0 a lab ai) rfl rfl h0 λw hw=>aoo hl hw
theorem aop (hl:l.length<=200000){cY:Bool}{a:Int}{lab:List UInt8}(h0:0<=a)(h1:a<=l.length):kb n l r p4 (fr4 cY) (Hh n l (st0 a lab []) 0 0 0)=eV n l (if cY=true then JO n l (st0 (a+1) lab []) λx e=>ru n l true (st0 e lab x) else ru n l false (st0 a lab [])):=by
 have h:=ur (X:=X0) (call:=cL) (an:=CM) (rounds:=r) (id:=30) (p:=p4) (q:=[true,true,true]) (by kernel_rfl) xZ (fr4 cY) (Hh n l (st0 a lab []) 0 0 0);refine h.trans ((akt n l r cY a lab _).trans ?_);rw[i64_in (n:=a+1) (by omega) (by omega)];cases cY with
 |true =>
  exact Jo (n:=n) hl (s:=st0 (a+1) lab []) (goF:=λx e=>ru n l true (st0 e lab x)) λx e TV he2=>akw (cY:=true) hl (by have TV:a+1<e:=TV;omega)
 |false=>exact akw (cY:=false) hl h0
theorem aoq (hl:l.length<=200000){a:Int}{lab:List UInt8}(h0:0<=a)(h1:a<=l.length):kb n l r p3 fr3 (Hh n l (st0 a lab []) 0 0 0)=eV n l (qg n l (st0 a lab [])):=by
 have h:=ur (X:=X0) (call:=cL) (an:=CM) (rounds:=r) (id:=30) (p:=p3) (q:=[]) (by kernel_rfl) xZ fr3 (Hh n l (st0 a lab []) 0 0 0);refine h.trans ((aku n l r a lab _).trans ?_);have go:∀b:Bool,codeFrom X0 cL CM r 30 (p3++[true]) xZ (fr4 b) (Hh n l (st0 a lab []) 0 0 0)=eV n l (if b=true then JO n l (st0 (a+1) lab []) λx e=>ru n l true (st0 e lab x) else ru n l false (st0 a lab [])):=λb=>aop hl h0 h1
 simp only[go];unfold qg;show _=eV n l (if qM l a=some E4 then JO n l (st0 (a+1) lab []) λx e=>ru n l true (st0 e lab x) else ru n l false (st0 a lab []));unfold x5;rw[cG,getI_at?];cases jw:at? l a with
 |none =>
  have:=jt h0 jw;rw[aa (by omega),xM jw];rfl
 |some t =>
  rw[ag (jh jw).2,uu jw];show ah (bI t.1 1) (eV n l (if decide (t.2.2.1=E4)=true then _ else _)) _=_;rw[ck];by_cases h1:t.1=1
  .rw[ag h1,ag h1];by_cases h2:t.2.2.1=E4
   .rw[ag (bf h2),ag (by rw[h2])]
   rw[aa (by simpa using h2),aa (λq=>h2 (bL q))]
  rw[aa h1,aa h1,aa (by simp)];rfl
theorem WV (hl:l.length<=200000){K:RS->dV}(hK:∀a lab,0<=a->a<=(l.length:Int)->K (st0 a lab [])=eV n l (qg n l (st0 a lab []))):su n l K=eV n l (pQ n l ry):=by
 have hz:K ry=eV n l (qg n l ry):=hK 0 [] (by omega) (by omega);unfold su pQ;simp only;have hno:(ah (bB 0 l.length) (x5 l 0 λy=>ah (bI y.1 1) (ah (bB 1 l.length) (x5 l 1 λy=>ah (bI y.1 4) (x5 l 1 λy=>ah (decide (y.2.2.1=[58])) (Jp n l ry 0 0 0 0 λt=>K (st0 2 t [])) (K ry)) (K ry)) (K ry)) (K ry)) (K ry)) =
  eV n l (if (qM l 0).isSome=true/\dF l 1 [58]=true then FR n l 0 ry λs=>qg n l { s with a:=2 } else qg n l ry):=by
  rw[hz];unfold x5;rw[cG,show dX l (0:Int)=at? l 0 by rw[getI_at?]];cases jw:at? l 0 with
  |none =>
   have:=jt (by omega) jw;rw[aa (by omega),aa (λq=>by rw[xM jw]at q;cases q.1)]
  |some t =>
   rw[ag (jh jw).2];show ah (bI t.1 1) _ _=_;rw[ck];by_cases h1:t.1=1
   .rw[ag h1,cG,show dX l (1:Int)=at? l 1 by rw[getI_at?]];have hs:(qM l 0).isSome=true:=by rw[uu jw,ag h1];rfl
    cases vK:at? l 1 with
    |none =>
     have:=jt (by omega) vK;have hb:dF l 1 [58]=false:=by unfold dF;rw[vK]
     rw[aa (by omega),aa (λq=>by rw[hb]at q;cases q.2)]
    |some c =>
     have hlt:=(jh vK).2;have hb:dF l 1 [58]=(bI c.1 4&&decide (c.2.2.1=[58])):=by unfold dF;rw[vK];exact Jb c [58]
     have hlab:=Jq (n:=n) (l:=l) (s:=ry) (i:=0) (by omega) (k:=λt=>K (st0 2 t [])) (kF:=λs=>qg n l { s with a:=2 }) λt _=>hK 2 t (by omega) (by omega)
     have hlab:Jp n l ry 0 0 0 0 (λt=>K (st0 2 t []))=_:=hlab;rw[ag hlt,hlab];show ah (bI c.1 4) (ah (decide (c.2.2.1=[58])) _ _) _=_;cases h4:bI c.1 4 with
     |false=>rw[aa (λq=>by rw[hb,h4]at q;cases q.2)]
     |true =>
      cases h5:decide (c.2.2.1=[58]) with
      |false=>rw[aa (λq=>by rw[hb,h4,h5]at q;cases q.2)]
      |true=>rw[ag ⟨hs,by rw[hb,h4,h5];rfl⟩]
   rw[aa h1,aa (λq=>by rw[uu jw,aa h1]at q;cases q.1)]
 rw[hno];unfold x5;rw[cG,show dX l (1:Int)=at? l 1 by rw[getI_at?]];cases jw:at? l 1 with
 |none =>
  have:=jt (by omega) jw;rw[aa (by omega),aa (show ¬qM l 1=some L6 from λq=>by rw[xM jw]at q;cases q)]
 |some t =>
  have hlt:=(jh jw).2;have hlab:=Jq (n:=n) (l:=l) (s:=ry) (i:=0) (by omega) (k:=λt=>Ho n l 3 { ry with lab:=t,a:=2 } 0) (kF:=λs=>vF n l 3 { s with a:=2 }) λt _=>E6 (s:={ ry with lab:=t,a:=2 }) hl rfl rfl (show (0:Int)<=2 by decide)
  have hlab:Jp n l ry 0 0 0 0 (λt=>Ho n l 3 { ry with lab:=t,a:=2 } 0)=_:=hlab;rw[ag hlt,hlab];show ah (bI t.1 1) (ah (decide (t.2.2.1=L6)) _ _) _=_;rw[ck,um,uu jw];by_cases h1:t.1=1
  .rw[ag h1,ag h1];by_cases h2:t.2.2.1=L6
   .rw[ag h2,ag (show some t.2.2.1=some L6 by rw[h2])];rfl
   rw[aa h2,aa (show ¬some t.2.2.1=some L6 from λq=>h2 (bL q))]
  rw[aa h1,aa h1,aa (show ¬(none:Option (List UInt8))=some L6 by simp)]
theorem E7 (hl:l.length<=200000):aT X0 cL CM r 30 [.ptr 0 0] (jg 77 14 (G9 n l ry)) xZ=eV n l (pQ n l ry):=by
 rw[EB (p:=p3) (by kernel_rfl),akv];exact WV hl λa lab h0 h1=>aoq hl h0 h1
end
def isZ (s:RS):Bool:=decide (s.a=0)&&decide (s.lab=[])&&decide (s.aC=0)&&decide (s.sz=0)&&decide (s.op=0)&&decide (s.aL=0)&&s.ai.isEmpty&&decide (s.e=0)&&decide (s.f=0)
def FLn:FRd:=λn l s=>some (Nat.ble l.length 200000&&isZ s,pQ n l ry)
theorem afU:iB X0 gW 30 (cRd FLn) :=
 OJ rfl Qz acN λn l s b s' h1 h2 h3 hF=>by
  obtain⟨a,lab,aC,sz,op,aL,args,data,x,ai,e,f⟩:=s;have h1:args=[]:=h1;have h2:data=[]:=h2;have h3:x=[]:=h3;subst h1;subst h2;subst h3;unfold FLn isZ at hF;simp only[aq,ax,ak,aV,gQ]at hF;obtain⟨⟨g1,⟨⟨⟨⟨⟨⟨⟨⟨rfl,rfl⟩,rfl⟩,rfl⟩,rfl⟩,rfl⟩,rfl⟩,rfl⟩,rfl⟩⟩,hF⟩:=hF;refine⟨CM,5,(E7 (az g1)).trans ?_⟩;rw[hF];rfl
def NL:List rL:=(30,cRd FLn)::ND
theorem akx:js X0 gW NL:=.cons afU acN
def stL (s:RS):AV:=.agg [.str s.lab,.int .i64 s.aC,.int .i64 s.sz,.int .i64 s.op,.int .i64 s.aL,.dW nu s.args,.dW EX s.data,.dW fL s.x,.dW fL s.ai]
def rdL (r:RS×Int×Int):List AV:=[stL r.1,.agg [.int .i64 r.2.1,.int .i64 r.2.2]]
def sgS:List (List (Option Tv.Ty)):=[[none,none,none,none,none,some nu,some EX,some fL,some fL],[none,none]]
def rdT (s:List UInt8):rN :=
 ah (!bI (lt.j3 s).2.1 0) (some (rdL (ry,(lt.j3 s).2.1,(lt.j3 s).2.2)))
  (ah (((Nat.ble (lt.j3 s).1.length 200000&&true)&&true)&&true)
   (ah (!(pQ s.length (lt.j3 s).1 ry).1) (some (rdL (ry,(pQ s.length (lt.j3 s).1 ry).2.e,(pQ s.length (lt.j3 s).1 ry).2.f))) (some (rdL ((pQ s.length (lt.j3 s).1 ry).2,0,0)))) none)
theorem aaw (s:List UInt8):aT X0 (cN P3 NL _) ia 5 19 [.str s] aH.empty (xY sgS)=rdT s:=by kernel_rfl
theorem E8 (s:List UInt8):∀(m:Nat) (r:List UInt8),(lt.sD s m r).1.length<=m
 |0,_=>by simp[lt.sD]
 |m+1,[]=>by simp[lt.sD]
 |m+1,c::r=>by
  unfold lt.sD;split
  .have:=E8 s m r;omega
  split
  .simp
  split
  .have:=E8 s m (s.drop (lt.jO s c (s.length-(r.length+1))).2.1.toNat);simp only[aJ];omega
  simp
theorem WW (s:List UInt8):(lt.j3 s).1.length<=1000:=by
 unfold lt.j3;split
 .simp
 rename_i h;split
 .have:=E8 s s.length s;show (lt.sD s s.length s).1.length<=1000;omega
 simp
theorem afV (s:List UInt8):rdT s=some (rdL (iK s)):=by
 have hl:=WW s;unfold rdT iK;rw[ee (show (lt.j3 s).1.length<=200000 by omega),cX];by_cases h:(lt.j3 s).2.1=0
 .rw[ag h,aa (show ¬(lt.j3 s).2.1≠0 from λq=>q h)];show ah (!(pQ s.length (lt.j3 s).1 ry).1) _ _=_;cases (pQ s.length (lt.j3 s).1 ry).1<;>rfl
 rw[aa h,ag h]
def fRd (args:List AV):Option (Bool×List AV) :=
 match args with
 |[.str s]=>some (true,rdL (iK s))
 |_=>none
theorem WX:iB X0 gW 19 ⟨none,[none],gV fRd⟩ :=
 Qw rfl Qz akx sgS λvs ws hf=>by
  unfold fRd at hf;split at hf;case h_2=>cases hf
  rename_i s;simp only[aq,ax]at hf;obtain⟨_,rfl⟩:=hf;refine⟨rfl,ia,5,?_⟩;rw[aaw,afV]
end
end Go.Proofs.YtfggompceldfgaaGreatDoor.ps

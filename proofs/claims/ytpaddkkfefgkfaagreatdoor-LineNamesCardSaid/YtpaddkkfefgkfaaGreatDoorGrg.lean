/- Lines: reading one, as it runs. Lines: the contract of reading one. Lines: the contract of Read. -/
import Derived.Test.YtpaddkkfefgkfaaGreatDoorGrf
set_option linter.unusedVariables false
set_option linter.unusedSimpArgs false

namespace Go.Proofs.YtpaddkkfefgkfaaGreatDoor.ps
open Go.Tv Go.Ev Go.Px Go.Pp Go.Proofs.YtpaddkkfefgkfaaGreatDoor.ex
set_option maxRecDepth 100000
noncomputable section
def p3:List Bool:=[true,true,true]
def p4:List Bool:=[true,true,true,true]
def p8:List Bool:=[true,true,true,true,true,true,true,true]
def p9:List Bool:=[true,true,true,true,true,true,true,true,true]
def zi:bI:=⟨p6 (dP [0] p3) (p6 (dP [0,3] p4) (p6 (dP [0,3,4] p8) (dP [0,4] p9))),.none,[]⟩
def fr3:cB:=iB 143 [(0,.ptr 0 0)]
def fr4 (b:Bool):cB:=iB 143 [(0,.ptr 0 0),(3,.bool b)]
def fr8 (b:Bool) (w:List UInt8):cB:=iB 143 [(0,.ptr 0 0),(3,.bool b),(4,.str w)]
def fr9 (w:List UInt8):cB:=iB 143 [(0,.ptr 0 0),(4,.str w)]
abbrev cL:bf (List bP×List Nat):=cN P3 ND _
section
variable (n:Int) (l:List Tok)
def Gb (s:RS) (nd nx nt:Nat) (i:Int) (k:List UInt8->bz):bz :=
 pick2 (ltI i l.length) (tn l i λy=>pick2 (!eqI y.1 1) (hU n l s nd nx nt 4 i) (tn l i λy=>pick2 (lt.gu y.2.2.1) (hU n l s nd nx nt 7 i) (k y.2.2.1))) (hU n l s nd nx nt 4 i)
def zj (s:RS) (nd nx nt:Nat):bz:=pick2 (eqI s.a l.length) (BZ true n l s nd nx nt) (hU n l s nd nx nt 4 s.a)
def Es (kind:Int) (s:RS) (nt:Nat):bz:=exT n l { s with kind:=kind } 0 0 nt λx e=>zj n l { s with kind:=kind,x:=x,a:=e } 0 x.length nt
def st0 (a:Int) (lab:List UInt8) (times:List Nd):RS:=⟨a,lab,0,0,0,0,[],[],[],times,0,0⟩
def dtT (s:RS):bz:=pick2 (((Z9 l s.a&&(!ltI (eL l s.a).length 1&&Nat.ble (eL l s.a).length 1000000))&&true)&&true) (bM n l (wq n l s)) none
def dcT (s:RS):bz:=pick2 ((Z9 l s.a&&true)&&true) (bM n l (PE n l s)) none
def rsT (s:RS) (nt:Nat):bz:=tn l s.a λy=>pick2 (!ltI y.2.2.1.length 1&&Nat.ble y.2.2.1.length 1000000) (Es n l 8 { s with sz:=oo y.2.2.1,a:=IntKind.wrap .i64 (s.a+1) } nt) none
def alT (kind:Int) (s:RS) (nt:Nat):bz:=Es n l kind { s with a:=IntKind.wrap .i64 (s.a+1) } nt
def scT (s:RS) (nt:Nat):bz:=Gb n l { s with kind:=6 } 0 0 nt (IntKind.wrap .i64 (s.a+1)) λt=>zj n l { s with kind:=6,lab:=t,a:=IntKind.wrap .i64 (s.a+2) } 0 0 nt
def enT (s:RS) (nt:Nat):bz:=zj n l { s with kind:=7,a:=IntKind.wrap .i64 (s.a+1) } 0 0 nt
def ac6 (s:RS) (nt:Nat):bz:=pick2 (Nat.ble l.length 200000) (pick2 (!eqI (az l s.a).2.2.2.1 0) (hU n l s 0 0 nt (az l s.a).2.2.2.1 (az l s.a).2.2.2.2)
 (BZ true n l { s with kind:=1,op:=(az l s.a).1,hint:=(az l s.a).2.1,args:=(az l s.a).2.2.1 } 0 0 nt)) none
def wsT (w:List UInt8) (s:RS) (nt:Nat):bz :=
 [(
  [100,98],dtT n l s),([100,119],dtT n l s),([100,100],dtT n l s),([100,113],dtT n l s),([114,101,115,98],rsT n l s nt),([114,101,115,119],rsT n l s nt),([114,101,115,100],rsT n l s nt),([114,101,115,113],rsT n l s nt),
  (jr,alT n l 4 s nt),(wA,alT n l 5 s nt),(ee,scT n l s nt),(rV,enT n l s nt),(ahJ,dcT n l s)].foldr (λq r=>pick2 (decide (w=q.1)) q.2 r) (pick2 (nm.di w).2 (ac6 n l s nt) (hU n l s 0 0 nt 4 s.a))
end
def j9 (n:Int) (l:List Tok) (r:Nat) (w:List UInt8) (s:RS) (nt:Nat):bz:=codeFrom X0 cL zi r 65 p9 tj (fr9 w) (Eo n l s 0 0 nt)
theorem ahM (n:Int) (l:List Tok) (r:Nat) (w:List UInt8) (a:Int) (lab:List UInt8) (times:List Nd):j9 n l r w (st0 a lab times) times.length=wsT n l w (st0 a lab times) times.length:=by kernel_rfl
def F4 (n:Int) (l:List Tok) (s:RS) (nt:Nat):bz:=hU n l s 0 0 nt 4 s.a
def ac7 (n:Int) (l:List Tok) (w:List UInt8) (aZ:Bool) (s:RS) (nt:Nat) (K:bz):bz :=
 (λb1 al:bz=>pick2 (decide (w=wA)) (pick2 (decide (w=wA)) b1 al) (pick2 (decide (w=ee)) (pick2 (decide (w=ee)) b1 al) (pick2 (decide (w=rV)) b1 al)))
  (pick2 aZ (F4 n l s nt) (pick2 (!decide (s.lab=[])) (F4 n l s nt) K)) (pick2 (decide (w=jr)) (pick2 aZ (F4 n l s nt) K) K)
theorem ahN (n:Int) (l:List Tok) (r:Nat) (w:List UInt8) (aZ:Bool) (a:Int) (lab:List UInt8) (times:List Nd) (K:cB->aa->bz) :
 Ue X0 cL zi r 65 p8 [true] tj K (fr8 aZ w) (Eo n l (st0 a lab times) 0 0 times.length)=ac7 n l w aZ (st0 a lab times) times.length (K (fr9 w) (Eo n l (st0 a lab times) 0 0 times.length)):=by kernel_rfl
def tM (n:Int) (l:List Tok) (aZ:Bool) (s:RS) (nt:Nat) (K:List UInt8->bz):bz :=
 pick2 (eqI s.a l.length) (pick2 (!aZ) (BZ true n l s 0 0 nt) (F4 n l s nt))
  (pick2 (ltI s.a l.length) (tn l s.a λy=>pick2 (!eqI y.1 1) (F4 n l s nt) (tn l s.a λz=>K z.2.2.1)) (F4 n l s nt))
theorem ahO (n:Int) (l:List Tok) (r:Nat) (aZ:Bool) (a:Int) (lab:List UInt8) (K:cB->aa->bz) :
 Ue X0 cL zi r 65 p4 [true,true,true,true] tj K (fr4 aZ) (Eo n l (st0 a lab []) 0 0 0) =
  pick2 aZ (exT n l (st0 (IntKind.wrap .i64 (a+1)) lab []) 0 0 0 λx e=>tM n l aZ (st0 e lab x) x.length λw=>K (fr8 aZ w) (Eo n l (st0 e lab x) 0 0 x.length))
   (tM n l aZ (st0 a lab []) 0 λw=>K (fr8 aZ w) (Eo n l (st0 a lab []) 0 0 0)):=by kernel_rfl
theorem ahP (n:Int) (l:List Tok) (r:Nat) (a:Int) (lab:List UInt8) (K:cB->aa->bz) :
 Ue X0 cL zi r 65 p3 [true] tj K fr3 (Eo n l (st0 a lab []) 0 0 0) =
  (λgo:Bool->bz=>pick2 (ltI a l.length) (tn l a λy=>pick2 (eqI y.1 1) (tn l a λz=>go (decide (z.2.2.1=yd))) (go false)) (go false)) λb=>K (fr4 b) (Eo n l (st0 a lab []) 0 0 0):=by kernel_rfl
def nE (n:Int) (l:List Tok) (K:RS->bz):bz :=
 (λno:bz=>pick2 (ltI 1 l.length) (tn l 1 λy=>pick2 (eqI y.1 1) (tn l 1 λy=>pick2 (decide (y.2.2.1=qy)) (Gb n l eJ 0 0 0 0 λt=>Es n l 3 { eJ with lab:=t,a:=2 } 0) no) no) no)
  (pick2 (ltI 0 l.length) (tn l 0 λy=>pick2 (eqI y.1 1) (pick2 (ltI 1 l.length) (tn l 1 λy=>pick2 (eqI y.1 4) (tn l 1 λy=>pick2 (decide (y.2.2.1=[58])) (Gb n l eJ 0 0 0 0 λt=>K (st0 2 t [])) (K eJ)) (K eJ)) (K eJ)) (K eJ)) (K eJ))
theorem ahQ (n:Int) (l:List Tok) (r:Nat) (K:cB->aa->bz) :
 abZ X0 cL zi r 65 p3 [.ptr 0 0] (ek 126 14 (El n l eJ)) tj K=nE n l λs=>K fr3 (Eo n l s 0 0 0):=by kernel_rfl
end
end Go.Proofs.YtpaddkkfefgkfaaGreatDoor.ps

namespace Go.Proofs.YtpaddkkfefgkfaaGreatDoor.ps
open Go.Tv Go.Ev Go.Px Go.Pp Go.Proofs.YtpaddkkfefgkfaaGreatDoor.ex
set_option maxRecDepth 100000
noncomputable section
theorem PG {α:Type} {p:Prop} [Decidable p] (x y:α):pick2 (!decide p) x y=if p then y else x:=by
 by_cases h:p
 .
  rw[if_pos h,decide_eq_true h];rfl
 rw[if_neg h,decide_eq_false h];rfl
section
variable {n:Int} {l:List Tok}
theorem kZ {s:RS} {e i:Int} (h:0<=i):hU n l s s.data.length s.x.length s.times.length e i=bM n l (cQ n l s e i):=rU h
theorem pg {i:Int} {t:Tok} (cA:at? l i=some t):eV l i=if t.1=1 then some t.2.2.1 else none:=by unfold eV;rw[cA]
theorem sN {i:Int} (cA:at? l i=none):eV l i=none:=by unfold eV;rw[cA]
theorem NB {i:Int} {w:List UInt8} (h:eV l i=some w):0<=i/\i<l.length/\eL l i=w:=by
 unfold eV at h
 unfold eL
 cases cA:at? l i with
 |none=>rw[cA] at h;cases h
 |
  some t =>
  rw[cA] at h;simp only at h ⊢;split at h
  .
   cases h;exact ⟨(dL cA).1,(dL cA).2,rfl⟩
  cases h
theorem NF {α:Type} {i:Int} (h:0<=i) (no:α) (yes:List UInt8->α) {A:Tok->(Tok->α)->α} (d:α) :
 pick2 (ltI i l.length) ((aO l i).elim d λy=>pick2 (!eqI y.1 1) no ((aO l i).elim d λz=>yes z.2.2.1)) no=(match eV l i with|none=>no|some t=>yes t):=by
 rw[aI,getI_at?]
 cases cA:at? l i with
 |
  none =>
  have:=eA h cA;rw[if_neg (by omega),sN cA]
 |
  some t =>
  rw[if_pos (dL cA).2,pg cA];show pick2 (!eqI t.1 1) no (yes t.2.2.1)=_;rw[aN];by_cases h1:t.1=1
  .
   rw[if_pos h1,if_pos h1]
  rw[if_neg h1,if_neg h1]
theorem ahR {α:Type} (o:Option Tok) (d:α) (k:Tok->α):Option.rec (motive:=λ_=>α) d k o=o.elim d k:=by cases o<;>rfl
theorem Gc {s:RS} {i:Int} (h:0<=i) {k:List UInt8->bz} {kF:RS->LR} (hk:∀t,eV l i=some t->k t=bM n l (kF { s with lab:=t })):Gb n l s s.data.length s.x.length s.times.length i k=bM n l (tq n l i s kF):=by
 have h1:=NF (l:=l) h (hU n l s s.data.length s.x.length s.times.length 4 i) (λt=>pick2 (lt.gu t) (hU n l s s.data.length s.x.length s.times.length 7 i) (k t)) (A:=λ_ _=>none) (none:bz)
 have h2:Gb n l s s.data.length s.x.length s.times.length i k=pick2 (ltI i l.length) ((aO l i).elim none λy=>pick2 (!eqI y.1 1) (hU n l s s.data.length s.x.length s.times.length 4 i) ((aO l i).elim none λz=>pick2 (lt.gu z.2.2.1) (hU n l s s.data.length s.x.length s.times.length 7 i) (k z.2.2.1))) (hU n l s s.data.length s.x.length s.times.length 4 i):=by
  unfold Gb tn;cases aO l i<;>rfl
 rw[h2,h1,kZ h,kZ h]
 unfold tq
 cases hn:eV l i with
 |none=>rfl
 |
  some t =>
  simp only;rw[pick2_eq,hk t hn];split<;>rfl
theorem sO {s:RS} (h:0<=s.a):zj n l s s.data.length s.x.length s.times.length=bM n l (wB n l s):=by
 unfold zj wB
 rw[kZ h,av]
 split<;>rfl
theorem B6 (hl:l.length<=200000) {kind:Int} {s:RS} (hd:s.data=[]) (hx:s.x=[]) (h:0<=s.a):Es n l kind s s.times.length=bM n l (rW n l kind s):=by
 have h0:s.data.length=0:=by rw[hd];rfl
 have h1:s.x.length=0:=by rw[hx];rfl
 have:=F6 (n:=n) hl (s:={ s with kind:=kind }) (go:=λx e=>zj n l { s with kind:=kind,x:=x,a:=e } 0 x.length s.times.length) (goF:=λx e=>wB n l { s with kind:=kind,x:=x,a:=e }) λx e QI he2=>by
  have:=sO (n:=n) (l:=l) (s:={ s with kind:=kind,x:=x,a:=e }) (show 0<=e by have QI:s.a<e:=QI;omega)
  simp only[h0] at this;exact this
 simp only[h0,h1] at this
 exact this
theorem ac8 (hl:l.length<=200000) {s:RS} (h0:0<=s.a) (h1:s.a<l.length) (hw:1<=(eL l s.a).length) (hw2:(eL l s.a).length<=1000):dtT n l s=bM n l (wq n l s):=by
 unfold dtT Z9
 rw[cj hl,cn (show (0:Int)<=s.a by omega),jo h1,cn (show (1:Int)<=(eL l s.a).length by omega),cj (by omega)];rfl
theorem ada (hl:l.length<=200000) {s:RS} (h0:0<=s.a) (h1:s.a<l.length):dcT n l s=bM n l (PE n l s):=by
 unfold dcT Z9
 rw[cj hl,cn (show (0:Int)<=s.a by omega),jo h1];rfl
theorem adb (hl:l.length<=200000) {s:RS} (hd:s.data=[]) (hx:s.x=[]) (h0:0<=s.a) (h1:s.a<l.length) (hw:1<=(eL l s.a).length) (hw2:(eL l s.a).length<=1000):rsT n l s s.times.length=bM n l (IV n l s):=by
 obtain ⟨t,ht⟩:=oh h0 h1
 have e:eL l s.a=t.2.2.1:=by unfold eL;rw[ht]
 unfold rsT tn IV
 rw[getI_at?,ht]
 rw[e] at hw hw2 ⊢
 show pick2 (!ltI t.2.2.1.length 1&&Nat.ble t.2.2.1.length 1000000) _ none=_
 rw[cn (by omega),cj (by omega),i64_in (n:=s.a+1) (by omega) (by omega)]
 exact B6 (n:=n) hl (s:={ s with sz:=oo t.2.2.1,a:=s.a+1 }) hd hx (show 0<=s.a+1 by omega)
theorem Uh (hl:l.length<=200000) {kind:Int} {s:RS} (hd:s.data=[]) (hx:s.x=[]) (h0:0<=s.a) (h1:s.a<l.length):alT n l kind s s.times.length=bM n l (rW n l kind { s with a:=s.a+1 }):=by
 unfold alT
 rw[i64_in (n:=s.a+1) (by omega) (by omega)]
 exact B6 (n:=n) hl (s:={ s with a:=s.a+1 }) hd hx (show 0<=s.a+1 by omega)
theorem ade (hl:l.length<=200000) {s:RS} (hd:s.data=[]) (hx:s.x=[]) (h0:0<=s.a) (h1:s.a<l.length):scT n l s s.times.length=bM n l (F8 n l s):=by
 have g0:s.data.length=0:=by rw[hd];rfl
 have g1:s.x.length=0:=by rw[hx];rfl
 unfold scT F8
 rw[i64_in (n:=s.a+1) (by omega) (by omega),i64_in (n:=s.a+2) (by omega) (by omega)]
 have:=Gc (n:=n) (l:=l) (s:={ s with kind:=6 }) (i:=s.a+1) (by omega) (k:=λt=>zj n l { s with kind:=6,lab:=t,a:=s.a+2 } 0 0 s.times.length) (kF:=λs=>wB n l { s with a:=s.a+2 }) λt _=>by
  have:=sO (n:=n) (l:=l) (s:={ s with kind:=6,lab:=t,a:=s.a+2 }) (show 0<=s.a+2 by omega)
  simp only[g0,g1] at this;exact this
 simp only[g0,g1] at this
 exact this
theorem adf (hl:l.length<=200000) {s:RS} (hd:s.data=[]) (hx:s.x=[]) (h0:0<=s.a) (h1:s.a<l.length):enT n l s s.times.length=bM n l (T6 n l s):=by
 have g0:s.data.length=0:=by rw[hd];rfl
 have g1:s.x.length=0:=by rw[hx];rfl
 unfold enT T6
 rw[i64_in (n:=s.a+1) (by omega) (by omega)]
 have:=sO (n:=n) (l:=l) (s:={ s with kind:=7,a:=s.a+1 }) (show 0<=s.a+1 by omega)
 simp only[g0,g1] at this
 exact this
theorem X8 (hl:l.length<=200000) {s:RS} (hd:s.data=[]) (hx:s.x=[]):ac6 n l s s.times.length=bM n l (T7 n l s):=by
 have g0:s.data.length=0:=by rw[hd];rfl
 have g1:s.x.length=0:=by rw[hx];rfl
 have hf:=kZ (n:=n) (l:=l) (s:=s) (e:=(az l s.a).2.2.2.1) (Lz (a:=s.a) hl)
 rw[g0,g1] at hf
 unfold ac6 T7
 rw[cj hl,hf]
 show pick2 (!eqI (az l s.a).2.2.2.1 0) _ _=_
 rw[aN]
 by_cases he:(az l s.a).2.2.2.1=0
 .
  rw[if_pos he,if_neg (show ¬(az l s.a).2.2.2.1≠0 from λq=>q he)]
  show BZ true n l _ 0 0 s.times.length=BZ true n l _ s.data.length s.x.length s.times.length;rw[g0,g1]
 rw[if_neg he,if_pos he]
theorem adg (hl:l.length<=200000) {w:List UInt8} {s:RS} (hd:s.data=[]) (hx:s.x=[]) (hw:eV l s.a=some w):wsT n l w s s.times.length=bM n l (dU n l w s):=by
 obtain ⟨h0,h1,hw2⟩:=NB hw
 have hdt:∀w0:List UInt8,w=w0->1<=w0.length->w0.length<=1000->dtT n l s=bM n l (wq n l s):=λw0 e g1 g2=>ac8 hl h0 h1 (by rw[hw2,e];exact g1) (by rw[hw2,e];exact g2)
 have JZ:∀w0:List UInt8,w=w0->1<=w0.length->w0.length<=1000->rsT n l s s.times.length=bM n l (IV n l s):=λw0 e g1 g2=>adb hl hd hx h0 h1 (by rw[hw2,e];exact g1) (by rw[hw2,e];exact g2)
 have hmem:∀L:List (List UInt8),(∀v∈L,w≠v)->w ∉ L:=λL h hm=>h w hm rfl
 unfold wsT
 simp only[List.foldr_cons,List.foldr_nil,o7]
 by_cases e1:w=[100,98]
 .
  rw[if_pos e1,hdt _ e1 (by decide) (by decide)];unfold dU;rw[if_pos (by rw[e1];decide)]
 rw[if_neg e1]
 by_cases e2:w=[100,119]
 .
  rw[if_pos e2,hdt _ e2 (by decide) (by decide)];unfold dU;rw[if_pos (by rw[e2];decide)]
 rw[if_neg e2]
 by_cases e3:w=[100,100]
 .
  rw[if_pos e3,hdt _ e3 (by decide) (by decide)];unfold dU;rw[if_pos (by rw[e3];decide)]
 rw[if_neg e3]
 by_cases e4:w=[100,113]
 .
  rw[if_pos e4,hdt _ e4 (by decide) (by decide)];unfold dU;rw[if_pos (by rw[e4];decide)]
 rw[if_neg e4]
 have k1:w ∉ oq:=hmem _ λv hv=>by
  simp only[oq,List.mem_cons,List.not_mem_nil,or_false] at hv;rcases hv with rfl|rfl|rfl|rfl<;>assumption
 by_cases e5:w=[114,101,115,98]
 .
  rw[if_pos e5,JZ _ e5 (by decide) (by decide)];unfold dU;rw[if_neg k1,if_pos (by rw[e5];decide)]
 rw[if_neg e5]
 by_cases e6:w=[114,101,115,119]
 .
  rw[if_pos e6,JZ _ e6 (by decide) (by decide)];unfold dU;rw[if_neg k1,if_pos (by rw[e6];decide)]
 rw[if_neg e6]
 by_cases e7:w=[114,101,115,100]
 .
  rw[if_pos e7,JZ _ e7 (by decide) (by decide)];unfold dU;rw[if_neg k1,if_pos (by rw[e7];decide)]
 rw[if_neg e7]
 by_cases e8:w=[114,101,115,113]
 .
  rw[if_pos e8,JZ _ e8 (by decide) (by decide)];unfold dU;rw[if_neg k1,if_pos (by rw[e8];decide)]
 rw[if_neg e8]
 have k2:w ∉ ac0:=hmem _ λv hv=>by
  simp only[ac0,List.mem_cons,List.not_mem_nil,or_false] at hv;rcases hv with rfl|rfl|rfl|rfl<;>assumption
 unfold dU
 rw[if_neg k1,if_neg k2,Uh hl hd hx h0 h1,Uh hl hd hx h0 h1,ade hl hd hx h0 h1,adf hl hd hx h0 h1,ada hl h0 h1,X8 hl hd hx]
 have hf:=kZ (n:=n) (l:=l) (s:=s) (e:=4) h0
 rw[show s.data.length=0 by rw[hd];rfl,show s.x.length=0 by rw[hx];rfl] at hf
 rw[hf,pick2_eq]
 repeat' split
 all_goals rfl
theorem X9 {w:List UInt8} {aZ:Bool} {s:RS} {K:bz} (hd:s.data=[]) (hx:s.x=[]) (h0:0<=s.a) (hK:K=bM n l (dU n l w s)):ac7 n l w aZ s s.times.length K=bM n l (F9 n l w aZ s):=by
 have hf:=kZ (n:=n) (l:=l) (s:=s) (e:=4) h0
 rw[show s.data.length=0 by rw[hd];rfl,show s.x.length=0 by rw[hx];rfl] at hf
 subst hK
 unfold ac7 F4 F9
 simp only
 rw[hf]
 simp only[o7,PG]
 have b1:pick2 aZ (bM n l (cQ n l s 4 s.a)) (if s.lab=[] then bM n l (dU n l w s) else bM n l (cQ n l s 4 s.a))=bM n l (if aZ=true\/s.lab≠[] then cQ n l s 4 s.a else dU n l w s):=by
  cases aZ with
  |true=>rw[if_pos (show true=true\/s.lab≠[] from .inl rfl)]
  |
   false =>
   show (if s.lab=[] then _ else _)=_;by_cases h:s.lab=[]
   .
    rw[if_pos h,if_neg (show ¬(false=true\/s.lab≠[]) from λq=>by rcases q with q|q;cases q;exact q h)]
   rw[if_neg h,if_pos (show false=true\/s.lab≠[] from .inr h)]
 have b2:pick2 aZ (bM n l (cQ n l s 4 s.a)) (bM n l (dU n l w s))=bM n l (if aZ=true then cQ n l s 4 s.a else dU n l w s):=by
  cases aZ<;>rfl
 rw[b1,b2]
 by_cases e1:w=wA\/w=ee\/w=rV
 .
  have hB:(if w=wA then if w=wA then bM n l (if aZ=true\/s.lab≠[] then cQ n l s 4 s.a else dU n l w s) else if w=jr then bM n l (if aZ=true then cQ n l s 4 s.a else dU n l w s) else bM n l (dU n l w s)
   else if w=ee then if w=ee then bM n l (if aZ=true\/s.lab≠[] then cQ n l s 4 s.a else dU n l w s) else if w=jr then bM n l (if aZ=true then cQ n l s 4 s.a else dU n l w s) else bM n l (dU n l w s)
   else if w=rV then bM n l (if aZ=true\/s.lab≠[] then cQ n l s 4 s.a else dU n l w s) else if w=jr then bM n l (if aZ=true then cQ n l s 4 s.a else dU n l w s) else bM n l (dU n l w s))=bM n l (if aZ=true\/s.lab≠[] then cQ n l s 4 s.a else dU n l w s):=by
   by_cases a1:w=wA
   .
    rw[if_pos a1,if_pos a1]
   rw[if_neg a1];by_cases a2:w=ee
   .
    rw[if_pos a2,if_pos a2]
   rw[if_neg a2,if_pos (by rcases e1 with e|e|e;exact absurd e a1;exact absurd e a2;exact e)]
  rw[hB];have hna:w≠jr:=λe=>by rw[e] at e1;revert e1;decide
  by_cases ht:aZ=true\/s.lab≠[]
  .
   rw[if_pos ht,if_pos (show (w=wA\/w=ee\/w=rV)/\(aZ=true\/s.lab≠[]) from ⟨e1,ht⟩)]
  rw[if_neg ht,if_neg (show ¬((w=wA\/w=ee\/w=rV)/\(aZ=true\/s.lab≠[])) from λq=>ht q.2),if_neg (show ¬(w=jr/\aZ=true) from λq=>hna q.1)]
 simp only[not_or] at e1
 rw[if_neg e1.1,if_neg e1.2.1,if_neg e1.2.2,if_neg (show ¬((w=wA\/w=ee\/w=rV)/\(aZ=true\/s.lab≠[])) from λq=>by rcases q.1 with q|q|q;exact e1.1 q;exact e1.2.1 q;exact e1.2.2 q)]
 by_cases ha:w=jr
 .
  rw[if_pos ha];by_cases ht:aZ=true
  .
   rw[if_pos ht,if_pos (show w=jr/\aZ=true from ⟨ha,ht⟩)]
  rw[if_neg ht,if_neg (show ¬(w=jr/\aZ=true) from λq=>ht q.2)]
 rw[if_neg ha,if_neg (show ¬(w=jr/\aZ=true) from λq=>ha q.1)]
theorem Ui {aZ:Bool} {s:RS} {K:List UInt8->bz} (hd:s.data=[]) (hx:s.x=[]) (h0:0<=s.a) (hK:∀w,eV l s.a=some w->K w=bM n l (F9 n l w aZ s)):tM n l aZ s s.times.length K=bM n l (iH n l aZ s):=by
 have g0:s.data.length=0:=by rw[hd];rfl
 have g1:s.x.length=0:=by rw[hx];rfl
 have hf:=kZ (n:=n) (l:=l) (s:=s) (e:=4) h0
 rw[g0,g1] at hf
 have h1:=NF (l:=l) h0 (bM n l (cQ n l s 4 s.a)) K (A:=λ_ _=>none) (none:bz)
 have h2:tM n l aZ s s.times.length K=pick2 (eqI s.a l.length) (pick2 (!aZ) (BZ true n l s 0 0 s.times.length) (bM n l (cQ n l s 4 s.a))) (pick2 (ltI s.a l.length) ((aO l s.a).elim none λy=>pick2 (!eqI y.1 1) (bM n l (cQ n l s 4 s.a)) ((aO l s.a).elim none λz=>K z.2.2.1)) (bM n l (cQ n l s 4 s.a))):=by
  unfold tM F4 tn;rw[hf];cases aO l s.a<;>rfl
 rw[h2,h1,av]
 unfold iH
 by_cases ha:s.a=l.length
 .
  rw[if_pos ha,if_pos ha];cases aZ with
  |true=>rfl
  |
   false =>
   show BZ true n l s 0 0 s.times.length=BZ true n l s s.data.length s.x.length s.times.length;rw[g0,g1]
 rw[if_neg ha,if_neg ha]
 cases hn:eV l s.a with
 |none=>rfl
 |some w=>exact hK w hn
end
def kb (n:Int) (l:List Tok) (r:Nat) (p:List Bool) (f:cB) (H:aa):bz:=codeFrom X0 cL zi r 65 p tj f H
section
variable {n:Int} {l:List Tok} {r:Nat}
theorem alF (hl:l.length<=200000) {w:List UInt8} {a:Int} {lab:List UInt8} {times:List Nd} (hw:eV l a=some w):kb n l r p9 (fr9 w) (Eo n l (st0 a lab times) 0 0 times.length)=bM n l (dU n l w (st0 a lab times)) :=
 (ahM n l r w a lab times).trans (adg (s:=st0 a lab times) hl rfl rfl hw)
theorem alG (hl:l.length<=200000) {w:List UInt8} {aZ:Bool} {a:Int} {lab:List UInt8} {times:List Nd} (hw:eV l a=some w):kb n l r p8 (fr8 aZ w) (Eo n l (st0 a lab times) 0 0 times.length)=bM n l (F9 n l w aZ (st0 a lab times)):=by
 have h:=ye (X:=X0) (call:=cL) (an:=zi) (rounds:=r) (id:=65) (p:=p8) (q:=[]) (by kernel_rfl) tj (fr8 aZ w) (Eo n l (st0 a lab times) 0 0 times.length)
 exact h.trans ((ahN n l r w aZ a lab times _).trans (X9 (s:=st0 a lab times) rfl rfl (NB hw).1 (alF hl hw)))
theorem ahS (hl:l.length<=200000) {aZ:Bool} {a:Int} {lab:List UInt8} {times:List Nd} (h0:0<=a):tM n l aZ (st0 a lab times) times.length (λw=>kb n l r p8 (fr8 aZ w) (Eo n l (st0 a lab times) 0 0 times.length))=bM n l (iH n l aZ (st0 a lab times)) :=
 Ui (s:=st0 a lab times) rfl rfl h0 λw hw=>alG hl hw
theorem alH (hl:l.length<=200000) {aZ:Bool} {a:Int} {lab:List UInt8} (h0:0<=a) (h1:a<=l.length):kb n l r p4 (fr4 aZ) (Eo n l (st0 a lab []) 0 0 0)=bM n l (if aZ=true then JP n l (st0 (a+1) lab []) λx e=>iH n l true (st0 e lab x) else iH n l false (st0 a lab [])):=by
 have h:=ye (X:=X0) (call:=cL) (an:=zi) (rounds:=r) (id:=65) (p:=p4) (q:=[true,true,true]) (by kernel_rfl) tj (fr4 aZ) (Eo n l (st0 a lab []) 0 0 0)
 refine h.trans ((ahO n l r aZ a lab _).trans ?_)
 rw[i64_in (n:=a+1) (by omega) (by omega)]
 cases aZ with
 |
  true =>
  exact F6 (n:=n) hl (s:=st0 (a+1) lab []) (goF:=λx e=>iH n l true (st0 e lab x)) λx e QI he2=>ahS (aZ:=true) hl (by have QI:a+1<e:=QI;omega)
 |false=>exact ahS (aZ:=false) hl h0
theorem alI (hl:l.length<=200000) {a:Int} {lab:List UInt8} (h0:0<=a) (h1:a<=l.length):kb n l r p3 fr3 (Eo n l (st0 a lab []) 0 0 0)=bM n l (gz n l (st0 a lab [])):=by
 have h:=ye (X:=X0) (call:=cL) (an:=zi) (rounds:=r) (id:=65) (p:=p3) (q:=[]) (by kernel_rfl) tj fr3 (Eo n l (st0 a lab []) 0 0 0)
 refine h.trans ((ahP n l r a lab _).trans ?_)
 have go:∀b:Bool,codeFrom X0 cL zi r 65 (p3++[true]) tj (fr4 b) (Eo n l (st0 a lab []) 0 0 0)=bM n l (if b=true then JP n l (st0 (a+1) lab []) λx e=>iH n l true (st0 e lab x) else iH n l false (st0 a lab [])):=λb=>alH hl h0 h1
 simp only[go]
 unfold gz
 show _=bM n l (if eV l a=some yd then JP n l (st0 (a+1) lab []) λx e=>iH n l true (st0 e lab x) else iH n l false (st0 a lab []))
 unfold tn
 rw[aI,getI_at?]
 cases cA:at? l a with
 |
  none =>
  have:=eA h0 cA;rw[if_neg (by omega),sN cA];rfl
 |
  some t =>
  rw[if_pos (dL cA).2,pg cA];show pick2 (eqI t.1 1) (bM n l (if decide (t.2.2.1=yd)=true then _ else _)) _=_;rw[av];by_cases h1:t.1=1
  .
   rw[if_pos h1,if_pos h1];by_cases h2:t.2.2.1=yd
   .
    rw[if_pos (decide_eq_true h2),if_pos (by rw[h2])]
   rw[if_neg (by simpa using h2),if_neg (λq=>h2 (Option.some.inj q))]
  rw[if_neg h1,if_neg h1,if_neg (by simp)];rfl
theorem Uj (hl:l.length<=200000) {K:RS->bz} (hK:∀a lab,0<=a->a<=(l.length:Int)->K (st0 a lab [])=bM n l (gz n l (st0 a lab []))):nE n l K=bM n l (cZ n l eJ):=by
 have hz:K eJ=bM n l (gz n l eJ):=hK 0 [] (by omega) (by omega)
 unfold nE cZ
 simp only
 have hno:(pick2 (ltI 0 l.length) (tn l 0 λy=>pick2 (eqI y.1 1) (pick2 (ltI 1 l.length) (tn l 1 λy=>pick2 (eqI y.1 4) (tn l 1 λy=>pick2 (decide (y.2.2.1=[58])) (Gb n l eJ 0 0 0 0 λt=>K (st0 2 t [])) (K eJ)) (K eJ)) (K eJ)) (K eJ)) (K eJ)) =
  bM n l (if (eV l 0).isSome=true/\aT l 1 [58]=true then tq n l 0 eJ λs=>gz n l { s with a:=2 } else gz n l eJ):=by
  rw[hz];unfold tn;rw[aI,show aO l (0:Int)=at? l 0 by rw[getI_at?]]
  cases cA:at? l 0 with
  |
   none =>
   have:=eA (by omega) cA
   rw[if_neg (by omega),if_neg (λq=>by rw[sN cA] at q;cases q.1)]
  |
   some t =>
   rw[if_pos (dL cA).2];show pick2 (eqI t.1 1) _ _=_;rw[av];by_cases h1:t.1=1
   .
    rw[if_pos h1,aI,show aO l (1:Int)=at? l 1 by rw[getI_at?]]
    have hs:(eV l 0).isSome=true:=by rw[pg cA,if_pos h1];rfl
    cases qt:at? l 1 with
    |
     none =>
     have:=eA (by omega) qt
     have hb:aT l 1 [58]=false:=by unfold aT;rw[qt]
     rw[if_neg (by omega),if_neg (λq=>by rw[hb] at q;cases q.2)]
    |
     some c =>
     have hlt:=(dL qt).2;have hb:aT l 1 [58]=(eqI c.1 4&&decide (c.2.2.1=[58])):=by unfold aT;rw[qt];exact FU c [58]
     have hlab:=Gc (n:=n) (l:=l) (s:=eJ) (i:=0) (by omega) (k:=λt=>K (st0 2 t [])) (kF:=λs=>gz n l { s with a:=2 }) λt _=>hK 2 t (by omega) (by omega)
     have hlab:Gb n l eJ 0 0 0 0 (λt=>K (st0 2 t []))=_:=hlab
     rw[if_pos hlt,hlab];show pick2 (eqI c.1 4) (pick2 (decide (c.2.2.1=[58])) _ _) _=_;cases h4:eqI c.1 4 with
     |false=>rw[if_neg (λq=>by rw[hb,h4] at q;cases q.2)]
     |
      true =>
      cases h5:decide (c.2.2.1=[58]) with
      |false=>rw[if_neg (λq=>by rw[hb,h4,h5] at q;cases q.2)]
      |true=>rw[if_pos ⟨hs,by rw[hb,h4,h5];rfl⟩]
   rw[if_neg h1,if_neg (λq=>by rw[pg cA,if_neg h1] at q;cases q.1)]
 rw[hno]
 unfold tn
 rw[aI,show aO l (1:Int)=at? l 1 by rw[getI_at?]]
 cases cA:at? l 1 with
 |
  none =>
  have:=eA (by omega) cA
  rw[if_neg (by omega),if_neg (show ¬eV l 1=some qy from λq=>by rw[sN cA] at q;cases q)]
 |
  some t =>
  have hlt:=(dL cA).2;have hlab:=Gc (n:=n) (l:=l) (s:=eJ) (i:=0) (by omega) (k:=λt=>Es n l 3 { eJ with lab:=t,a:=2 } 0) (kF:=λs=>rW n l 3 { s with a:=2 }) λt _=>B6 (s:={ eJ with lab:=t,a:=2 }) hl rfl rfl (show (0:Int)<=2 by decide)
  have hlab:Gb n l eJ 0 0 0 0 (λt=>Es n l 3 { eJ with lab:=t,a:=2 } 0)=_:=hlab
  rw[if_pos hlt,hlab];show pick2 (eqI t.1 1) (pick2 (decide (t.2.2.1=qy)) _ _) _=_;rw[av,o7,pg cA];by_cases h1:t.1=1
  .
   rw[if_pos h1,if_pos h1];by_cases h2:t.2.2.1=qy
   .
    rw[if_pos h2,if_pos (show some t.2.2.1=some qy by rw[h2])];rfl
   rw[if_neg h2,if_neg (show ¬some t.2.2.1=some qy from λq=>h2 (Option.some.inj q))]
  rw[if_neg h1,if_neg h1,if_neg (show ¬(none:Option (List UInt8))=some qy by simp)]
theorem ahT (hl:l.length<=200000):ag X0 cL zi r 65 [.ptr 0 0] (ek 126 14 (El n l eJ)) tj=bM n l (cZ n l eJ):=by
 rw[K5 (p:=p3) (by kernel_rfl),ahQ]
 exact Uj hl λa lab h0 h1=>alI hl h0 h1
end
def isZ (s:RS):Bool:=decide (s.a=0)&&decide (s.lab=[])&&decide (s.kind=0)&&decide (s.sz=0)&&decide (s.op=0)&&decide (s.hint=0)&&s.times.isEmpty&&decide (s.e=0)&&decide (s.f=0)
def FLn:FRd:=λn l s=>some (Nat.ble l.length 200000&&isZ s,cZ n l eJ)
theorem adh:cu X0 cq 65 (cRd FLn) :=
 Lu rfl B3 aaa λn l s b s' h1 h2 h3 hF=>by
  obtain ⟨a,lab,kind,sz,op,hint,args,data,x,times,e,f⟩:=s;have h1:args=[]:=h1;have h2:data=[]:=h2;have h3:x=[]:=h3;subst h1;subst h2;subst h3;unfold FLn isZ at hF;simp only[Option.some.injEq,Prod.mk.injEq,Bool.and_eq_true,decide_eq_true_eq,List.isEmpty_iff] at hF;obtain ⟨⟨g1,⟨⟨⟨⟨⟨⟨⟨⟨rfl,rfl⟩,rfl⟩,rfl⟩,rfl⟩,rfl⟩,rfl⟩,rfl⟩,rfl⟩⟩,hF⟩:=hF;refine ⟨zi,5,(ahT (Nat.le_of_ble_eq_true g1)).trans ?_⟩;rw[hF];rfl
def NL:List kB:=(65,cRd FLn)::ND
theorem aad:cR X0 cq NL:=.cons adh aaa
end
end Go.Proofs.YtpaddkkfefgkfaaGreatDoor.ps

namespace Go.Proofs.YtpaddkkfefgkfaaGreatDoor.ps
open Go.Tv Go.Ev Go.Px Go.Pp Go.Proofs.YtpaddkkfefgkfaaGreatDoor.ex
set_option maxRecDepth 100000
noncomputable section
def stL (s:RS):AV:=.agg [.str s.lab,.int .i64 s.kind,.int .i64 s.sz,.int .i64 s.op,.int .i64 s.hint,.bF mg s.args,.bF C4 s.data,.bF cz s.x,.bF cz s.times]
def rdL (r:RS×Int×Int):List AV:=[stL r.1,.agg [.int .i64 r.2.1,.int .i64 r.2.2]]
def sgS:List (List (Option Tv.Ty)):=[[none,none,none,none,none,some mg,some C4,some cz,some cz],[none,none]]
def rdT (s:List UInt8):mS :=
 pick2 (!eqI (lt.aG s).2.1 0) (some (rdL (eJ,(lt.aG s).2.1,(lt.aG s).2.2)))
  (pick2 (((Nat.ble (lt.aG s).1.length 200000&&true)&&true)&&true)
   (pick2 (!(cZ s.length (lt.aG s).1 eJ).1) (some (rdL (eJ,(cZ s.length (lt.aG s).1 eJ).2.e,(cZ s.length (lt.aG s).1 eJ).2.f))) (some (rdL ((cZ s.length (lt.aG s).1 eJ).2,0,0)))) none)
theorem Ya (s:List UInt8):ag X0 (cN P3 NL _) bW 5 29 [.str s] aa.empty (mB sgS)=rdT s:=by kernel_rfl
theorem B7 (s:List UInt8):∀(m:Nat) (r:List UInt8),(lt.bh s m r).1.length<=m
 |0,_=>by simp[lt.bh]
 |m+1,[]=>by simp[lt.bh]
 |
  m+1,c::r=>by
  unfold lt.bh;split
  .
   have:=B7 s m r;omega
  split
  .
   simp
  split
  .
   have:=B7 s m (s.drop (lt.bw s c (s.length-(r.length+1))).2.1.toNat);simp only[List.length_cons];omega
  simp
theorem wC (s:List UInt8):(lt.aG s).1.length<=1000:=by
 unfold lt.aG
 split
 .
  simp
 rename_i h
 split
 .
  have:=B7 s s.length s;show (lt.bh s s.length s).1.length<=1000;omega
 simp
theorem adi (s:List UInt8):rdT s=some (rdL (cH s)):=by
 have hl:=wC s
 unfold rdT cH
 rw[cj (show (lt.aG s).1.length<=200000 by omega),aN]
 by_cases h:(lt.aG s).2.1=0
 .
  rw[if_pos h,if_neg (show ¬(lt.aG s).2.1≠0 from λq=>q h)]
  show pick2 (!(cZ s.length (lt.aG s).1 eJ).1) _ _=_;cases (cZ s.length (lt.aG s).1 eJ).1<;>rfl
 rw[if_neg h,if_pos h]
def fRd (args:List AV):Option (Bool×List AV) :=
 match args with
 |[.str s]=>some (true,rdL (cH s))
 |_=>none
theorem Uk:cu X0 cq 29 ⟨none,[none],gV fRd⟩ :=
 Ei rfl B3 aad sgS λvs ws hf=>by
  unfold fRd at hf;split at hf
  case h_2=>cases hf
  rename_i s;simp only[Option.some.injEq,Prod.mk.injEq] at hf;obtain ⟨_,rfl⟩:=hf;refine ⟨rfl,bW,5,?_⟩;rw[Ya,adi]
def NR:List kB:=(29,⟨none,[none],gV fRd⟩)::NL
theorem aae:cR X0 cq NR:=.cons Uk aad
end
end Go.Proofs.YtpaddkkfefgkfaaGreatDoor.ps

/- Lines: reading one, as it runs. Lines: the contract of reading one. Lines: the contract of Read. -/
import Derived.Test.YtpaddkkfefgkfaaGreatDoorGrf
set_option linter.unusedVariables false
set_option linter.unusedSimpArgs false

namespace Go.Proofs.YtpaddkkfefgkfaaGreatDoor.ps
open Go.Tv Go.Ev Go.Px Go.Pp Go.Proofs.YtpaddkkfefgkfaaGreatDoor.ex
set_option maxRecDepth 100000
noncomputable section
def p3:List Bool:=[true,true,true]
def p4:List Bool:=[true,true,true,true]
def p8:List Bool:=[true,true,true,true,true,true,true,true]
def p9:List Bool:=[true,true,true,true,true,true,true,true,true]
def rH:bG:=⟨oR (dG [0] p3) (oR (dG [0,3] p4) (oR (dG [0,3,4] p8) (dG [0,4] p9))),.none,[]⟩
def fr3:cj:=hU 143 [(0,.ptr 0 0)]
def fr4 (b:Bool):cj:=hU 143 [(0,.ptr 0 0),(3,.bool b)]
def fr8 (b:Bool) (w:List UInt8):cj:=hU 143 [(0,.ptr 0 0),(3,.bool b),(4,.str w)]
def fr9 (w:List UInt8):cj:=hU 143 [(0,.ptr 0 0),(4,.str w)]
abbrev cL:aT (List bu×List Nat):=cN P3 ND _
section
variable (n:Int) (l:List Tok)
def D7 (s:RS) (nd nx nt:Nat) (i:Int) (k:List UInt8->aH):aH :=
 pick2 (ltI i l.length) (rG l i λy=>pick2 (!eqI y.1 1) (gq n l s nd nx nt 4 i) (rG l i λy=>pick2 (lt.oO y.2.2.1) (gq n l s nd nx nt 7 i) (k y.2.2.1))) (gq n l s nd nx nt 4 i)
def Jo (s:RS) (nd nx nt:Nat):aH:=pick2 (eqI s.a l.length) (Ae true n l s nd nx nt) (gq n l s nd nx nt 4 s.a)
def CE (kind:Int) (s:RS) (nt:Nat):aH:=Zq n l { s with kind:=kind } 0 0 nt λx e=>Jo n l { s with kind:=kind,x:=x,a:=e } 0 x.length nt
def st0 (a:Int) (lab:List UInt8) (times:List Nd):RS:=⟨a,lab,0,0,0,0,[],[],[],times,0,0⟩
def Zz (s:RS):aH:=pick2 (((WB l s.a&&(!ltI (gu l s.a).length 1&&Nat.ble (gu l s.a).length 1000000))&&true)&&true) (bD n l (Ah n l s)) none
def dcT (s:RS):aH:=pick2 ((WB l s.a&&true)&&true) (bD n l (ML n l s)) none
def ZA (s:RS) (nt:Nat):aH:=rG l s.a λy=>pick2 (!ltI y.2.2.1.length 1&&Nat.ble y.2.2.1.length 1000000) (CE n l 8 { s with sz:=uD y.2.2.1,a:=IntKind.wrap .i64 (s.a+1) } nt) none
def alT (kind:Int) (s:RS) (nt:Nat):aH:=CE n l kind { s with a:=IntKind.wrap .i64 (s.a+1) } nt
def scT (s:RS) (nt:Nat):aH:=D7 n l { s with kind:=6 } 0 0 nt (IntKind.wrap .i64 (s.a+1)) λt=>Jo n l { s with kind:=6,lab:=t,a:=IntKind.wrap .i64 (s.a+2) } 0 0 nt
def enT (s:RS) (nt:Nat):aH:=Jo n l { s with kind:=7,a:=IntKind.wrap .i64 (s.a+1) } 0 0 nt
def ZB (s:RS) (nt:Nat):aH:=pick2 (Nat.ble l.length 200000) (pick2 (!eqI (bE l s.a).2.2.2.1 0) (gq n l s 0 0 nt (bE l s.a).2.2.2.1 (bE l s.a).2.2.2.2)
 (Ae true n l { s with kind:=1,op:=(bE l s.a).1,hint:=(bE l s.a).2.1,args:=(bE l s.a).2.2.1 } 0 0 nt)) none
def wsT (w:List UInt8) (s:RS) (nt:Nat):aH :=
 [(
  [100,98],Zz n l s),([100,119],Zz n l s),([100,100],Zz n l s),([100,113],Zz n l s),([114,101,115,98],ZA n l s nt),([114,101,115,119],ZA n l s nt),([114,101,115,100],ZA n l s nt),([114,101,115,113],ZA n l s nt),
  (iM,alT n l 4 s nt),(uF,alT n l 5 s nt),(gw,scT n l s nt),(qB,enT n l s nt),(Jl,dcT n l s)].foldr (λq r=>pick2 (decide (w=q.1)) q.2 r) (pick2 (nm.eH w).2 (ZB n l s nt) (gq n l s 0 0 nt 4 s.a))
end
def j9 (n:Int) (l:List Tok) (r:Nat) (w:List UInt8) (s:RS) (nt:Nat):aH:=codeFrom X0 cL rH r 65 p9 rF (fr9 w) (CC n l s 0 0 nt)
theorem aei (n:Int) (l:List Tok) (r:Nat) (w:List UInt8) (a:Int) (lab:List UInt8) (times:List Nd):j9 n l r w (st0 a lab times) times.length=wsT n l w (st0 a lab times) times.length:=by kernel_rfl
def F4 (n:Int) (l:List Tok) (s:RS) (nt:Nat):aH:=gq n l s 0 0 nt 4 s.a
def ZC (n:Int) (l:List Tok) (w:List UInt8) (aP:Bool) (s:RS) (nt:Nat) (K:aH):aH :=
 (λb1 al:aH=>pick2 (decide (w=uF)) (pick2 (decide (w=uF)) b1 al) (pick2 (decide (w=gw)) (pick2 (decide (w=gw)) b1 al) (pick2 (decide (w=qB)) b1 al)))
  (pick2 aP (F4 n l s nt) (pick2 (!decide (s.lab=[])) (F4 n l s nt) K)) (pick2 (decide (w=iM)) (pick2 aP (F4 n l s nt) K) K)
theorem aej (n:Int) (l:List Tok) (r:Nat) (w:List UInt8) (aP:Bool) (a:Int) (lab:List UInt8) (times:List Nd) (K:cj->aa->aH) :
 Rh X0 cL rH r 65 p8 [true] rF K (fr8 aP w) (CC n l (st0 a lab times) 0 0 times.length)=ZC n l w aP (st0 a lab times) times.length (K (fr9 w) (CC n l (st0 a lab times) 0 0 times.length)):=by kernel_rfl
def rV (n:Int) (l:List Tok) (aP:Bool) (s:RS) (nt:Nat) (K:List UInt8->aH):aH :=
 pick2 (eqI s.a l.length) (pick2 (!aP) (Ae true n l s 0 0 nt) (F4 n l s nt))
  (pick2 (ltI s.a l.length) (rG l s.a λy=>pick2 (!eqI y.1 1) (F4 n l s nt) (rG l s.a λz=>K z.2.2.1)) (F4 n l s nt))
theorem aek (n:Int) (l:List Tok) (r:Nat) (aP:Bool) (a:Int) (lab:List UInt8) (K:cj->aa->aH) :
 Rh X0 cL rH r 65 p4 [true,true,true,true] rF K (fr4 aP) (CC n l (st0 a lab []) 0 0 0) =
  pick2 aP (Zq n l (st0 (IntKind.wrap .i64 (a+1)) lab []) 0 0 0 λx e=>rV n l aP (st0 e lab x) x.length λw=>K (fr8 aP w) (CC n l (st0 e lab x) 0 0 x.length))
   (rV n l aP (st0 a lab []) 0 λw=>K (fr8 aP w) (CC n l (st0 a lab []) 0 0 0)):=by kernel_rfl
theorem ael (n:Int) (l:List Tok) (r:Nat) (a:Int) (lab:List UInt8) (K:cj->aa->aH) :
 Rh X0 cL rH r 65 p3 [true] rF K fr3 (CC n l (st0 a lab []) 0 0 0) =
  (λgo:Bool->aH=>pick2 (ltI a l.length) (rG l a λy=>pick2 (eqI y.1 1) (rG l a λz=>go (decide (z.2.2.1=mG))) (go false)) (go false)) λb=>K (fr4 b) (CC n l (st0 a lab []) 0 0 0):=by kernel_rfl
def l9 (n:Int) (l:List Tok) (K:RS->aH):aH :=
 (λno:aH=>pick2 (ltI 1 l.length) (rG l 1 λy=>pick2 (eqI y.1 1) (rG l 1 λy=>pick2 (decide (y.2.2.1=v9)) (D7 n l iF 0 0 0 0 λt=>CE n l 3 { iF with lab:=t,a:=2 } 0) no) no) no)
  (pick2 (ltI 0 l.length) (rG l 0 λy=>pick2 (eqI y.1 1) (pick2 (ltI 1 l.length) (rG l 1 λy=>pick2 (eqI y.1 4) (rG l 1 λy=>pick2 (decide (y.2.2.1=[58])) (D7 n l iF 0 0 0 0 λt=>K (st0 2 t [])) (K iF)) (K iF)) (K iF)) (K iF)) (K iF))
theorem aem (n:Int) (l:List Tok) (r:Nat) (K:cj->aa->aH) :
 YA X0 cL rH r 65 p3 [.ptr 0 0] (ct 126 14 (Cz n l iF)) rF K=l9 n l λs=>K fr3 (CC n l s 0 0 0):=by kernel_rfl
end
end Go.Proofs.YtpaddkkfefgkfaaGreatDoor.ps

namespace Go.Proofs.YtpaddkkfefgkfaaGreatDoor.ps
open Go.Tv Go.Ev Go.Px Go.Pp Go.Proofs.YtpaddkkfefgkfaaGreatDoor.ex
set_option maxRecDepth 100000
noncomputable section
theorem MM {α:Type} {p:Prop} [Decidable p] (x y:α):pick2 (!decide p) x y=if p then y else x:=by
 by_cases h:p
 .
  rw[if_pos h,decide_eq_true h];rfl
 rw[if_neg h,decide_eq_false h];rfl
section
variable {n:Int} {l:List Tok}
theorem jW {s:RS} {e i:Int} (h:0<=i):gq n l s s.data.length s.x.length s.times.length e i=bD n l (cz n l s e i):=qA h
theorem ou {i:Int} {t:Tok} (cH:at? l i=some t):lH l i=if t.1=1 then some t.2.2.1 else none:=by unfold lH;rw[cH]
theorem rf {i:Int} (cH:at? l i=none):lH l i=none:=by unfold lH;rw[cH]
theorem KX {i:Int} {w:List UInt8} (h:lH l i=some w):0<=i/\i<l.length/\gu l i=w:=by
 unfold lH at h
 unfold gu
 cases cH:at? l i with
 |none=>rw[cH] at h;cases h
 |
  some t =>
  rw[cH] at h;simp only at h ⊢;split at h
  .
   cases h;exact ⟨(dm cH).1,(dm cH).2,rfl⟩
  cases h
theorem KY {α:Type} {i:Int} (h:0<=i) (no:α) (yes:List UInt8->α) {A:Tok->(Tok->α)->α} (d:α) :
 pick2 (ltI i l.length) ((aI l i).elim d λy=>pick2 (!eqI y.1 1) no ((aI l i).elim d λz=>yes z.2.2.1)) no=(match lH l i with|none=>no|some t=>yes t):=by
 rw[aW,getI_at?]
 cases cH:at? l i with
 |
  none =>
  have:=dA h cH;rw[if_neg (by omega),rf cH]
 |
  some t =>
  rw[if_pos (dm cH).2,ou cH];show pick2 (!eqI t.1 1) no (yes t.2.2.1)=_;rw[aG];by_cases h1:t.1=1
  .
   rw[if_pos h1,if_pos h1]
  rw[if_neg h1,if_neg h1]
theorem D8 {s:RS} {i:Int} (h:0<=i) {k:List UInt8->aH} {kF:RS->LR} (hk:∀t,lH l i=some t->k t=bD n l (kF { s with lab:=t })):D7 n l s s.data.length s.x.length s.times.length i k=bD n l (Bd n l i s kF):=by
 have h1:=KY (l:=l) h (gq n l s s.data.length s.x.length s.times.length 4 i) (λt=>pick2 (lt.oO t) (gq n l s s.data.length s.x.length s.times.length 7 i) (k t)) (A:=λ_ _=>none) (none:aH)
 have h2:D7 n l s s.data.length s.x.length s.times.length i k=pick2 (ltI i l.length) ((aI l i).elim none λy=>pick2 (!eqI y.1 1) (gq n l s s.data.length s.x.length s.times.length 4 i) ((aI l i).elim none λz=>pick2 (lt.oO z.2.2.1) (gq n l s s.data.length s.x.length s.times.length 7 i) (k z.2.2.1))) (gq n l s s.data.length s.x.length s.times.length 4 i):=by
  unfold D7 rG;cases aI l i<;>rfl
 rw[h2,h1,jW h,jW h]
 unfold Bd
 cases hn:lH l i with
 |none=>rfl
 |
  some t =>
  simp only;rw[pick2_eq,hk t hn];split<;>rfl
theorem D9 {s:RS} (h:0<=s.a):Jo n l s s.data.length s.x.length s.times.length=bD n l (Ai n l s):=by
 unfold Jo Ai
 rw[jW h,aB]
 split<;>rfl
theorem Aj (hl:l.length<=200000) {kind:Int} {s:RS} (hd:s.data=[]) (hx:s.x=[]) (h:0<=s.a):CE n l kind s s.times.length=bD n l (uG n l kind s):=by
 have h0:s.data.length=0:=by rw[hd];rfl
 have h1:s.x.length=0:=by rw[hx];rfl
 have:=D6 (n:=n) hl (s:={ s with kind:=kind }) (go:=λx e=>Jo n l { s with kind:=kind,x:=x,a:=e } 0 x.length s.times.length) (goF:=λx e=>Ai n l { s with kind:=kind,x:=x,a:=e }) λx e NY he2=>by
  have:=D9 (n:=n) (l:=l) (s:={ s with kind:=kind,x:=x,a:=e }) (show 0<=e by have NY:s.a<e:=NY;omega)
  simp only[h0] at this;exact this
 simp only[h0,h1] at this
 exact this
theorem ZD (hl:l.length<=200000) {s:RS} (h0:0<=s.a) (h1:s.a<l.length) (hw:1<=(gu l s.a).length) (UO:(gu l s.a).length<=1000):Zz n l s=bD n l (Ah n l s):=by
 unfold Zz WB
 rw[bO hl,cF (show (0:Int)<=s.a by omega),kW h1,cF (show (1:Int)<=(gu l s.a).length by omega),bO (by omega)];rfl
theorem ZE (hl:l.length<=200000) {s:RS} (h0:0<=s.a) (h1:s.a<l.length):dcT n l s=bD n l (ML n l s):=by
 unfold dcT WB
 rw[bO hl,cF (show (0:Int)<=s.a by omega),kW h1];rfl
theorem ZF (hl:l.length<=200000) {s:RS} (hd:s.data=[]) (hx:s.x=[]) (h0:0<=s.a) (h1:s.a<l.length) (hw:1<=(gu l s.a).length) (UO:(gu l s.a).length<=1000):ZA n l s s.times.length=bD n l (KV n l s):=by
 obtain ⟨t,ht⟩:=nj h0 h1
 have e:gu l s.a=t.2.2.1:=by unfold gu;rw[ht]
 unfold ZA rG KV
 rw[getI_at?,ht]
 rw[e] at hw UO ⊢
 show pick2 (!ltI t.2.2.1.length 1&&Nat.ble t.2.2.1.length 1000000) _ none=_
 rw[cF (by omega),bO (by omega),i64_in (n:=s.a+1) (by omega) (by omega)]
 exact Aj (n:=n) hl (s:={ s with sz:=uD t.2.2.1,a:=s.a+1 }) hd hx (show 0<=s.a+1 by omega)
theorem Rk (hl:l.length<=200000) {kind:Int} {s:RS} (hd:s.data=[]) (hx:s.x=[]) (h0:0<=s.a) (h1:s.a<l.length):alT n l kind s s.times.length=bD n l (uG n l kind { s with a:=s.a+1 }):=by
 unfold alT
 rw[i64_in (n:=s.a+1) (by omega) (by omega)]
 exact Aj (n:=n) hl (s:={ s with a:=s.a+1 }) hd hx (show 0<=s.a+1 by omega)
theorem ZG (hl:l.length<=200000) {s:RS} (hd:s.data=[]) (hx:s.x=[]) (h0:0<=s.a) (h1:s.a<l.length):scT n l s s.times.length=bD n l (Jm n l s):=by
 have g0:s.data.length=0:=by rw[hd];rfl
 have g1:s.x.length=0:=by rw[hx];rfl
 unfold scT Jm
 rw[i64_in (n:=s.a+1) (by omega) (by omega),i64_in (n:=s.a+2) (by omega) (by omega)]
 have:=D8 (n:=n) (l:=l) (s:={ s with kind:=6 }) (i:=s.a+1) (by omega) (k:=λt=>Jo n l { s with kind:=6,lab:=t,a:=s.a+2 } 0 0 s.times.length) (kF:=λs=>Ai n l { s with a:=s.a+2 }) λt _=>by
  have:=D9 (n:=n) (l:=l) (s:={ s with kind:=6,lab:=t,a:=s.a+2 }) (show 0<=s.a+2 by omega)
  simp only[g0,g1] at this;exact this
 simp only[g0,g1] at this
 exact this
theorem ZH (hl:l.length<=200000) {s:RS} (hd:s.data=[]) (hx:s.x=[]) (h0:0<=s.a) (h1:s.a<l.length):enT n l s s.times.length=bD n l (Re n l s):=by
 have g0:s.data.length=0:=by rw[hd];rfl
 have g1:s.x.length=0:=by rw[hx];rfl
 unfold enT Re
 rw[i64_in (n:=s.a+1) (by omega) (by omega)]
 have:=D9 (n:=n) (l:=l) (s:={ s with kind:=7,a:=s.a+1 }) (show 0<=s.a+1 by omega)
 simp only[g0,g1] at this
 exact this
theorem UQ (hl:l.length<=200000) {s:RS} (hd:s.data=[]) (hx:s.x=[]):ZB n l s s.times.length=bD n l (Rf n l s):=by
 have g0:s.data.length=0:=by rw[hd];rfl
 have g1:s.x.length=0:=by rw[hx];rfl
 have hf:=jW (n:=n) (l:=l) (s:=s) (e:=(bE l s.a).2.2.2.1) (Jk (a:=s.a) hl)
 rw[g0,g1] at hf
 unfold ZB Rf
 rw[bO hl,hf]
 show pick2 (!eqI (bE l s.a).2.2.2.1 0) _ _=_
 rw[aG]
 by_cases he:(bE l s.a).2.2.2.1=0
 .
  rw[if_pos he,if_neg (show ¬(bE l s.a).2.2.2.1≠0 from λq=>q he)]
  show Ae true n l _ 0 0 s.times.length=Ae true n l _ s.data.length s.x.length s.times.length;rw[g0,g1]
 rw[if_neg he,if_pos he]
theorem ZI (hl:l.length<=200000) {w:List UInt8} {s:RS} (hd:s.data=[]) (hx:s.x=[]) (hw:lH l s.a=some w):wsT n l w s s.times.length=bD n l (dK n l w s):=by
 obtain ⟨h0,h1,UO⟩:=KX hw
 have hdt:∀w0:List UInt8,w=w0->1<=w0.length->w0.length<=1000->Zz n l s=bD n l (Ah n l s):=λw0 e g1 g2=>ZD hl h0 h1 (by rw[UO,e];exact g1) (by rw[UO,e];exact g2)
 have Hy:∀w0:List UInt8,w=w0->1<=w0.length->w0.length<=1000->ZA n l s s.times.length=bD n l (KV n l s):=λw0 e g1 g2=>ZF hl hd hx h0 h1 (by rw[UO,e];exact g1) (by rw[UO,e];exact g2)
 have hmem:∀L:List (List UInt8),(∀v∈L,w≠v)->w ∉ L:=λL h hm=>h w hm rfl
 unfold wsT
 simp only[List.foldr_cons,List.foldr_nil,oh]
 by_cases e1:w=[100,98]
 .
  rw[if_pos e1,hdt _ e1 (by decide) (by decide)];unfold dK;rw[if_pos (by rw[e1];decide)]
 rw[if_neg e1]
 by_cases e2:w=[100,119]
 .
  rw[if_pos e2,hdt _ e2 (by decide) (by decide)];unfold dK;rw[if_pos (by rw[e2];decide)]
 rw[if_neg e2]
 by_cases e3:w=[100,100]
 .
  rw[if_pos e3,hdt _ e3 (by decide) (by decide)];unfold dK;rw[if_pos (by rw[e3];decide)]
 rw[if_neg e3]
 by_cases e4:w=[100,113]
 .
  rw[if_pos e4,hdt _ e4 (by decide) (by decide)];unfold dK;rw[if_pos (by rw[e4];decide)]
 rw[if_neg e4]
 have k1:w ∉ Rd:=hmem _ λv hv=>by
  simp only[Rd,List.mem_cons,List.not_mem_nil,or_false] at hv;rcases hv with rfl|rfl|rfl|rfl<;>assumption
 by_cases e5:w=[114,101,115,98]
 .
  rw[if_pos e5,Hy _ e5 (by decide) (by decide)];unfold dK;rw[if_neg k1,if_pos (by rw[e5];decide)]
 rw[if_neg e5]
 by_cases e6:w=[114,101,115,119]
 .
  rw[if_pos e6,Hy _ e6 (by decide) (by decide)];unfold dK;rw[if_neg k1,if_pos (by rw[e6];decide)]
 rw[if_neg e6]
 by_cases e7:w=[114,101,115,100]
 .
  rw[if_pos e7,Hy _ e7 (by decide) (by decide)];unfold dK;rw[if_neg k1,if_pos (by rw[e7];decide)]
 rw[if_neg e7]
 by_cases e8:w=[114,101,115,113]
 .
  rw[if_pos e8,Hy _ e8 (by decide) (by decide)];unfold dK;rw[if_neg k1,if_pos (by rw[e8];decide)]
 rw[if_neg e8]
 have k2:w ∉ Zy:=hmem _ λv hv=>by
  simp only[Zy,List.mem_cons,List.not_mem_nil,or_false] at hv;rcases hv with rfl|rfl|rfl|rfl<;>assumption
 unfold dK
 rw[if_neg k1,if_neg k2,Rk hl hd hx h0 h1,Rk hl hd hx h0 h1,ZG hl hd hx h0 h1,ZH hl hd hx h0 h1,ZE hl h0 h1,UQ hl hd hx]
 have hf:=jW (n:=n) (l:=l) (s:=s) (e:=4) h0
 rw[show s.data.length=0 by rw[hd];rfl,show s.x.length=0 by rw[hx];rfl] at hf
 rw[hf,pick2_eq]
 repeat' split
 all_goals rfl
theorem UR {w:List UInt8} {aP:Bool} {s:RS} {K:aH} (hd:s.data=[]) (hx:s.x=[]) (h0:0<=s.a) (hK:K=bD n l (dK n l w s)):ZC n l w aP s s.times.length K=bD n l (Jn n l w aP s):=by
 have hf:=jW (n:=n) (l:=l) (s:=s) (e:=4) h0
 rw[show s.data.length=0 by rw[hd];rfl,show s.x.length=0 by rw[hx];rfl] at hf
 subst hK
 unfold ZC F4 Jn
 simp only
 rw[hf]
 simp only[oh,MM]
 have b1:pick2 aP (bD n l (cz n l s 4 s.a)) (if s.lab=[] then bD n l (dK n l w s) else bD n l (cz n l s 4 s.a))=bD n l (if aP=true\/s.lab≠[] then cz n l s 4 s.a else dK n l w s):=by
  cases aP with
  |true=>rw[if_pos (show true=true\/s.lab≠[] from .inl rfl)]
  |
   false =>
   show (if s.lab=[] then _ else _)=_;by_cases h:s.lab=[]
   .
    rw[if_pos h,if_neg (show ¬(false=true\/s.lab≠[]) from λq=>by rcases q with q|q;cases q;exact q h)]
   rw[if_neg h,if_pos (show false=true\/s.lab≠[] from .inr h)]
 have b2:pick2 aP (bD n l (cz n l s 4 s.a)) (bD n l (dK n l w s))=bD n l (if aP=true then cz n l s 4 s.a else dK n l w s):=by
  cases aP<;>rfl
 rw[b1,b2]
 by_cases e1:w=uF\/w=gw\/w=qB
 .
  have hB:(if w=uF then if w=uF then bD n l (if aP=true\/s.lab≠[] then cz n l s 4 s.a else dK n l w s) else if w=iM then bD n l (if aP=true then cz n l s 4 s.a else dK n l w s) else bD n l (dK n l w s)
   else if w=gw then if w=gw then bD n l (if aP=true\/s.lab≠[] then cz n l s 4 s.a else dK n l w s) else if w=iM then bD n l (if aP=true then cz n l s 4 s.a else dK n l w s) else bD n l (dK n l w s)
   else if w=qB then bD n l (if aP=true\/s.lab≠[] then cz n l s 4 s.a else dK n l w s) else if w=iM then bD n l (if aP=true then cz n l s 4 s.a else dK n l w s) else bD n l (dK n l w s))=bD n l (if aP=true\/s.lab≠[] then cz n l s 4 s.a else dK n l w s):=by
   by_cases a1:w=uF
   .
    rw[if_pos a1,if_pos a1]
   rw[if_neg a1];by_cases a2:w=gw
   .
    rw[if_pos a2,if_pos a2]
   rw[if_neg a2,if_pos (by rcases e1 with e|e|e;exact absurd e a1;exact absurd e a2;exact e)]
  rw[hB];have hna:w≠iM:=λe=>by rw[e] at e1;revert e1;decide
  by_cases ht:aP=true\/s.lab≠[]
  .
   rw[if_pos ht,if_pos (show (w=uF\/w=gw\/w=qB)/\(aP=true\/s.lab≠[]) from ⟨e1,ht⟩)]
  rw[if_neg ht,if_neg (show ¬((w=uF\/w=gw\/w=qB)/\(aP=true\/s.lab≠[])) from λq=>ht q.2),if_neg (show ¬(w=iM/\aP=true) from λq=>hna q.1)]
 simp only[not_or] at e1
 rw[if_neg e1.1,if_neg e1.2.1,if_neg e1.2.2,if_neg (show ¬((w=uF\/w=gw\/w=qB)/\(aP=true\/s.lab≠[])) from λq=>by rcases q.1 with q|q|q;exact e1.1 q;exact e1.2.1 q;exact e1.2.2 q)]
 by_cases ha:w=iM
 .
  rw[if_pos ha];by_cases ht:aP=true
  .
   rw[if_pos ht,if_pos (show w=iM/\aP=true from ⟨ha,ht⟩)]
  rw[if_neg ht,if_neg (show ¬(w=iM/\aP=true) from λq=>ht q.2)]
 rw[if_neg ha,if_neg (show ¬(w=iM/\aP=true) from λq=>ha q.1)]
theorem Rl {aP:Bool} {s:RS} {K:List UInt8->aH} (hd:s.data=[]) (hx:s.x=[]) (h0:0<=s.a) (hK:∀w,lH l s.a=some w->K w=bD n l (Jn n l w aP s)):rV n l aP s s.times.length K=bD n l (kY n l aP s):=by
 have g0:s.data.length=0:=by rw[hd];rfl
 have g1:s.x.length=0:=by rw[hx];rfl
 have hf:=jW (n:=n) (l:=l) (s:=s) (e:=4) h0
 rw[g0,g1] at hf
 have h1:=KY (l:=l) h0 (bD n l (cz n l s 4 s.a)) K (A:=λ_ _=>none) (none:aH)
 have h2:rV n l aP s s.times.length K=pick2 (eqI s.a l.length) (pick2 (!aP) (Ae true n l s 0 0 s.times.length) (bD n l (cz n l s 4 s.a))) (pick2 (ltI s.a l.length) ((aI l s.a).elim none λy=>pick2 (!eqI y.1 1) (bD n l (cz n l s 4 s.a)) ((aI l s.a).elim none λz=>K z.2.2.1)) (bD n l (cz n l s 4 s.a))):=by
  unfold rV F4 rG;rw[hf];cases aI l s.a<;>rfl
 rw[h2,h1,aB]
 unfold kY
 by_cases ha:s.a=l.length
 .
  rw[if_pos ha,if_pos ha];cases aP with
  |true=>rfl
  |
   false =>
   show Ae true n l s 0 0 s.times.length=Ae true n l s s.data.length s.x.length s.times.length;rw[g0,g1]
 rw[if_neg ha,if_neg ha]
 cases hn:lH l s.a with
 |none=>rfl
 |some w=>exact hK w hn
end
def kb (n:Int) (l:List Tok) (r:Nat) (p:List Bool) (f:cj) (H:aa):aH:=codeFrom X0 cL rH r 65 p rF f H
section
variable {n:Int} {l:List Tok} {r:Nat}
theorem ahS (hl:l.length<=200000) {w:List UInt8} {a:Int} {lab:List UInt8} {times:List Nd} (hw:lH l a=some w):kb n l r p9 (fr9 w) (CC n l (st0 a lab times) 0 0 times.length)=bD n l (dK n l w (st0 a lab times)) :=
 (aei n l r w a lab times).trans (ZI (s:=st0 a lab times) hl rfl rfl hw)
theorem ahT (hl:l.length<=200000) {w:List UInt8} {aP:Bool} {a:Int} {lab:List UInt8} {times:List Nd} (hw:lH l a=some w):kb n l r p8 (fr8 aP w) (CC n l (st0 a lab times) 0 0 times.length)=bD n l (Jn n l w aP (st0 a lab times)):=by
 have h:=wg (X:=X0) (call:=cL) (an:=rH) (rounds:=r) (id:=65) (p:=p8) (q:=[]) (by kernel_rfl) rF (fr8 aP w) (CC n l (st0 a lab times) 0 0 times.length)
 exact h.trans ((aej n l r w aP a lab times _).trans (UR (s:=st0 a lab times) rfl rfl (KX hw).1 (ahS hl hw)))
theorem aen (hl:l.length<=200000) {aP:Bool} {a:Int} {lab:List UInt8} {times:List Nd} (h0:0<=a):rV n l aP (st0 a lab times) times.length (λw=>kb n l r p8 (fr8 aP w) (CC n l (st0 a lab times) 0 0 times.length))=bD n l (kY n l aP (st0 a lab times)) :=
 Rl (s:=st0 a lab times) rfl rfl h0 λw hw=>ahT hl hw
theorem ahU (hl:l.length<=200000) {aP:Bool} {a:Int} {lab:List UInt8} (h0:0<=a) (h1:a<=l.length):kb n l r p4 (fr4 aP) (CC n l (st0 a lab []) 0 0 0)=bD n l (if aP=true then MJ n l (st0 (a+1) lab []) λx e=>kY n l true (st0 e lab x) else kY n l false (st0 a lab [])):=by
 have h:=wg (X:=X0) (call:=cL) (an:=rH) (rounds:=r) (id:=65) (p:=p4) (q:=[true,true,true]) (by kernel_rfl) rF (fr4 aP) (CC n l (st0 a lab []) 0 0 0)
 refine h.trans ((aek n l r aP a lab _).trans ?_)
 rw[i64_in (n:=a+1) (by omega) (by omega)]
 cases aP with
 |
  true =>
  exact D6 (n:=n) hl (s:=st0 (a+1) lab []) (goF:=λx e=>kY n l true (st0 e lab x)) λx e NY he2=>aen (aP:=true) hl (by have NY:a+1<e:=NY;omega)
 |false=>exact aen (aP:=false) hl h0
theorem ahV (hl:l.length<=200000) {a:Int} {lab:List UInt8} (h0:0<=a) (h1:a<=l.length):kb n l r p3 fr3 (CC n l (st0 a lab []) 0 0 0)=bD n l (jV n l (st0 a lab [])):=by
 have h:=wg (X:=X0) (call:=cL) (an:=rH) (rounds:=r) (id:=65) (p:=p3) (q:=[]) (by kernel_rfl) rF fr3 (CC n l (st0 a lab []) 0 0 0)
 refine h.trans ((ael n l r a lab _).trans ?_)
 have go:∀b:Bool,codeFrom X0 cL rH r 65 (p3++[true]) rF (fr4 b) (CC n l (st0 a lab []) 0 0 0)=bD n l (if b=true then MJ n l (st0 (a+1) lab []) λx e=>kY n l true (st0 e lab x) else kY n l false (st0 a lab [])):=λb=>ahU hl h0 h1
 simp only[go]
 unfold jV
 show _=bD n l (if lH l a=some mG then MJ n l (st0 (a+1) lab []) λx e=>kY n l true (st0 e lab x) else kY n l false (st0 a lab []))
 unfold rG
 rw[aW,getI_at?]
 cases cH:at? l a with
 |
  none =>
  have:=dA h0 cH;rw[if_neg (by omega),rf cH];rfl
 |
  some t =>
  rw[if_pos (dm cH).2,ou cH];show pick2 (eqI t.1 1) (bD n l (if decide (t.2.2.1=mG)=true then _ else _)) _=_;rw[aB];by_cases h1:t.1=1
  .
   rw[if_pos h1,if_pos h1];by_cases h2:t.2.2.1=mG
   .
    rw[if_pos (decide_eq_true h2),if_pos (by rw[h2])]
   rw[if_neg (by simpa using h2),if_neg (λq=>h2 (Option.some.inj q))]
  rw[if_neg h1,if_neg h1,if_neg (by simp)];rfl
theorem Rm (hl:l.length<=200000) {K:RS->aH} (hK:∀a lab,0<=a->a<=(l.length:Int)->K (st0 a lab [])=bD n l (jV n l (st0 a lab []))):l9 n l K=bD n l (jz n l iF):=by
 have hz:K iF=bD n l (jV n l iF):=hK 0 [] (by omega) (by omega)
 unfold l9 jz
 simp only
 have hno:(pick2 (ltI 0 l.length) (rG l 0 λy=>pick2 (eqI y.1 1) (pick2 (ltI 1 l.length) (rG l 1 λy=>pick2 (eqI y.1 4) (rG l 1 λy=>pick2 (decide (y.2.2.1=[58])) (D7 n l iF 0 0 0 0 λt=>K (st0 2 t [])) (K iF)) (K iF)) (K iF)) (K iF)) (K iF)) =
  bD n l (if (lH l 0).isSome=true/\aX l 1 [58]=true then Bd n l 0 iF λs=>jV n l { s with a:=2 } else jV n l iF):=by
  rw[hz];unfold rG;rw[aW,show aI l (0:Int)=at? l 0 by rw[getI_at?]]
  cases cH:at? l 0 with
  |
   none =>
   have:=dA (by omega) cH
   rw[if_neg (by omega),if_neg (λq=>by rw[rf cH] at q;cases q.1)]
  |
   some t =>
   rw[if_pos (dm cH).2];show pick2 (eqI t.1 1) _ _=_;rw[aB];by_cases h1:t.1=1
   .
    rw[if_pos h1,aW,show aI l (1:Int)=at? l 1 by rw[getI_at?]]
    have hs:(lH l 0).isSome=true:=by rw[ou cH,if_pos h1];rfl
    cases pn:at? l 1 with
    |
     none =>
     have:=dA (by omega) pn
     have hb:aX l 1 [58]=false:=by unfold aX;rw[pn]
     rw[if_neg (by omega),if_neg (λq=>by rw[hb] at q;cases q.2)]
    |
     some c =>
     have hlt:=(dm pn).2;have hb:aX l 1 [58]=(eqI c.1 4&&decide (c.2.2.1=[58])):=by unfold aX;rw[pn];exact DY c [58]
     have hlab:=D8 (n:=n) (l:=l) (s:=iF) (i:=0) (by omega) (k:=λt=>K (st0 2 t [])) (kF:=λs=>jV n l { s with a:=2 }) λt _=>hK 2 t (by omega) (by omega)
     have hlab:D7 n l iF 0 0 0 0 (λt=>K (st0 2 t []))=_:=hlab
     rw[if_pos hlt,hlab];show pick2 (eqI c.1 4) (pick2 (decide (c.2.2.1=[58])) _ _) _=_;cases h4:eqI c.1 4 with
     |false=>rw[if_neg (λq=>by rw[hb,h4] at q;cases q.2)]
     |
      true =>
      cases h5:decide (c.2.2.1=[58]) with
      |false=>rw[if_neg (λq=>by rw[hb,h4,h5] at q;cases q.2)]
      |true=>rw[if_pos ⟨hs,by rw[hb,h4,h5];rfl⟩]
   rw[if_neg h1,if_neg (λq=>by rw[ou cH,if_neg h1] at q;cases q.1)]
 rw[hno]
 unfold rG
 rw[aW,show aI l (1:Int)=at? l 1 by rw[getI_at?]]
 cases cH:at? l 1 with
 |
  none =>
  have:=dA (by omega) cH
  rw[if_neg (by omega),if_neg (show ¬lH l 1=some v9 from λq=>by rw[rf cH] at q;cases q)]
 |
  some t =>
  have hlt:=(dm cH).2;have hlab:=D8 (n:=n) (l:=l) (s:=iF) (i:=0) (by omega) (k:=λt=>CE n l 3 { iF with lab:=t,a:=2 } 0) (kF:=λs=>uG n l 3 { s with a:=2 }) λt _=>Aj (s:={ iF with lab:=t,a:=2 }) hl rfl rfl (show (0:Int)<=2 by decide)
  have hlab:D7 n l iF 0 0 0 0 (λt=>CE n l 3 { iF with lab:=t,a:=2 } 0)=_:=hlab
  rw[if_pos hlt,hlab];show pick2 (eqI t.1 1) (pick2 (decide (t.2.2.1=v9)) _ _) _=_;rw[aB,oh,ou cH];by_cases h1:t.1=1
  .
   rw[if_pos h1,if_pos h1];by_cases h2:t.2.2.1=v9
   .
    rw[if_pos h2,if_pos (show some t.2.2.1=some v9 by rw[h2])];rfl
   rw[if_neg h2,if_neg (show ¬some t.2.2.1=some v9 from λq=>h2 (Option.some.inj q))]
  rw[if_neg h1,if_neg h1,if_neg (show ¬(none:Option (List UInt8))=some v9 by simp)]
theorem aeo (hl:l.length<=200000):ag X0 cL rH r 65 [.ptr 0 0] (ct 126 14 (Cz n l iF)) rF=bD n l (jz n l iF):=by
 rw[IL (p:=p3) (by kernel_rfl),aem]
 exact Rm hl λa lab h0 h1=>ahV hl h0 h1
end
def isZ (s:RS):Bool:=decide (s.a=0)&&decide (s.lab=[])&&decide (s.kind=0)&&decide (s.sz=0)&&decide (s.op=0)&&decide (s.hint=0)&&s.times.isEmpty&&decide (s.e=0)&&decide (s.f=0)
def FLn:Zk:=λn l s=>some (Nat.ble l.length 200000&&isZ s,jz n l iF)
theorem Jp:bh X0 cg 65 (Zl FLn) :=
 Jh rfl Ag WC λn l s b s' h1 h2 h3 hF=>by
  obtain ⟨a,lab,kind,sz,op,hint,args,data,x,times,e,f⟩:=s;have h1:args=[]:=h1;have h2:data=[]:=h2;have h3:x=[]:=h3;subst h1;subst h2;subst h3;unfold FLn isZ at hF;simp only[Option.some.injEq,Prod.mk.injEq,Bool.and_eq_true,decide_eq_true_eq,List.isEmpty_iff] at hF;obtain ⟨⟨g1,⟨⟨⟨⟨⟨⟨⟨⟨rfl,rfl⟩,rfl⟩,rfl⟩,rfl⟩,rfl⟩,rfl⟩,rfl⟩,rfl⟩⟩,hF⟩:=hF;refine ⟨rH,5,(aeo (Nat.le_of_ble_eq_true g1)).trans ?_⟩;rw[hF];rfl
def NL:List gJ:=(65,Zl FLn)::ND
theorem WE:bS X0 cg NL:=.cons Jp WC
end
end Go.Proofs.YtpaddkkfefgkfaaGreatDoor.ps

namespace Go.Proofs.YtpaddkkfefgkfaaGreatDoor.ps
open Go.Tv Go.Ev Go.Px Go.Pp Go.Proofs.YtpaddkkfefgkfaaGreatDoor.ex
set_option maxRecDepth 100000
noncomputable section
def stL (s:RS):AV:=.agg [.str s.lab,.int .i64 s.kind,.int .i64 s.sz,.int .i64 s.op,.int .i64 s.hint,.bF fQ s.args,.bF ot s.data,.bF bB s.x,.bF bB s.times]
def rdL (r:RS×Int×Int):List AV:=[stL r.1,.agg [.int .i64 r.2.1,.int .i64 r.2.2]]
def sgS:List (List (Option Tv.Ty)):=[[none,none,none,none,none,some fQ,some ot,some bB,some bB],[none,none]]
def rdT (s:List UInt8):lG :=
 pick2 (!eqI (lt.di s).2.1 0) (some (rdL (iF,(lt.di s).2.1,(lt.di s).2.2)))
  (pick2 (((Nat.ble (lt.di s).1.length 200000&&true)&&true)&&true)
   (pick2 (!(jz s.length (lt.di s).1 iF).1) (some (rdL (iF,(jz s.length (lt.di s).1 iF).2.e,(jz s.length (lt.di s).1 iF).2.f))) (some (rdL ((jz s.length (lt.di s).1 iF).2,0,0)))) none)
theorem US (s:List UInt8):ag X0 (cN P3 NL _) bV 5 29 [.str s] aa.empty (gM sgS)=rdT s:=by kernel_rfl
theorem Ak (s:List UInt8):∀(m:Nat) (r:List UInt8),(lt.jP s m r).1.length<=m
 |0,_=>by simp[lt.jP]
 |m+1,[]=>by simp[lt.jP]
 |
  m+1,c::r=>by
  unfold lt.jP;split
  .
   have:=Ak s m r;omega
  split
  .
   simp
  split
  .
   have:=Ak s m (s.drop (lt.cG s c (s.length-(r.length+1))).2.1.toNat);simp only[List.length_cons];omega
  simp
theorem Rn (s:List UInt8):(lt.di s).1.length<=1000:=by
 unfold lt.di
 split
 .
  simp
 rename_i h
 split
 .
  have:=Ak s s.length s;show (lt.jP s s.length s).1.length<=1000;omega
 simp
theorem ZJ (s:List UInt8):rdT s=some (rdL (bH s)):=by
 have hl:=Rn s
 unfold rdT bH
 rw[bO (show (lt.di s).1.length<=200000 by omega),aG]
 by_cases h:(lt.di s).2.1=0
 .
  rw[if_pos h,if_neg (show ¬(lt.di s).2.1≠0 from λq=>q h)]
  show pick2 (!(jz s.length (lt.di s).1 iF).1) _ _=_;cases (jz s.length (lt.di s).1 iF).1<;>rfl
 rw[if_neg h,if_pos h]
def fRd (args:List AV):Option (Bool×List AV) :=
 match args with
 |[.str s]=>some (true,rdL (bH s))
 |_=>none
theorem Ro:bh X0 cg 29 ⟨none,[none],gV fRd⟩ :=
 Ab rfl Ag WE sgS λvs ws hf=>by
  unfold fRd at hf;split at hf
  case h_2=>cases hf
  rename_i s;simp only[Option.some.injEq,Prod.mk.injEq] at hf;obtain ⟨_,rfl⟩:=hf;refine ⟨rfl,bV,5,?_⟩;rw[US,ZJ]
def NR:List gJ:=(29,⟨none,[none],gV fRd⟩)::NL
theorem Rp:bS X0 cg NR:=.cons Ro WE
end
end Go.Proofs.YtpaddkkfefgkfaaGreatDoor.ps

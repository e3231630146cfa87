/- A line that is written: the contract of line; held against what is read: same. -/
import Derived.Test.YtpaddkkfefgkfaaGreatDoorKe
set_option linter.unusedVariables false
set_option linter.unusedSimpArgs false
namespace Go.Proofs.YtpaddkkfefgkfaaGreatDoor.ps.wr
open Go.Tv Go.Ev Go.Px Go.Pp Go.Proofs.YtpaddkkfefgkfaaGreatDoor.ex
set_option maxRecDepth 100000
noncomputable section
def cdW (l:List Tok) (b:Bool) (op h:Int) (A:List Raw) (K:KW):aH:=pick2 (Nat.ble l.length 400000&&Nat.ble A.length 500&&true&&true) (K (Jv (l,b) op h A).1 (Jv (l,b) op h A).1.length (Jv (l,b) op h A).2) none
def dsW (l:List Tok) (b:Bool) (A:List Dt) (K:KW):aH:=pick2 (Nat.ble l.length 400000&&Nat.ble A.length 500&&true&&true) (K (xJ (l,b) 0 A).1 (xJ (l,b) 0 A).1.length (xJ (l,b) 0 A).2) none
def MS (l:List Tok) (n:Nat) (b:Bool) (z:Int) (w1 w2 w4 w8:List UInt8) (K:KW):aH :=
 pick2 (eqI z 1) (mL l n b w1 K) (pick2 (eqI z 2) (mL l n b w2 K) (pick2 (eqI z 4) (mL l n b w4 K) (pick2 (eqI z 8) (mL l n b w8 K) (mL l n b [] K))))
def kdW (x:RS) (l:List Tok) (n:Nat) (b:Bool) (K:KW):aH :=
 pick2 (eqI x.kind 0) (K l n b) (pick2 (eqI x.kind 1) (cdW l b x.op x.hint x.args K) (pick2 (eqI x.kind 2) (MS l n b x.sz [100,98] [100,119] [100,100] [100,113] λl _ b=>dsW l b x.data K)
  (pick2 (eqI x.kind 3) (mL l n b x.lab λl n b=>mL l n b v9 λl _ b=>Eg l b x.x K) (pick2 (eqI x.kind 4) (mL l n b iM λl _ b=>Eg l b x.x K) (pick2 (eqI x.kind 5) (mL l n b uF λl _ b=>Eg l b x.x K)
   (pick2 (eqI x.kind 6) (mL l n b gw λl n b=>mL l n b x.lab K) (pick2 (eqI x.kind 7) (mL l n b qB K) (pick2 (eqI x.kind 8) (MS l n b x.sz [114,101,115,98] [114,101,115,119] [114,101,115,100] [114,101,115,113] λl _ b=>Eg l b x.x K)
    (pick2 (eqI x.kind 9) (mL l n b Jl λl _ b=>dsW l b x.data K) (K l n true))))))))))
def lnW (x:RS) (l:List Tok) (b:Bool) (K:KW):aH :=
 (λk2:KW=>(λk1:KW=>(λc:Bool->aH=>pick2 (!decide (x.lab=[])) (pick2 (!eqI x.kind 3) (c (!eqI x.kind 6)) (c false)) (c false))
  λc=>pick2 c (mL l l.length b x.lab λl _ b=>wj l (4,0,[58],0) λl n=>k1 l n b) (k1 l l.length b))
  λl n b=>pick2 (ltI 0 x.times.length) (mL l n b mG λl _ b=>Eg l b x.times k2) (k2 l n b))
 λl n b=>kdW x l n b K
theorem Vj (x:RS) (l:List Tok) (b:Bool):ag ex.X0 (cN K1 W3 _) bV 5 83 [.ptr 0 0,.agg (Ea x)] (ct 147 2 (xI (l,b)++[.val (.agg (Ea x))])) GP=lnW x l b λl n b=>Bf l b n:=by kernel_rfl
def SJ (z:Int) (w1 w2 w4 w8:List UInt8):List UInt8:=if z=1 then w1 else if z=2 then w2 else if z=4 then w4 else if z=8 then w8 else []
def kdS (s:WS) (x:RS):WS :=
 if x.kind=0 then s else if x.kind=1 then Jv s x.op x.hint x.args else if x.kind=2 then xJ (jA s (SJ x.sz [100,98] [100,119] [100,100] [100,113])) 0 x.data
 else if x.kind=3 then eN (jA (jA s x.lab) v9) x.x else if x.kind=4 then eN (jA s iM) x.x else if x.kind=5 then eN (jA s uF) x.x
 else if x.kind=6 then jA (jA s gw) x.lab else if x.kind=7 then jA s qB else if x.kind=8 then eN (jA s (SJ x.sz [114,101,115,98] [114,101,115,119] [114,101,115,100] [114,101,115,113])) x.x
 else if x.kind=9 then xJ (jA s Jl) 0 x.data else (s.1,true)
def Nv (s:WS) (x:RS):WS:=if x.lab≠[]/\x.kind≠3/\x.kind≠6 then oU (jA s x.lab) (4,0,[58],0) else s
def Vk (s:WS) (x:RS):WS:=if 0<x.times.length then eN (jA s mG) x.times else s
def dZ (x:RS):WS:=kdS (Vk (Nv ([],false) x) x) x
theorem RM {s:WS} (h:br s<=800000) (z:Int) (w1 w2 w4 w8:List UInt8) (K:KW):MS s.1 s.1.length s.2 z w1 w2 w4 w8 K=K3 K (jA s (SJ z w1 w2 w4 w8)):=by
 unfold MS SJ
 rw[cu (by omega),cu (by omega),cu (by omega),cu (by omega),cu (by omega)]
 simp only[aB]
 split
 .
  rfl
 split
 .
  rfl
 split
 .
  rfl
 split<;>rfl
theorem aaC {s:WS} (h:br s<=400000) (op hi:Int) {A:List Raw} (hA:A.length<=500) (K:KW):cdW s.1 s.2 op hi A K=K3 K (Jv s op hi A):=by
 unfold br at h
 unfold cdW
 rw[bO h,bO hA];rfl
theorem RN {s:WS} (h:br s<=400000) {A:List Dt} (hA:A.length<=500) (K:KW):dsW s.1 s.2 A K=K3 K (xJ s 0 A):=by
 unfold br at h
 unfold dsW
 rw[bO h,bO hA];rfl
theorem RO {s:WS} (h:br s<=300000) {x:RS} (hA:x.args.length<=500) (hD:x.data.length<=500) (K:KW):kdW x s.1 s.1.length s.2 K=K3 K (kdS s x):=by
 have n1:=λw=>gx s w
 unfold kdW kdS
 have e3:(mL s.1 s.1.length s.2 x.lab λl n b=>mL l n b v9 λl _ b=>Eg l b x.x K)=K3 K (eN (jA (jA s x.lab) v9) x.x):=by
  have a1:=n1 x.lab;have a2:=gx (jA s x.lab) v9;rw[cu (by omega),fh,cu (by omega),fh,qD (by omega)]
 have eX:∀w,(mL s.1 s.1.length s.2 w λl _ b=>Eg l b x.x K)=K3 K (eN (jA s w) x.x):=λw=>by
  have a1:=n1 w;rw[cu (by omega),fh,qD (by omega)]
 have e2:∀w1 w2 w4 w8,(MS s.1 s.1.length s.2 x.sz w1 w2 w4 w8 λl _ b=>dsW l b x.data K)=K3 K (xJ (jA s (SJ x.sz w1 w2 w4 w8)) 0 x.data):=λw1 w2 w4 w8=>by
  have a1:=n1 (SJ x.sz w1 w2 w4 w8);rw[RM (by omega),fh,RN (by omega) hD]
 have e8:∀w1 w2 w4 w8,(MS s.1 s.1.length s.2 x.sz w1 w2 w4 w8 λl _ b=>Eg l b x.x K)=K3 K (eN (jA s (SJ x.sz w1 w2 w4 w8)) x.x):=λw1 w2 w4 w8=>by
  have a1:=n1 (SJ x.sz w1 w2 w4 w8);rw[RM (by omega),fh,qD (by omega)]
 have e9:(mL s.1 s.1.length s.2 Jl λl _ b=>dsW l b x.data K)=K3 K (xJ (jA s Jl) 0 x.data):=by
  have a1:=n1 Jl;rw[cu (by omega),fh,RN (by omega) hD]
 have e6:(mL s.1 s.1.length s.2 gw λl n b=>mL l n b x.lab K)=K3 K (jA (jA s gw) x.lab):=by
  have a1:=n1 gw;rw[cu (by omega),fh,cu (by omega)]
 rw[aaC (by omega) _ _ hA,e3,eX,eX,e2,e8,e9,e6,cu (by omega)]
 have ih:∀(p:Prop) [Decidable p] (a b:WS),K3 K (if p then a else b)=if p then K3 K a else K3 K b:=λp _ a b=>by split<;>rfl
 simp only[aB,ih]
 rfl
theorem aaD {x:RS} (hA:x.args.length<=500) (hD:x.data.length<=500) (K:KW):lnW x [] false K=K3 K (dZ x):=by
 have b0:br (Nv ([],false) x)<=2:=by
  unfold Nv;split
  .
   rw[kP];have:=gx ([],false) x.lab;have e:br ([],false)=0:=rfl;omega
  show 0<=2;omega
 have b1:br (Vk (Nv ([],false) x) x)<=1000:=by
  unfold Vk;split
  .
   have:=wk (jA (Nv ([],false) x) mG) x.times;have:=gx (Nv ([],false) x) mG;omega
  omega
 have h2:∀s:WS,br s<=2->br (Vk s x)<=1000->(λ(l:List Tok) (n:Nat) (b:Bool)=>pick2 (ltI 0 x.times.length) (mL l n b mG λl _ b=>Eg l b x.times λl n b=>kdW x l n b K) (kdW x l n b K)) s.1 s.1.length s.2=K3 K (kdS (Vk s x) x):=λs hs hl=>by
  simp only;unfold Vk at hl ⊢;rw[aW];by_cases ht:0<x.times.length
  .
   rw[if_pos ht] at hl ⊢;rw[if_pos (by omega)]
   have:=gx s mG;rw[cu (by omega),fh,qD (by omega),fh,RO (by omega) hA hD]
  rw[if_neg ht] at hl ⊢;rw[if_neg (by omega),RO (by omega) hA hD]
 unfold dZ
 have hc:∀(A B:aH),((λc:Bool->aH=>pick2 (!decide (x.lab=[])) (pick2 (!eqI x.kind 3) (c (!eqI x.kind 6)) (c false)) (c false)) λc=>pick2 c A B)=if x.lab≠[]/\x.kind≠3/\x.kind≠6 then A else B:=λA B=>by
  simp only;by_cases h1:x.lab=[]
  .
   rw[decide_eq_true h1,if_neg (λz=>z.1 h1)];rfl
  rw[decide_eq_false h1];show pick2 (!eqI x.kind 3) (pick2 (!eqI x.kind 6) A B) B=_;rw[aG,aG];by_cases h3:x.kind=3
  .
   rw[if_pos h3,if_neg (λz=>z.2.1 h3)]
  rw[if_neg h3];by_cases h6:x.kind=6
  .
   rw[if_pos h6,if_neg (λz=>z.2.2 h6)]
  rw[if_neg h6,if_pos ⟨h1,h3,h6⟩]
 unfold lnW
 refine (hc _ _).trans ?_
 have q:=h2 (Nv ([],false) x) b0 b1
 unfold Nv at q b0 ⊢
 split
 .
  rename_i hq;rw[if_pos hq] at q b0;have e0:br (([],false):WS)=0:=rfl;have:=gx (([],false):WS) x.lab;refine (cu (s:=([],false)) (by omega) x.lab _).trans ?_
  rw[fh];refine (kQ (s:=jA ([],false) x.lab) (by omega) _ λl n b=>_).trans ?_
  exact q
 rename_i hq
 rw[if_neg hq] at q
 exact q
def Vl (s:WS) (vs:List AV):Option (Bool×WS) :=
 match vs with
 |
  [.agg A]=>match Ed A with
  |some x=>some (s.1.isEmpty && !s.2&&Nat.ble x.args.length 500&&Nat.ble x.data.length 500,dZ x)
  |none=>none
 |_=>none
theorem Vm:bh ex.X0 cg 83 (Nt Vl [none]) :=
 Ap rfl rU aeG λs vs s' hF=>by
  unfold Vl at hF;split at hF
  case h_2=>cases hF
  split at hF
  case h_2=>cases hF
  rename_i A x hx;simp only[Option.some.injEq,Prod.mk.injEq,Bool.and_eq_true,Bool.not_eq_true'] at hF;obtain ⟨⟨⟨⟨g0,g1⟩,g2⟩,g3⟩,rfl⟩:=hF;have g2:=Nat.le_of_ble_eq_true g2;have g3:=Nat.le_of_ble_eq_true g3;obtain ⟨l,b⟩:=s;have g0:l=[]:=List.isEmpty_iff.1 g0;have g1:b=false:=g1;subst g0;subst g1;refine ⟨bV,5,?_⟩;rw[jc hx];exact (Vj x [] false).trans (aaD g2 g3 _)
def W4:List gJ:=(83,Nt Vl [none])::W3
def wW (a b:RS):kO :=
 pick2 (decide (a.lab=b.lab)) (pick2 (eqI a.kind b.kind) (pick2 (eqI a.sz b.sz) (pick2 (eqI a.op b.op) (pick2 (eqI a.hint b.hint) (pick2 (SH a.args&&true) (pick2 (kZ (α:=List Raw) a.args b.args) (pick2 (okD a.data&&true) (pick2 (kZ (α:=List Dt) a.data b.data)
  (pick2 (Nat.ble a.x.length 900000) (pick2 (kZ (α:=List Nd) a.x b.x) (pick2 (Nat.ble a.times.length 900000) (some [.bool (kZ (α:=List Nd) a.times b.times)]) none) FS) none) FS) none) FS) none) FS) FS) FS) FS) FS
theorem Vn (a b:RS):ag ex.X0 (cN K2 NE2 _) bV 5 84 [.agg (Ea a),.agg (Ea b)] aa.empty (gM ri)=wW a b:=by kernel_rfl
end
end Go.Proofs.YtpaddkkfefgkfaaGreatDoor.ps.wr

/- A line that is written: places, instructions, data: contracts. -/
import Derived.Test.YtpaddkkfefgkfaaGreatDoorKa
set_option linter.unusedVariables false
set_option linter.unusedSimpArgs false
namespace Go.Proofs.YtpaddkkfefgkfaaGreatDoor.ps.wr
open Go.Tv Go.Ev Go.Px Go.Pp Go.Proofs.YtpaddkkfefgkfaaGreatDoor.ex
set_option maxRecDepth 100000
noncomputable section
def oU (s:WS) (t:Tok):WS:=(s.1++[t],s.2)
def jA (s:WS) (w:List UInt8):WS:=if w=[] then (s.1,true) else (s.1++[(1,0,w,0)],s.2)
def Nu (s:WS) (z:Int):WS:=if z=0 then s else if z=16 then jA s [111,119,111,114,100] else if z=32 then jA s [121,119,111,114,100] else jA s (Eh z)
def AL (m:Nat) (s:WS):WS:=if m<s.1.length then oU s (4,0,[43],0) else s
def K3 (K:KW) (s:WS):aH:=K s.1 s.1.length s.2
theorem fh (K:KW) (s:WS):K3 K s=K s.1 s.1.length s.2:=rfl
def br (s:WS):Nat:=s.1.length
theorem kP (s:WS) (t:Tok):br (oU s t)=br s+1:=by simp[br,oU]
theorem gx (s:WS) (w:List UInt8):br (jA s w)<=br s+1:=by unfold jA br;split<;>simp
theorem wk (s:WS) (x:List Nd):br (eN s x)<=br s+600:=by
 unfold eN br
 split
 .
  rename_i h;have:=GQ h;simp;omega
 simp
theorem aac (s:WS) (z:Int):br (Nu s z)<=br s+1:=by
 unfold Nu
 split
 .
  omega
 split
 .
  exact gx _ _
 split<;>exact gx _ _
theorem RB (m:Nat) (s:WS):br (AL m s)<=br s+1:=by
 unfold AL
 split
 .
  rw[kP];omega
 omega
theorem kQ {s:WS} (h:br s<=900000) (t:Tok) (K:KW):(wj s.1 t λl n=>K l n s.2)=K3 K (oU s t):=by
 unfold br at h
 unfold wj K3 oU
 rw[bO (by omega)]
 simp only[List.length_append,List.length_cons,List.length_nil]
theorem cu {s:WS} (h:br s<=900000) (w:List UInt8) (K:KW):mL s.1 s.1.length s.2 w K=K3 K (jA s w):=by
 unfold mL jA
 by_cases hw:w=[]
 .
  rw[decide_eq_true hw,if_pos hw];rfl
 rw[decide_eq_false hw,if_neg hw]
 exact kQ h _ K
theorem qD {s:WS} (h:br s<=900000) (x:List Nd) (K:KW):Eg s.1 s.2 x K=K3 K (eN s x):=by
 unfold br at h
 unfold Eg K3
 rw[bO h];rfl
theorem aad {s:WS} (h:br s<=900000) (z:Int) (K:KW):szW s.1 s.1.length s.2 z K=K3 K (Nu s z):=by
 unfold szW Nu Eh
 rw[cu h,cu h,cu h,cu h,cu h,cu h,cu h]
 simp only[aB]
 split
 .
  rfl
 split
 .
  rfl
 split
 .
  rfl
 split
 .
  rfl
 split
 .
  rfl
 split
 .
  rfl
 split<;>rfl
theorem RC {s:WS} (h:br s<=900000) (m:Nat) (K:KW):U2 s.1 s.1.length m s.2 K=K3 K (AL m s):=by
 unfold U2 AL
 rw[aW]
 by_cases hm:m<s.1.length
 .
  rw[if_pos (by omega),if_pos hm]
  exact kQ h _ K
 rw[if_neg (by omega),if_neg hm];rfl
def SI (s:WS) (r:Raw):WS :=
 let s1:=oU (Nu s r.2.2.1.2.2.2.2) (4,0,[91],0)
 if r.2.2.2.2=true then oU (eN (jA s1 [114,101,108]) r.2.2.2.1) (4,0,[93],0)
 else
  let s2:=if Ei r.2.2.1.1.1 r.2.2.1.1.2=true then s1 else jA s1 (dO r.2.2.1.1.1 r.2.2.1.1.2)
  let s3:=if Ei r.2.2.1.2.1.1 r.2.2.1.2.1.2=true then s2 else oU (oU (jA (AL (br s1) s2) (dO r.2.2.1.2.1.1 r.2.2.1.2.1.2)) (4,0,[42],0)) (2,r.2.2.1.2.2.1,[],0)
  let s4:=if 0<r.2.2.2.1.length then oU (eN (oU (AL (br s1) s3) (4,0,[40],0)) r.2.2.2.1) (4,0,[41],0) else s3
  oU s4 (4,0,[93],0)
theorem RD {s:WS} (h:br s<=800000) (r:Raw) (K:KW):plW s.1 s.2 r K=K3 K (SI s r)/\br (SI s r)<=br s+700:=by
 have z1:=aac s r.2.2.1.2.2.2.2
 have z2:=kP (Nu s r.2.2.1.2.2.2.2) (4,0,[91],0)
 have e1:plW s.1 s.2 r K=(λs1:WS=>pick2 r.2.2.2.2 (mL s1.1 s1.1.length s1.2 [114,101,108] λl _ b=>Eg l b r.2.2.2.1 λl _ b=>wj l (4,0,[93],0) λl n=>K l n b)
  ((
   λk1:KW=>pick2 (!Ei r.2.2.1.1.1 r.2.2.1.1.2) (mL s1.1 s1.1.length s1.2 (dO r.2.2.1.1.1 r.2.2.1.1.2) k1) (k1 s1.1 s1.1.length s1.2)) λl n b =>
   (λk2:KW=>pick2 (!Ei r.2.2.1.2.1.1 r.2.2.1.2.1.2) (U2 l n s1.1.length b λl n b=>mL l n b (dO r.2.2.1.2.1.1 r.2.2.1.2.1.2) λl _ b=>wj l (4,0,[42],0) λl _=>wj l (2,r.2.2.1.2.2.1,[],0) λl n=>k2 l n b) (k2 l n b)) λl n b =>
    (λk3:KW=>pick2 (ltI 0 r.2.2.2.1.length) (U2 l n s1.1.length b λl _ b=>wj l (4,0,[40],0) λl _=>Eg l b r.2.2.2.1 λl _ b=>wj l (4,0,[41],0) λl n=>k3 l n b) (k3 l n b)) λl _ b =>
     wj l (4,0,[93],0) λl n=>K l n b)) (oU (Nu s r.2.2.1.2.2.2.2) (4,0,[91],0)):=by
  unfold plW;rw[aad (by omega)]
  unfold K3;exact kQ (by omega) _ λl n b=>_
 generalize hs1:oU (Nu s r.2.2.1.2.2.2.2) (4,0,[91],0)=s1 at e1 z2
 have hpl:SI s r=(if r.2.2.2.2=true then oU (eN (jA s1 [114,101,108]) r.2.2.2.1) (4,0,[93],0)
  else
   let s2:=if Ei r.2.2.1.1.1 r.2.2.1.1.2=true then s1 else jA s1 (dO r.2.2.1.1.1 r.2.2.1.1.2)
   let s3:=if Ei r.2.2.1.2.1.1 r.2.2.1.2.1.2=true then s2 else oU (oU (jA (AL (br s1) s2) (dO r.2.2.1.2.1.1 r.2.2.1.2.1.2)) (4,0,[42],0)) (2,r.2.2.1.2.2.1,[],0)
   let s4:=if 0<r.2.2.2.1.length then oU (eN (oU (AL (br s1) s3) (4,0,[40],0)) r.2.2.2.1) (4,0,[41],0) else s3
   oU s4 (4,0,[93],0)):=by rw[<-hs1];rfl
 rw[hpl]
 have e1:plW s.1 s.2 r K=_:=e1
 simp only at e1
 rw[e1]
 clear e1 hpl hs1
 cases hrel:r.2.2.2.2 with
 |
  true =>
  rw[if_pos rfl];have a1:=gx s1 [114,101,108];have a2:=wk (jA s1 [114,101,108]) r.2.2.2.1;have a3:=kP (eN (jA s1 [114,101,108]) r.2.2.2.1) (4,0,[93],0);refine ⟨?_,by omega⟩
  show mL s1.1 s1.1.length s1.2 [114,101,108] _=_;rw[cu (by omega)]
  rw[fh,qD (by omega)]
  exact kQ (by omega) _ K
 |
  false =>
  rw[if_neg (by simp)]
  simp only;generalize hs2:(if Ei r.2.2.1.1.1 r.2.2.1.1.2=true then s1 else jA s1 (dO r.2.2.1.1.1 r.2.2.1.1.2))=s2
  have b2:br s2<=br s1+1:=by
   rw[<-hs2];split
   .
    omega
   exact gx _ _
  generalize hs3:(if Ei r.2.2.1.2.1.1 r.2.2.1.2.1.2=true then s2 else oU (oU (jA (AL (br s1) s2) (dO r.2.2.1.2.1.1 r.2.2.1.2.1.2)) (4,0,[42],0)) (2,r.2.2.1.2.2.1,[],0))=s3;have c1:=RB (br s1) s2;have c2:=gx (AL (br s1) s2) (dO r.2.2.1.2.1.1 r.2.2.1.2.1.2);have c3:=kP (jA (AL (br s1) s2) (dO r.2.2.1.2.1.1 r.2.2.1.2.1.2)) (4,0,[42],0);have c4:=kP (oU (jA (AL (br s1) s2) (dO r.2.2.1.2.1.1 r.2.2.1.2.1.2)) (4,0,[42],0)) (2,r.2.2.1.2.2.1,[],0)
  have b3:br s3<=br s2+4:=by
   rw[<-hs3];split<;>omega
  generalize hs4:(if 0<r.2.2.2.1.length then oU (eN (oU (AL (br s1) s3) (4,0,[40],0)) r.2.2.2.1) (4,0,[41],0) else s3)=s4;have d1:=RB (br s1) s3;have d2:=kP (AL (br s1) s3) (4,0,[40],0);have d3:=wk (oU (AL (br s1) s3) (4,0,[40],0)) r.2.2.2.1;have d4:=kP (eN (oU (AL (br s1) s3) (4,0,[40],0)) r.2.2.2.1) (4,0,[41],0)
  have b4:br s4<=br s3+603:=by
   rw[<-hs4];split<;>omega
  have d5:=kP s4 (4,0,[93],0);refine ⟨?_,by omega⟩
  have last:∀k3:KW,k3=(λl _ b=>wj l (4,0,[93],0) λl n=>K l n b)->K3 k3 s4=K3 K (oU s4 (4,0,[93],0)):=λk3 hk=>by
   rw[hk];exact kQ (by omega) _ K
  have three:∀k3:KW,(pick2 (ltI 0 r.2.2.2.1.length) (U2 s3.1 s3.1.length s1.1.length s3.2 λl _ b=>wj l (4,0,[40],0) λl _=>Eg l b r.2.2.2.1 λl _ b=>wj l (4,0,[41],0) λl n=>k3 l n b) (k3 s3.1 s3.1.length s3.2))=K3 k3 s4:=λk3=>by
   rw[aW,<-hs4];by_cases hx:0<r.2.2.2.1.length
   .
    rw[if_pos (by omega),if_pos hx,RC (by omega)]
    refine (kQ (s:=AL (br s1) s3) (by omega) _ λl _ b=>Eg l b r.2.2.2.1 λl _ b=>wj l (4,0,[41],0) λl n=>k3 l n b).trans ?_
    rw[fh,qD (by omega)]
    exact kQ (by omega) _ k3
   rw[if_neg (by omega),if_neg hx];rfl
  have two:∀k2:KW,(pick2 (!Ei r.2.2.1.2.1.1 r.2.2.1.2.1.2) (U2 s2.1 s2.1.length s1.1.length s2.2 λl n b=>mL l n b (dO r.2.2.1.2.1.1 r.2.2.1.2.1.2) λl _ b=>wj l (4,0,[42],0) λl _=>wj l (2,r.2.2.1.2.2.1,[],0) λl n=>k2 l n b) (k2 s2.1 s2.1.length s2.2))=K3 k2 s3:=λk2=>by
   rw[<-hs3];cases hz:Ei r.2.2.1.2.1.1 r.2.2.1.2.1.2 with
   |true=>rw[if_pos rfl];rfl
   |
    false =>
    rw[if_neg (by simp)]
    show U2 s2.1 s2.1.length s1.1.length s2.2 _=_;rw[RC (by omega),show s1.1.length=br s1 from rfl,fh,cu (by omega)]
    refine (kQ (s:=jA (AL (br s1) s2) (dO r.2.2.1.2.1.1 r.2.2.1.2.1.2)) (by omega) _ λl _ b=>wj l (2,r.2.2.1.2.2.1,[],0) λl n=>k2 l n b).trans ?_
    exact kQ (by omega) _ k2
  have one:∀k1:KW,(pick2 (!Ei r.2.2.1.1.1 r.2.2.1.1.2) (mL s1.1 s1.1.length s1.2 (dO r.2.2.1.1.1 r.2.2.1.1.2) k1) (k1 s1.1 s1.1.length s1.2))=K3 k1 s2:=λk1=>by
   rw[<-hs2];cases hz:Ei r.2.2.1.1.1 r.2.2.1.1.2 with
   |true=>rw[if_pos rfl];rfl
   |
    false =>
    rw[if_neg (by simp)]
    exact cu (by omega) _ k1
  show pick2 (!Ei r.2.2.1.1.1 r.2.2.1.1.2) _ _=_;rw[one,fh];refine Eq.trans (two _) ?_;rw[fh];refine Eq.trans (three _) ?_;exact last _ rfl
def aae (s:WS) (vs:List AV):Option (Bool×WS) :=
 match vs with
 |
  [.agg A]=>match GJ A with
  |some r=>some (Nat.ble s.1.length 800000,SI s r)
  |none=>none
 |_=>none
theorem U3:bh ex.X0 cg 160 (Nt aae [none]) :=
 Ap rfl rU WH λs vs s' hF=>by
  unfold aae at hF;split at hF
  case h_2=>cases hF
  split at hF
  case h_2=>cases hF
  rename_i A r hr;simp only[Option.some.injEq,Prod.mk.injEq] at hF;obtain ⟨g0,rfl⟩:=hF;have g0:=Nat.le_of_ble_eq_true g0;refine ⟨bV,5,?_⟩;rw[mH hr];exact (RA s.1 s.2 r).trans (RD g0 r _).1
def W2:List gJ:=(160,Nt aae [none])::W1
theorem RF:bS ex.X0 cg W2:=.cons U3 WH
end
end Go.Proofs.YtpaddkkfefgkfaaGreatDoor.ps.wr

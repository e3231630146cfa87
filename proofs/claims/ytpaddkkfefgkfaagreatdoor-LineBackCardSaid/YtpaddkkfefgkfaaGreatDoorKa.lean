/- A line that is written: the writer's contracts; expressions, places. -/
import Derived.Test.YtpaddkkfefgkfaaGreatDoorQg
import Derived.Test.YtpaddkkfefgkfaaGreatDoorGri
set_option linter.unusedVariables false
set_option linter.unusedSimpArgs false
namespace Go.Proofs.YtpaddkkfefgkfaaGreatDoor.ps.wr
open Go.Tv Go.Ev Go.Px Go.Pp Go.Proofs.YtpaddkkfefgkfaaGreatDoor.ex
set_option maxRecDepth 100000
noncomputable section
abbrev WS:=List Tok×Bool
def Z9:List (Option (TypeId×Tv.Ty)):=[some (106,aC),none]
def xI (s:WS):List bu:=[.list 106 aC s.1,.val (.bool s.2)]
def gWr (F:WS->List AV->Option (Bool×WS)) (ins:List bu):Option (Bool×List bu×List bu) :=
 match ins with
 |
  .list t e l0 :: .val (.bool b)::r=>match eP e aC l0,gV.Aa r with
  |
   some l,some vs=>match F (l,b) vs with
   |some (c,s')=>some (c&&Nat.beq t 106,xI s',[])
   |none=>none
  |_,_=>none
 |_=>none
def Nt (F:WS->List AV->Option (Bool×WS)) (sig:List (Option (TypeId×Tv.Ty))):xE:=⟨some (147,Z9),sig,gWr F⟩
abbrev GP:AV->aa->aH:=KP 147 [some aC,none] Z9 []
def UZ (s:WS):aH:=some (xI s,[s.1.length])
def Bf (l:List Tok) (b:Bool) (n:Nat):aH:=some (xI (l,b),[n])
theorem U0 {F:WS->List AV->Option (Bool×WS)} {ins outs rs:List bu} (h:gWr F ins=some (true,outs,rs)):∃s vs s',ins=xI s++vs.map .val/\F s vs=some (true,s')/\outs=xI s'/\rs=[]:=by
 unfold gWr at h
 split at h
 case h_2=>cases h
 rename_i t e l0 b r
 split at h
 case h_2=>cases h
 rename_i l vs h0 h1
 split at h
 case h_2=>cases h
 rename_i c s' hF
 simp only[Option.some.injEq,Prod.mk.injEq,Bool.and_eq_true] at h
 obtain ⟨⟨hc,g1⟩,rfl,rfl⟩:=h
 subst hc
 obtain rfl:=Nat.eq_of_beq_eq_true g1
 obtain ⟨rfl,h0⟩:=aS h0
 have h0:l0=l:=h0
 subst h0
 have h1:=nr h1
 subst h1
 exact ⟨(l0,b),vs,s',rfl,hF,rfl,rfl⟩
theorem Ap {id:FuncId} (hk:lt.inl id=true) {M:List nY} {N:List gJ} (hM:cr ex.X0 cg M) (hN:bS ex.X0 cg N) {sig:List (Option (TypeId×Tv.Ty))} {F:WS->List AV->Option (Bool×WS)}
 (h:∀s vs s',F s vs=some (true,s')->∃(an:bG) (rounds:Nat),ag ex.X0 (cN M N _) an rounds id (.ptr 0 0::vs) (ct 147 2 (xI s++vs.map .val)) GP=UZ s') :
 bh ex.X0 cg id (Nt F sig) :=
 Gx (nk hk) (cV hM hN) [some aC,none] (mK:=[]) λins outs rs hg hl=>by
  obtain ⟨s,vs,s',rfl,hF,rfl,rfl⟩:=U0 hg;obtain ⟨an,rounds,hrun⟩:=h s vs s' hF;refine ⟨an,rounds,_,?_,rfl⟩
  have:(.ptr 0 0::(Tv.cellsIn 1 (xI s++vs.map bu.val)).drop Z9.length)=(AV.ptr 0 0::vs):=by
   have e:∀(n:Nat) (vs:List AV),Tv.cellsIn n (vs.map bu.val)=vs:=λn vs=>by
    induction vs with
    |nil=>rfl
    |cons v vs ih=>show v::Tv.cellsIn n (vs.map bu.val)=_;rw[ih]
   show AV.ptr 0 0::Tv.cellsIn 2 (vs.map bu.val)=_;rw[e]
  rw[this,List.append_nil];exact hrun
def K1:List nY:=(159,[some bB],w9)::Q2
theorem rU:cr ex.X0 cg K1:=.cons QE aeB
def eN (s:WS) (x:List Nd):WS:=if jo ay x=0 then (s.1++kI x,s.2) else (s.1,true)
theorem U1 (l:List Tok) (b:Bool) (x:List Nd):ag ex.X0 (cN K1 [] _) bV 5 117 [.ptr 0 0,.bF bB x] (ct 147 2 (xI (l,b)++[.val (.bF bB x)])) GP =
 pick2 (!eqI (jo ay x) 0) (Bf l true l.length) (pick2 (Nat.ble (l.length+(if jo ay x=0 then kI x else []).length) 1000000) (Bf (l++(if jo ay x=0 then kI x else [])) b (l.length+(if jo ay x=0 then kI x else []).length)) none):=by kernel_rfl
theorem GQ {x:List Nd} (h:jo ay x=0):(kI x).length<=600:=by
 obtain ⟨t,_,_,_,k4,k5,_⟩:=sX h
 rw[k4];exact k5
def fEx (s:WS) (vs:List AV):Option (Bool×WS) :=
 match vs with
 |
  [X]=>match sM bB X with
  |some x=>some (Nat.ble s.1.length 900000,eN s x)
  |none=>none
 |_=>none
theorem aab:bh ex.X0 cg 117 (Nt fEx [none]) :=
 Ap rfl rU n0 λs vs s' hF=>by
  unfold fEx at hF;split at hF
  case h_2=>cases hF
  split at hF
  case h_2=>cases hF
  rename_i X x hx;simp only[Option.some.injEq,Prod.mk.injEq] at hF;obtain ⟨g0,rfl⟩:=hF;have g0:=Nat.le_of_ble_eq_true g0;refine ⟨bV,5,?_⟩;rw[bq hx];obtain ⟨l,b⟩:=s;refine (U1 l b x).trans ?_;unfold eN;rw[aG];by_cases h:jo ay x=0
  .
   have:=GQ h;rw[if_pos h,if_pos h,if_pos h,bO (show l.length+(kI x).length<=1000000 by simp only at g0;omega)]
   show Bf (l++kI x) b (l.length+(kI x).length)=UZ (l++kI x,b);unfold Bf UZ;rw[List.length_append]
  rw[if_neg h,if_neg h];rfl
def W1:List gJ:=[(117,Nt fEx [none])]
theorem WH:bS ex.X0 cg W1:=.cons aab .nil
abbrev KW:=List Tok->Nat->Bool->aH
def wj (l:List Tok) (t:Tok) (K:List Tok->Nat->aH):aH:=pick2 (Nat.ble (l.length+1) 1000000) (K (l++[t]) (l.length+1)) none
def mL (l:List Tok) (n:Nat) (b:Bool) (s:List UInt8) (K:KW):aH:=pick2 (decide (s=[])) (K l n true) (wj l (1,0,s,0) λl n=>K l n b)
def Eg (l:List Tok) (b:Bool) (x:List Nd) (K:KW):aH:=pick2 (Nat.ble l.length 900000&&true&&true) (K (eN (l,b) x).1 (eN (l,b) x).1.length (eN (l,b) x).2) none
def Eh (z:Int):List UInt8:=if z=1 then [98,121,116,101] else if z=2 then [119,111,114,100] else if z=4 then [100,119,111,114,100] else if z=8 then [113,119,111,114,100] else []
def szW (l:List Tok) (n:Nat) (b:Bool) (z:Int) (K:KW):aH :=
 pick2 (eqI z 0) (K l n b) (pick2 (eqI z 16) (mL l n b [111,119,111,114,100] K) (pick2 (eqI z 32) (mL l n b [121,119,111,114,100] K)
  (pick2 (eqI z 1) (mL l n b [98,121,116,101] K) (pick2 (eqI z 2) (mL l n b [119,111,114,100] K) (pick2 (eqI z 4) (mL l n b [100,119,111,114,100] K) (pick2 (eqI z 8) (mL l n b [113,119,111,114,100] K) (mL l n b [] K)))))))
def U2 (l:List Tok) (n m:Nat) (b:Bool) (K:KW):aH:=pick2 (ltI m n) (wj l (4,0,[43],0) λl n=>K l n b) (K l n b)
def Ei (c x:Int):Bool:=decide (c=0)&&decide (x=0)
def plW (l:List Tok) (b:Bool) (r:Raw) (K:KW):aH :=
 szW l l.length b r.2.2.1.2.2.2.2 λl _ b=>wj l (4,0,[91],0) λl m =>
  pick2 r.2.2.2.2 (mL l m b [114,101,108] λl _ b=>Eg l b r.2.2.2.1 λl _ b=>wj l (4,0,[93],0) λl n=>K l n b)
   ((
    λk1:KW=>pick2 (!Ei r.2.2.1.1.1 r.2.2.1.1.2) (mL l m b (dO r.2.2.1.1.1 r.2.2.1.1.2) k1) (k1 l m b)) λl n b =>
    (λk2:KW=>pick2 (!Ei r.2.2.1.2.1.1 r.2.2.1.2.1.2) (U2 l n m b λl n b=>mL l n b (dO r.2.2.1.2.1.1 r.2.2.1.2.1.2) λl _ b=>wj l (4,0,[42],0) λl _=>wj l (2,r.2.2.1.2.2.1,[],0) λl n=>k2 l n b) (k2 l n b)) λl n b =>
     (λk3:KW=>pick2 (ltI 0 r.2.2.2.1.length) (U2 l n m b λl _ b=>wj l (4,0,[40],0) λl _=>Eg l b r.2.2.2.1 λl _ b=>wj l (4,0,[41],0) λl n=>k3 l n b) (k3 l n b)) λl _ b =>
      wj l (4,0,[93],0) λl n=>K l n b)
theorem RA (l:List Tok) (b:Bool) (r:Raw):ag ex.X0 (cN K1 W1 _) bV 5 160 [.ptr 0 0,.agg (GA r)] (ct 147 2 (xI (l,b)++[.val (.agg (GA r))])) GP=plW l b r λl n b=>Bf l b n:=by kernel_rfl
end
end Go.Proofs.YtpaddkkfefgkfaaGreatDoor.ps.wr

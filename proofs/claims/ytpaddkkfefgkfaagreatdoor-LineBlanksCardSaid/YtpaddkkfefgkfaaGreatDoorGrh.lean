/- What is said held against what is wanted: nodes. What is said held against what is wanted: contracts of values, instructions. What is said held against what is wanted: contracts of instructions, statements. What a line says is not too long; contracts of says and fails. -/
import Derived.Test.YtpaddkkfefgkfaaGreatDoorGrg

namespace Go.Proofs.YtpaddkkfefgkfaaGreatDoor.ps
open Go.Tv Go.Ev Go.Px Go.Pp Go.Proofs.YtpaddkkfefgkfaaGreatDoor.ex
set_option maxRecDepth 100000
noncomputable section
def RY (x y:Nd):Bool:=decide (x.1=y.1)&&(decide (x.2.1=y.2.1)&&(decide (x.2.2.1=y.2.2.1)&&(decide (x.2.2.2.1=y.2.2.2.1)&&decide (x.2.2.2.2=y.2.2.2.2))))
theorem GY (x y:Nd):RY x y=true↔x=y:=by
 obtain ⟨a,b,c,d,e⟩:=x
 obtain ⟨a',b',c',d',e'⟩:=y
 simp[RY]
def pSn:List Bool:=[true,true,false,true,false]
def ZK:bO:=⟨eX [0,1,4,5] pSn,.none,[]⟩
def jSn (x y:List Nd) (r m:Nat) (i:Int):Option AV:=fJ X0 (cN P3 [] AV) ZK r 66 pSn (λv _=>some v) m (j8 26 [(0,.bQ ek x),(1,.bQ ek y),(4,.bool false),(5,.int .i64 i)]) (ot [])
theorem RZ (x y:List Nd) (r m:Nat) (i:Int):jSn x y r (m+1) i=pick2 (ltI i x.length) (Option.rec (motive:=λ_=>Option AV) none (λa=>Option.rec (motive:=λ_=>Option AV) none (λb=>pick2 (!RY a b) (some (.bool false)) (jSn x y r m (IntKind.wrap .i64 (i+1)))) (aS y i)) (aS x i)) (some (.bool true)):=by kernel_rfl
theorem Vg (x y:List Nd) (r:Nat):ag X0 (cN P3 [] AV) ZK r 66 [.bQ ek x,.bQ ek y] aa.empty (λv _=>some v)=pick2 (!eqI x.length y.length) (some (.bool false)) (jSn x y r r 0):=by kernel_rfl
theorem ZL (x y:List Nd) (hx:x.length<1000000) (hxy:x.length=y.length) (r:Nat):∀(rest pre:List Nd) (rest':List Nd) (m:Nat),x=pre++rest->y.drop pre.length=rest'->rest.length<m->jSn x y r m pre.length=some (.bool (decide (rest=rest'))):=by
 intro rest
 induction rest with
 |
  nil =>
  intro pre rest' m he hy hm;obtain ⟨m,rfl⟩:∃m',m=m'+1:=⟨m-1,by simp at hm;omega⟩
  have hl:x.length=pre.length:=by rw[he];simp
  have:rest'=[]:=by rw[<-hy,List.drop_eq_nil_iff];omega
  subst this;rw[RZ,cz (by omega)];rfl
 |
  cons a rest ih =>
  intro pre rest' m he hy hm;obtain ⟨m,rfl⟩:∃m',m=m'+1:=⟨m-1,by simp at hm;omega⟩
  have hl:x.length=pre.length+(rest.length+1):=by rw[he];simp
  have hg:aS x (pre.length:Int)=some a:=by rw[he];exact gb pre rest a
  have hlt:pre.length<y.length:=by omega
  have hg2:aS y (pre.length:Int)=some y[pre.length]:=by rw[ou,List.getElem?_eq_getElem hlt]
  have hr:rest'=y[pre.length]::y.drop (pre.length+1):=by rw[<-hy];exact List.drop_eq_getElem_cons hlt
  have hin:=ih (pre++[a]) (y.drop (pre.length+1)) m (by rw[he];simp) (by simp) (by simp at hm;omega)
  rw[List.length_append] at hin;have hin:jSn x y r m ((pre.length:Int)+1)=some (.bool (decide (rest=y.drop (pre.length+1)))):=hin;rw[RZ,lQ (by omega),hg,hg2,i64_in (n:=(pre.length:Int)+1) (by omega) (by omega)]
  show pick2 (!RY a y[pre.length]) (some (.bool false)) (jSn x y r m ((pre.length:Int)+1))=_;rw[hin,hr];cases he:RY a y[pre.length] with
  |
   true =>
   have:=(GY _ _).1 he;show some (AV.bool _)=_;rw[<-this];simp
  |
   false =>
   have hne:a≠y[pre.length]:=λh=>by rw[(GY _ _).2 h] at he;cases he
   show some (AV.bool false)=_;rw[decide_eq_false (λh=>hne (List.cons.inj h).1)]
def gSn (args:List AV):Option (Bool×List bL) :=
 match args with
 |
  [L,R]=>match EK ek L,EK ek R with
  |some x,some y=>some (Nat.ble x.length 900000,[.val (.bool (decide (x=y)))])
  |_,_=>none
 |_=>none
theorem ZM:aT X0 eo 66 gSn :=
 aU (nk rfl) (eB Ay n0) λargs rs hg=>by
  unfold gSn at hg;split at hg
  case h_2=>cases hg
  split at hg
  case h_2=>cases hg
  rename_i x y hx hy;have e1:=dI hx;have e2:=dI hy;subst e1;subst e2;simp only[Option.some.injEq,Prod.mk.injEq] at hg;obtain ⟨h1,rfl⟩:=hg;have h1:=Nat.le_of_ble_eq_true h1;refine ⟨[.bool (decide (x=y))],ZK,x.length+1,?_,rfl,rfl⟩;rw[Vg,bz];by_cases h:x.length=y.length
  .
   rw[if_pos (by omega)]
   exact ZL x y (by omega) h _ x [] y _ rfl rfl (by omega)
  rw[if_neg (by omega),decide_eq_false (λe=>h (by rw[e]))];rfl
def S1:List qB:=(66,[some ek,some ek],gSn)::P3
theorem sy:cU X0 eo S1:=.cons ZM Ay
end
end Go.Proofs.YtpaddkkfefgkfaaGreatDoor.ps

namespace Go.Proofs.YtpaddkkfefgkfaaGreatDoor.ps
open Go.Tv Go.Ev Go.Px Go.Pp Go.Proofs.YtpaddkkfefgkfaaGreatDoor.ex
set_option maxRecDepth 100000
noncomputable section
theorem Ez {id:FuncId} (hk:lt.inl id=true) {M:List qB} {N:List lS} (hM:cU X0 eo M) (hN:dD X0 eo N) {sig:List (Option (TypeId×Tv.Ty))} {f:List AV->Option (Bool×List AV)} (sgA sg:List (List (Option Tv.Ty)))
 (h:∀vs ws,f vs=some (true,ws)->ws.all Bt=true/\∃an rounds,ag X0 (cN M N _) an rounds id (sx sgA vs) aa.empty (oz sg)=some ws):cA X0 eo id ⟨none,sig,gV f⟩:=by
 intro ins outs rs hg
 have hg:gV f ins=some (true,outs,rs):=hg
 unfold gV at hg
 split at hg
 case h_2=>cases hg
 rename_i vs hv
 split at hg
 case h_2=>cases hg
 rename_i c ws hf
 simp only[Option.some.injEq,Prod.mk.injEq] at hg
 obtain ⟨rfl,_,rfl⟩:=hg
 obtain ⟨h1,an,rounds,h2⟩:=h vs ws hf
 have hi:=qP hv
 subst hi
 intro _
 obtain ⟨M1,h4⟩:=CL (nk hk) (eB hM hN _) h2
 refine ⟨ws,M1,?_,qM h1⟩
 rw[o7,tG]
 exact λS E az hr hgl hl=>h4 S E az hr hgl (uS sgA hl)
def u7 {α:Type} (a b:α):Bool:=@decide (a=b) (Classical.propDecidable _)
theorem kD {α:Type} {a b:α}:u7 a b=true↔a=b:=by
 unfold u7
 exact @decide_eq_true_iff _ (Classical.propDecidable _)
theorem GZ {α:Type} (a:α):u7 a a=true:=kD.2 rfl
theorem wO {α:Type} {a b:α} (h:a≠b):u7 a b=false:=by
 cases he:u7 a b with
 |false=>rfl
 |true=>exact absurd (kD.1 he) h
def Ln (A:List AV):Option Raw:=match A with
 |
  [.int .i64 k,.int .i64 c,.int .i64 n,.int .i64 bc,.int .i64 bn,.int .i64 ic,.int .i64 ix,.int .i64 sc,.int .i64 d,.int .i64 z,X,.bool r]=>match EK ek X with
  |some x=>some (k,(c,n),((bc,bn),(ic,ix),sc,d,z),x,r)
  |none=>none
 |_=>none
theorem AG {A:List AV} {a:Raw} (h:Ln A=some a):A=US a:=by
 unfold Ln at h
 split at h
 .
  split at h
  .
   rename_i x hx;cases h;rw[dI hx];rfl
  cases h
 cases h
def Vh:List (Option Tv.Ty):=[none,none,none,none,none,none,none,none,none,none,some ek,none]
def fSr (vs:List AV):Option (Bool×List AV) :=
 match sx [Vh,Vh] vs with
 |
  [.agg A,.agg B]=>match Ln A,Ln B with
  |some a,some b=>some (Nat.ble a.2.2.2.1.length 900000,[.bool (u7 a b)])
  |_,_=>none
 |_=>none
def Lp:List (List (Option Tv.Ty)):=[[none]]
theorem ZN (a b:Raw):ag X0 (cN S1 NR _) dc 5 80 [.agg (US a),.agg (US b)] aa.empty (oz Lp) =
 pick2 (eqI a.1 b.1) (pick2 (decide (a.2.1.1=b.2.1.1)&&decide (a.2.1.2=b.2.1.2)) (pick2 (decide (a.2.2.1.1.1=b.2.2.1.1.1)&&(decide (a.2.2.1.1.2=b.2.2.1.1.2)&&(decide (a.2.2.1.2.1.1=b.2.2.1.2.1.1)&&(decide (a.2.2.1.2.1.2=b.2.2.1.2.1.2)&&(decide (a.2.2.1.2.2.1=b.2.2.1.2.2.1)&&(decide (a.2.2.1.2.2.2.1=b.2.2.1.2.2.2.1)&&decide (a.2.2.1.2.2.2.2=b.2.2.1.2.2.2.2)))))))
  (pick2 (Nat.ble a.2.2.2.1.length 900000) (pick2 (decide (a.2.2.2.1=b.2.2.2.1)) (some [.bool (a.2.2.2.2==b.2.2.2.2)]) (some [.bool false])) none) (some [.bool false])) (some [.bool false])) (some [.bool false]):=by kernel_rfl
theorem ZO:cA X0 eo 80 ⟨none,[none,none],gV fSr⟩ :=
 Ez rfl sy WG [Vh,Vh] Lp λvs ws hf=>by
  unfold fSr at hf;split at hf
  case h_2=>cases hf
  rename_i A B hv;split at hf
  case h_2=>cases hf
  rename_i a b ha hb;simp only[Option.some.injEq,Prod.mk.injEq] at hf;obtain ⟨g0,rfl⟩:=hf;refine ⟨rfl,dc,5,?_⟩;rw[hv,AG ha,AG hb,ZN,g0];obtain ⟨k,⟨c,n⟩,⟨⟨bc,bn⟩,⟨ic,ix⟩,sc,d,z⟩,x,r⟩:=a;obtain ⟨k',⟨c',n'⟩,⟨⟨bc',bn'⟩,⟨ic',ix'⟩,sc',d',z'⟩,x',r'⟩:=b;simp only[pick2_eq,eqI_spec,beq_iff_eq,Bool.and_eq_true,decide_eq_true_eq,if_true];by_cases h:(k,(c,n),((bc,bn),(ic,ix),sc,d,z),x,r)=((k',(c',n'),((bc',bn'),(ic',ix'),sc',d',z'),x',r'):Raw)
  .
   rw[kD.2 h];cases h;simp
  rw[wO h]
  repeat' split
  all_goals first|rfl|skip
  rename_i h1 h2 h3 h4
  have:(r==r')=false:=by
   cases hr:(r==r') with
   |false=>rfl
   |
    true =>
    exfalso;apply h;obtain ⟨rfl,rfl⟩:=h2;obtain ⟨rfl,rfl,rfl,rfl,rfl,rfl,rfl⟩:=h3;rw[h1,h4,beq_iff_eq.1 hr]
  rw[this]
def NS1:List lS:=(80,⟨none,[none,none],gV fSr⟩)::NR
theorem R2:dD X0 eo NS1:=.cons ZO WG
theorem G0 {α β:Type} {x y:List α} (hx:x.length<1000000) (hxy:x.length=y.length) {ok:α->Bool} {F T:Option β} {j:Nat->Int->Option β}
 (step:∀m i a b,i<(x.length:Int)->aS x i=some a->aS y i=some b->ok a=true->j (m+1) i=pick2 (!u7 a b) F (j m (IntKind.wrap .i64 (i+1)))) (stop:∀m,j (m+1) x.length=T) :
 ∀(rest pre rest':List α) (m:Nat),x=pre++rest->y.drop pre.length=rest'->rest.length<m->(∀a∈rest,ok a=true)->j m pre.length=pick2 (u7 rest rest') T F:=by
 intro rest
 induction rest with
 |
  nil =>
  intro pre rest' m he hy hm _;obtain ⟨m,rfl⟩:∃m',m=m'+1:=⟨m-1,by simp at hm;omega⟩
  have hl:x.length=pre.length:=by rw[he];simp
  have:rest'=[]:=by rw[<-hy,List.drop_eq_nil_iff];omega
  subst this;have hs:=stop m;rw[hl] at hs;rw[hs,GZ]
 |
  cons a rest ih =>
  intro pre rest' m he hy hm hok;obtain ⟨m,rfl⟩:∃m',m=m'+1:=⟨m-1,by simp at hm;omega⟩
  have hl:x.length=pre.length+(rest.length+1):=by rw[he];simp
  have hg:aS x (pre.length:Int)=some a:=by rw[he];exact gb pre rest a
  have hlt:pre.length<y.length:=by omega
  have hg2:aS y (pre.length:Int)=some y[pre.length]:=by rw[ou,List.getElem?_eq_getElem hlt]
  have hr:rest'=y[pre.length]::y.drop (pre.length+1):=by rw[<-hy];exact List.drop_eq_getElem_cons hlt
  have hin:=ih (pre++[a]) (y.drop (pre.length+1)) m (by rw[he];simp) (by simp) (by simp at hm;omega) (λb hb=>hok b (by simp[hb]))
  rw[List.length_append] at hin;have hin:j m ((pre.length:Int)+1)=pick2 (u7 rest (y.drop (pre.length+1))) T F:=hin;rw[step m pre.length a y[pre.length] (by omega) hg hg2 (hok a (by simp)),i64_in (n:=(pre.length:Int)+1) (by omega) (by omega),hin,hr]
  cases he:u7 a y[pre.length] with
  |
   true =>
   have:=kD.1 he;show pick2 (u7 rest (y.drop (pre.length+1))) T F=_
   have e:u7 (a::rest) (y[pre.length]::y.drop (pre.length+1))=u7 rest (y.drop (pre.length+1)):=by
    rw[Bool.eq_iff_iff,kD,kD,<-this];simp
   rw[e]
  |
   false =>
   have hne:a≠y[pre.length]:=λh=>by rw[kD.2 h] at he;cases he
   rw[wO (λh=>hne (List.cons.inj h).1)];rfl
end
end Go.Proofs.YtpaddkkfefgkfaaGreatDoor.ps

namespace Go.Proofs.YtpaddkkfefgkfaaGreatDoor.ps
open Go.Tv Go.Ev Go.Px Go.Pp Go.Proofs.YtpaddkkfefgkfaaGreatDoor.ex
set_option maxRecDepth 100000
noncomputable section
abbrev BB:=Option (List AV)
def FS:BB:=some [.bool false]
def TS':BB:=some [.bool true]
def pSc:List Bool:=[true,true,false,true,false]
def G1:bO:=⟨eX [2,3,4,5] pSc,.none,[]⟩
def Ni (o h:Int) (a:List Raw):List AV:=[.int .i64 o,.int .i64 h,.bQ mQ a]
def jSc (o h:Int) (a:List Raw) (o' h':Int) (b:List Raw) (r m:Nat) (i:Int):BB:=fJ X0 (cN S1 NS1 _) G1 r 42 pSc (oz Lp) m (j8 46 [(2,.ptr 0 0),(3,.ptr 1 0),(4,.bool false),(5,.int .i64 i)]) (ot [.cells 34 (Ni o h a),.cells 34 (Ni o' h' b)])
theorem R3 (o h:Int) (a:List Raw) (o' h':Int) (b:List Raw) (r m:Nat) (i:Int):jSc o h a o' h' b r (m+1) i =
 pick2 (ltI i a.length) (Option.rec (motive:=λ_=>BB) none (λx=>Option.rec (motive:=λ_=>BB) none (λy=>pick2 (Nat.ble x.2.2.2.1.length 900000) (pick2 (!u7 (α:=Raw) x y) FS (jSc o h a o' h' b r m (IntKind.wrap .i64 (i+1)))) none) (aS b i)) (aS a i)) TS':=by kernel_rfl
theorem Vi (o h:Int) (a:List Raw) (o' h':Int) (b:List Raw) (r:Nat):ag X0 (cN S1 NS1 _) G1 r 42 [.agg (Ni o h a),.agg (Ni o' h' b)] aa.empty (oz Lp) =
 pick2 (!eqI o o') FS (pick2 (!eqI h h') FS (pick2 (!eqI a.length b.length) FS (jSc o h a o' h' b r r 0))):=by kernel_rfl
def Vj (l:List Raw):Bool:=Nat.ble l.length 900000&&l.all (λr=>Nat.ble r.2.2.2.1.length 900000)
def Vk:List (Option Tv.Ty):=[none,none,some mQ]
def fSc (vs:List AV):Option (Bool×List AV) :=
 match sx [Vk,Vk] vs with
 |
  [.agg [.int .i64 o,.int .i64 h,L],.agg [.int .i64 o',.int .i64 h',L']]=>match EK mQ L,EK mQ L' with
  |some a,some b=>some (Vj a,[.bool (decide (o=o')&&decide (h=h')&&u7 (α:=List Raw) a b)])
  |_,_=>none
 |_=>none
theorem adU {a b:List Raw} (hok:Vj a=true) (o h o' h':Int):ag X0 (cN S1 NS1 _) G1 (a.length+1) 42 [.agg (Ni o h a),.agg (Ni o' h' b)] aa.empty (oz Lp)=some [.bool (decide (o=o')&&decide (h=h')&&u7 a b)]:=by
 unfold Vj at hok
 rw[Bool.and_eq_true,List.all_eq_true] at hok
 obtain ⟨h1,h2⟩:=hok
 have h1:=Nat.le_of_ble_eq_true h1
 rw[Vi,bz]
 by_cases ho:o=o'
 .
  rw[if_pos ho,bz,decide_eq_true ho];by_cases hh:h=h'
  .
   rw[if_pos hh,bz,decide_eq_true hh];by_cases hl:a.length=b.length
   .
    rw[if_pos (by omega)]
    have:=G0 (x:=a) (y:=b) (by omega) hl (ok:=λr=>Nat.ble r.2.2.2.1.length 900000) (F:=FS) (T:=TS') (j:=jSc o h a o' h' b (a.length+1)) (λm i x y hi hx hy hk=>by
     rw[R3,lQ hi,hx,hy];show pick2 (Nat.ble x.2.2.2.1.length 900000) _ none=_;rw[hk]) (λm=>by rw[R3,cz (by omega)]) a [] b (a.length+1) rfl rfl (by omega) h2
    have this:jSc o h a o' h' b (a.length+1) (a.length+1) 0=_:=this;rw[this];cases u7 a b<;>rfl
   rw[if_neg (by omega),wO (λe=>hl (by rw[e]))];rfl
  rw[if_neg hh,decide_eq_false hh];cases u7 a b<;>rfl
 rw[if_neg ho,decide_eq_false ho]
 cases u7 a b<;>rfl
theorem ZP:cA X0 eo 42 ⟨none,[none,none],gV fSc⟩ :=
 Ez rfl sy R2 [Vk,Vk] Lp λvs ws hf=>by
  unfold fSc at hf;split at hf
  case h_2=>cases hf
  rename_i o h L o' h' L' hv;split at hf
  case h_2=>cases hf
  rename_i a b ha hb;simp only[Option.some.injEq,Prod.mk.injEq] at hf;obtain ⟨g0,rfl⟩:=hf;refine ⟨rfl,G1,a.length+1,?_⟩;rw[hv,dI ha,dI hb];exact adU g0 o h o' h'
def NS2:List lS:=(42,⟨none,[none,none],gV fSc⟩)::NS1
theorem R4:dD X0 eo NS2:=.cons ZP R2
def HT (s:RS):List AV:=[.str s.lab,.int .i64 s.kind,.int .i64 s.sz,.int .i64 s.op,.int .i64 s.hint,.bQ mQ s.args,.bQ BA s.data,.bQ ek s.x,.bQ ek s.times]
def ZQ (a b:RS) (r m:Nat) (i:Int):BB:=fJ X0 (cN S1 NS2 _) G1 r 30 pSc (oz Lp) m (j8 94 [(2,.ptr 0 0),(3,.ptr 1 0),(4,.bool false),(5,.int .i64 i)]) (ot [.cells 38 (HT a),.cells 38 (HT b)])
theorem R5 (a b:RS) (r m:Nat) (i:Int):ZQ a b r (m+1) i =
 pick2 (ltI i a.data.length) (Option.rec (motive:=λ_=>BB) none (λx=>Option.rec (motive:=λ_=>BB) none (λy=>pick2 (!decide (x.1=y.1)) FS
  (Option.rec (motive:=λ_=>BB) none (λx=>Option.rec (motive:=λ_=>BB) none (λy=>pick2 (Nat.ble x.2.length 900000) (pick2 (!decide (x.2=y.2)) FS (ZQ a b r m (IntKind.wrap .i64 (i+1)))) none) (aS b.data i)) (aS a.data i))) (aS b.data i)) (aS a.data i)) TS':=by kernel_rfl
theorem Vl (a b:RS) (r:Nat):ag X0 (cN S1 NS2 _) G1 r 30 [.agg (HT a),.agg (HT b)] aa.empty (oz Lp) =
 pick2 (!decide (a.lab=b.lab)) FS (pick2 (!eqI a.kind b.kind) FS (pick2 (!eqI a.sz b.sz) FS (pick2 (Vj a.args) (pick2 (!(decide (a.op=b.op)&&decide (a.hint=b.hint)&&u7 a.args b.args)) FS (pick2 (!eqI a.data.length b.data.length) FS
  (pick2 (Nat.ble a.x.length 900000) (pick2 (!decide (a.x=b.x)) FS (pick2 (Nat.ble a.times.length 900000) (pick2 (!decide (a.times=b.times)) FS (ZQ a b r r 0)) none)) none))) none))):=by kernel_rfl
def JM (a b:RS):Bool:=decide (a.lab=b.lab)&&(decide (a.kind=b.kind)&&(decide (a.sz=b.sz)&&(decide (a.op=b.op)&&decide (a.hint=b.hint)&&u7 a.args b.args&&(u7 a.data b.data&&(decide (a.x=b.x)&&decide (a.times=b.times))))))
def Tb (s:RS):Bool:=Vj s.args&&(Nat.ble s.data.length 900000&&s.data.all (λd=>Nat.ble d.2.length 900000)&&(Nat.ble s.x.length 900000&&Nat.ble s.times.length 900000))
theorem adW {a b:RS} (hok:Tb a=true):ag X0 (cN S1 NS2 _) G1 (a.data.length+1) 30 [.agg (HT a),.agg (HT b)] aa.empty (oz Lp)=some [.bool (JM a b)]:=by
 unfold Tb at hok
 simp only[Bool.and_eq_true,List.all_eq_true] at hok
 obtain ⟨g1,⟨g2,g3⟩,g4,g5⟩:=hok
 have g2:=Nat.le_of_ble_eq_true g2
 have KO:a.data.length=b.data.length->ZQ a b (a.data.length+1) (a.data.length+1) 0=some [.bool (u7 a.data b.data)]:=λhl=>by
  have:=G0 (x:=a.data) (y:=b.data) (by omega) hl (ok:=λr=>Nat.ble r.2.length 900000) (F:=FS) (T:=TS') (j:=ZQ a b (a.data.length+1)) (λm i x y hi hx hy hk=>by
   rw[R5,lQ hi,hx,hy];show pick2 (!decide (x.1=y.1)) FS (pick2 (Nat.ble x.2.length 900000) (pick2 (!decide (x.2=y.2)) FS (ZQ a b (a.data.length+1) m (IntKind.wrap .i64 (i+1)))) none)=_;rw[hk];by_cases h1:x.1=y.1
   .
    rw[decide_eq_true h1];by_cases h2:x.2=y.2
    .
     rw[decide_eq_true h2,kD.2 (show x=y from Prod.ext h1 h2)];rfl
    rw[decide_eq_false h2,wO (λe=>h2 (by rw[e]))];rfl
   rw[decide_eq_false h1,wO (λe=>h1 (by rw[e]))];rfl) (λm=>by rw[R5,cz (by omega)]) a.data [] b.data (a.data.length+1) rfl rfl (by omega) g3
  have this:ZQ a b (a.data.length+1) (a.data.length+1) 0=_:=this;rw[this];cases u7 a.data b.data<;>rfl
 rw[Vl,g1,g4,g5]
 unfold JM
 by_cases h1:a.lab=b.lab
 .
  rw[decide_eq_true h1];show pick2 (!eqI a.kind b.kind) _ _=_;rw[bz];by_cases h2:a.kind=b.kind
  .
   rw[if_pos h2,decide_eq_true h2,bz];by_cases h3:a.sz=b.sz
   .
    rw[if_pos h3,decide_eq_true h3];cases h4:decide (a.op=b.op)&&decide (a.hint=b.hint)&&u7 a.args b.args with
    |false=>rfl
    |
     true =>
     show pick2 (!eqI a.data.length b.data.length) _ _=_;rw[bz];by_cases h5:a.data.length=b.data.length
     .
      rw[if_pos (by omega),KO h5]
      show pick2 (!decide (a.x=b.x)) FS (pick2 (!decide (a.times=b.times)) FS (some [AV.bool (u7 a.data b.data)]))=some [AV.bool (true&&(true&&(true&&(true&&(u7 a.data b.data&&(decide (a.x=b.x)&&decide (a.times=b.times)))))))];cases u7 a.data b.data<;>cases decide (a.x=b.x)<;>cases decide (a.times=b.times)<;>rfl
     rw[if_neg (by omega),wO (λe=>h5 (by rw[e]))];rfl
   rw[if_neg h3,decide_eq_false h3];rfl
  rw[if_neg h2,decide_eq_false h2];rfl
 rw[decide_eq_false h1];rfl
def G3:List (Option Tv.Ty):=[none,none,none,none,none,some mQ,some BA,some ek,some ek]
def Nj (A:List AV):Option RS:=match A with
 |
  [.str lab,.int .i64 kind,.int .i64 sz,.int .i64 op,.int .i64 hint,R,D,X,T]=>match EK mQ R,EK BA D,EK ek X,EK ek T with
  |some r,some d,some x,some t=>some ⟨0,lab,kind,sz,op,hint,r,d,x,t,0,0⟩
  |_,_,_,_=>none
 |_=>none
theorem rO {A:List AV} {s:RS} (h:Nj A=some s):A=HT s:=by
 unfold Nj at h
 split at h
 .
  split at h
  .
   rename_i r d x t h1 h2 h3 h4;cases h;rw[dI h1,dI h2,dI h3,dI h4];rfl
  cases h
 cases h
def fSs (vs:List AV):Option (Bool×List AV) :=
 match sx [G3,G3] vs with
 |
  [.agg A,.agg B]=>match Nj A,Nj B with
  |some a,some b=>some (Tb a,[.bool (JM a b)])
  |_,_=>none
 |_=>none
theorem ZR:cA X0 eo 30 ⟨none,[none,none],gV fSs⟩ :=
 Ez rfl sy R4 [G3,G3] Lp λvs ws hf=>by
  unfold fSs at hf;split at hf
  case h_2=>cases hf
  rename_i A B hv;split at hf
  case h_2=>cases hf
  rename_i a b ha hb;simp only[Option.some.injEq,Prod.mk.injEq] at hf;obtain ⟨g0,rfl⟩:=hf;refine ⟨rfl,G1,a.data.length+1,?_⟩;rw[hv,rO ha,rO hb];exact adW g0
def JN:List lS:=(30,⟨none,[none,none],gV fSs⟩)::NS2
theorem tI:dD X0 eo JN:=.cons ZR R4
end
end Go.Proofs.YtpaddkkfefgkfaaGreatDoor.ps

namespace Go.Proofs.YtpaddkkfefgkfaaGreatDoor.ps
open Go.Tv Go.Ev Go.Px Go.Pp Go.Proofs.YtpaddkkfefgkfaaGreatDoor.ex
set_option maxRecDepth 100000
noncomputable section
theorem o8 (l:List Tok) (a:Int):(ai l a).1.length<=200:=by
 obtain ⟨⟨y,e,f,g⟩,hr⟩:=o6 (nm:=bf) l a
 have e1:ai l a=(y,e,f,g):=by unfold ai;rw[hr];rfl
 rw[e1]
 by_cases hf:f=0
 .
  have h:=((uP hr).2 hf).1;unfold MU at h;split at h
  .
   cases h
  show y.length<=200;omega
 have h:=((uP hr).1 hf).1
 show y.length<=200
 rw[h];simp
theorem C5 (l:List Tok) (op sz:Int):(fU l op sz).1.2.2.2.1.length<=200:=by
 unfold fU
 split
 .
  split
  .
   simp[bY,xT]
  split
  .
   exact o8 _ _
  simp[bY,xT]
 split
 .
  simp[bY,xT]
 rename_i en _
 generalize fT l op en NZ=o
 unfold tF
 split
 .
  simp[bY,xT]
 split
 .
  split<;>simp[bY,xT,UU]
 split
 .
  simp[bY,xT]
 split
 .
  simp[bY,xT]
 split
 .
  exact o8 _ _
 simp[bY,xT]
theorem G5 (l:List Tok) (a:Int):(au l a).1.2.2.2.1.length<=200:=by
 have GQ:(xU (ai l a)).1.2.2.2.1.length<=200:=by
  unfold xU;split
  .
   simp[bY,xT]
  exact o8 _ _
 unfold au
 split
 .
  simp[bY,xT]
 split
 .
  exact GQ
 split
 .
  simp[adw]
 split
 .
  split
  .
   exact C5 _ _ _
  simp[bY,xT]
 split
 .
  exact C5 _ _ _
 exact GQ
theorem ZS (op:Int) (w:Raw):(xW op w).2.2.2.1=w.2.2.2.1:=by unfold xW;split<;>rfl
def AH (l:List Raw):Prop:=l.length<=4/\∀r∈l,r.2.2.2.1.length<=200
theorem R6 (l:List Tok) (op hint:Int):∀(m:Nat) (a:Int) (args:List Raw) (c:xV),args.length<=3->(∀r∈args,r.2.2.2.1.length<=200)->GP l op hint m a args=some c->AH c.2.2.1
 |0,_,_,_,_,_,h=>by cases h
 |
  m+1,a,args,c,h1,h2,h=>by
  have hr:∀r∈args++[xW op (au l a).1],r.2.2.2.1.length<=200:=λr hr=>by
   rcases List.mem_append.1 hr with hr|hr
   .
    exact h2 r hr
   rw[List.mem_singleton.1 hr,ZS];exact G5 _ _
  have hn:AH []:=⟨by simp,by simp⟩
  unfold GP at h;split at h
  .
   cases h;exact hn
  split at h
  .
   cases h;exact ⟨by simp;omega,hr⟩
  split at h
  .
   cases h;exact hn
  split at h
  .
   cases h;exact hn
  exact R6 l op hint m _ _ c (by simp;omega) hr h
theorem xF (l:List Tok) (a:Int):AH (aJ l a).2.2.1:=by
 have hn:AH []:=⟨by simp,by simp⟩
 unfold aJ
 split
 .
  exact hn
 split
 .
  exact hn
 unfold M9
 generalize (if lz l a=0 then a+1 else a+2)=b
 by_cases hb:b=(l.length:Int)
 .
  rw[if_pos hb];exact hn
 rw[if_neg hb]
 cases hc:GP l (CM l a).1 (lz l a) 5 b [] with
 |none=>exact hn
 |some c=>exact R6 l _ _ _ _ _ _ (by simp) (by simp) hc
structure Gd (s:RS):Prop where
 ar:AH s.args
 dl:s.data.length<=64
 dx:∀d∈s.data,d.2.length<=200
 xl:s.x.length<=200
 tl:s.times.length<=200
section
variable {n:Int} {l:List Tok}
theorem gW {s:RS} {e i:Int} (h:Gd s):Gd (cy n l s e i).2:=⟨h.ar,h.dl,h.dx,h.xl,h.tl⟩
theorem Lq {s:RS} {go:List Nd->Int->LR} (h:Gd s) (hg:∀x e,x.length<=200->Gd (go x e).2):Gd (HS n l s go).2:=by
 unfold HS
 split
 .
  exact gW h
 exact hg _ _ (o8 _ _)
theorem JO {fin:Bool} {J:RS->LR} {s:RS} (h:Gd s) (hJ:Gd (J { s with a:=s.a+1 }).2):Gd (xX n l fin J s).2:=by
 unfold xX
 split
 .
  exact h
 split
 .
  exact hJ
 exact gW h
theorem rP {s:RS} {a:Int} {d:Dt} (h:Gd s) (hl:s.data.length<=63) (hd:d.2.length<=200):Gd { s with a:=a,data:=s.data++[d] } :=
 ⟨h.ar,by simp;omega,λx hx=>by
  rcases List.mem_append.1 hx with hx|hx
  .
   exact h.dx x hx
  rw[List.mem_singleton.1 hx];exact hd,h.xl,h.tl⟩
theorem Lr {s:RS} {a:Int} (h:Gd s):Gd { s with a:=a }:=⟨h.ar,h.dl,h.dx,h.xl,h.tl⟩
theorem R7:∀(m:Nat) (s:RS),Gd s->Gd (Lf n l m s).2
 |0,s,h=>h
 |
  m+1,s,h=>by
  have hl:=h.dl;unfold Lf;split
  .
   exact gW h
  split
  .
   exact JO (rP h (by omega) (by simp)) (R7 m _ (Lr (rP h (by omega) (by simp))))
  exact Lq h λx e hx=>JO (rP h (by omega) hx) (R7 m _ (Lr (rP h (by omega) hx)))
theorem WH:∀(m:Nat) (s:RS),Gd s->s.data.length<=3->Gd (Ta n l m s).2
 |0,s,h,_=>h
 |
  m+1,s,h,hl=>by
  unfold Ta;split
  .
   exact gW h
  exact Lq h λx e hx=>JO (rP h (by omega) hx) (WH m _ (Lr (rP h (by omega) hx)) (by show (s.data++[([],x)]).length<=3;simp;omega))
theorem JP {i:Int} {s:RS} {k:RS->LR} (h:Gd s) (hk:∀t,Gd (k { s with lab:=t }).2):Gd (rY n l i s k).2:=by
 unfold rY
 split
 .
  exact gW h
 split
 .
  exact gW h
 exact hk _
theorem JQ {s:RS} (h:Gd s):Gd (uZ n l s).2:=by
 unfold uZ
 split
 .
  exact h
 exact gW h
theorem yx {kind:Int} {s:RS} (h:Gd s):Gd (qT n l kind s).2 :=
 Lq (s:={ s with kind:=kind }) ⟨h.ar,h.dl,h.dx,h.xl,h.tl⟩ λx e hx=>JQ ⟨h.ar,h.dl,h.dx,hx,h.tl⟩
theorem Vm {w:List UInt8} {s:RS} (h:Gd s) (hd:s.data=[]):Gd (dh n l w s).2:=by
 unfold dh
 split
 .
  exact R7 _ _ ⟨h.ar,h.dl,h.dx,h.xl,h.tl⟩
 split
 .
  exact yx ⟨h.ar,h.dl,h.dx,h.xl,h.tl⟩
 split
 .
  exact yx ⟨h.ar,h.dl,h.dx,h.xl,h.tl⟩
 split
 .
  exact yx ⟨h.ar,h.dl,h.dx,h.xl,h.tl⟩
 split
 .
  exact JP ⟨h.ar,h.dl,h.dx,h.xl,h.tl⟩ λt=>JQ ⟨h.ar,h.dl,h.dx,h.xl,h.tl⟩
 split
 .
  exact JQ ⟨h.ar,h.dl,h.dx,h.xl,h.tl⟩
 split
 .
  exact WH _ _ ⟨h.ar,h.dl,h.dx,h.xl,h.tl⟩ (by show s.data.length<=3;rw[hd];simp)
 split
 .
  unfold RH;split
  .
   exact gW h
  exact ⟨xF _ _,h.dl,h.dx,h.xl,h.tl⟩
 exact gW h
theorem Ls {aR:Bool} {s:RS} (h:Gd s) (hd:s.data=[]):Gd (gZ n l aR s).2:=by
 unfold gZ
 split
 .
  split
  .
   exact gW h
  exact h
 split
 .
  exact gW h
 unfold Et
 split
 .
  exact gW h
 split
 .
  exact gW h
 exact Vm h hd
theorem G6 {s:RS} (h:Gd s) (hd:s.data=[]):Gd (fW n l s).2:=by
 unfold fW
 split
 .
  exact Lq (Lr h) λx e hx=>Ls ⟨h.ar,h.dl,h.dx,h.xl,hx⟩ hd
 exact Ls h hd
theorem ZT:Gd ei:=⟨⟨by simp[ei],by simp[ei]⟩,by simp[ei],by simp[ei],by simp[ei],by simp[ei]⟩
theorem Vn:Gd (cF n l ei).2:=by
 have h:=ZT
 unfold cF
 split
 .
  exact JP h λt=>yx ⟨h.ar,h.dl,h.dx,h.xl,h.tl⟩
 split
 .
  exact JP h λt=>G6 ⟨h.ar,h.dl,h.dx,h.xl,h.tl⟩ rfl
 exact G6 h rfl
end
theorem Vo (s:List UInt8):Gd (ck s).1:=by
 unfold ck
 split
 .
  exact ZT
 split
 .
  exact Vn
 exact ZT
theorem adX {s:RS} (h:Gd s):Tb s=true:=by
 obtain ⟨⟨h1,h2⟩,h3,h4,h5,h6⟩:=h
 unfold Tb Vj
 simp only[Bool.and_eq_true,List.all_eq_true]
 exact ⟨⟨cP (by omega),λr hr=>cP (by have:=h2 r hr;omega)⟩,⟨cP (by omega),λd hd=>cP (by have:=h4 d hd;omega)⟩,cP (by omega),cP (by omega)⟩
theorem yz (s:List UInt8):Tb (ck s).1=true:=adX (Vo s)
def xG (s:List UInt8) (b:RS):Bool:=decide ((ck s).2.1=0)&&JM (ck s).1 b
def R8 (s:List UInt8) (e a:Int):Bool:=JM (ck s).1 ei&&(decide ((ck s).2.1=e)&&decide ((ck s).2.2=a))
theorem ZU (s:List UInt8) (b:RS):ag X0 (cN S1 JN _) dc 5 18 [.str s,.agg (HT b)] aa.empty (oz Lp)=pick2 (eqI (ck s).2.1 0) (pick2 (Tb (ck s).1) (some [.bool (JM (ck s).1 b)]) none) (some [.bool false]):=by kernel_rfl
theorem ZV (s:List UInt8) (e a:Int):ag X0 (cN S1 JN _) dc 5 17 [.str s,.int .i64 e,.int .i64 a] aa.empty (oz Lp)=pick2 (Tb (ck s).1) (pick2 (JM (ck s).1 ei) (some [.bool (decide ((ck s).2.1=e)&&decide ((ck s).2.2=a))]) (some [.bool false])) none:=by kernel_rfl
def fSy (vs:List AV):Option (Bool×List AV) :=
 match sx [[none],G3] vs with
 |
  [.str s,.agg B]=>match Nj B with
  |some b=>some (true,[.bool (xG s b)])
  |none=>none
 |_=>none
theorem R9:cA X0 eo 18 ⟨none,[none,none],gV fSy⟩ :=
 Ez rfl sy tI [[none],G3] Lp λvs ws hf=>by
  unfold fSy at hf;split at hf
  case h_2=>cases hf
  rename_i s B hv;split at hf
  case h_2=>cases hf
  rename_i b hb;simp only[Option.some.injEq,Prod.mk.injEq] at hf;obtain ⟨_,rfl⟩:=hf;refine ⟨rfl,dc,5,?_⟩;rw[hv,rO hb,ZU,yz,aH];unfold xG;by_cases h:(ck s).2.1=0
  .
   rw[if_pos h,decide_eq_true h];rfl
  rw[if_neg h,decide_eq_false h];rfl
def fFl (vs:List AV):Option (Bool×List AV) :=
 match vs with
 |[.str s,.int .i64 e,.int .i64 a]=>some (true,[.bool (R8 s e a)])
 |_=>none
theorem Nk:cA X0 eo 17 ⟨none,[none,none,none],gV fFl⟩ :=
 GN rfl sy tI Lp λvs ws hf=>by
  unfold fFl at hf;split at hf
  case h_2=>cases hf
  rename_i s e a;simp only[Option.some.injEq,Prod.mk.injEq] at hf;obtain ⟨_,rfl⟩:=hf;refine ⟨rfl,dc,5,?_⟩;rw[ZV,yz];unfold R8;cases JM (ck s).1 ei<;>rfl
def NS4:List lS:=(18,⟨none,[none,none],gV fSy⟩)::(17,⟨none,[none,none,none],gV fFl⟩)::JN
theorem ahf:dD X0 eo NS4:=.cons R9 (.cons Nk tI)
end
end Go.Proofs.YtpaddkkfefgkfaaGreatDoor.ps

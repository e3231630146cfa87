/- A line that is written: is it the same as what is read? Contracts of slices.Equal, EqualFunc, same. -/
import Derived.Test.YtpaddkkfefgkfaaGreatDoorKc
set_option linter.unusedVariables false
set_option linter.unusedSimpArgs false
namespace Go.Proofs.YtpaddkkfefgkfaaGreatDoor.ps.wr
open Go.Tv Go.Ev Go.Px Go.Pp Go.Proofs.YtpaddkkfefgkfaaGreatDoor.ex
set_option maxRecDepth 100000
noncomputable section
def pEq:List Bool:=[true,true,false,true,false]
def aav:bG:=⟨dG [0,1,12,13] pEq,.none,[]⟩
def jEq (x y:List Nd) (r m:Nat) (i:Int):Option AV:=dH ex.X0 (cN K1 [] AV) aav r 125 pEq (λv _=>some v) m (hU 26 [(0,.bF bB x),(1,.bF bB y),(12,.int .i64 x.length),(13,.int .i64 i)]) (kC [])
def Be (x y:Nd):Bool:=decide (x.1=y.1)&&(decide (x.2.1=y.2.1)&&(decide (x.2.2.1=y.2.2.1)&&(decide (x.2.2.2.1=y.2.2.2.1)&&decide (x.2.2.2.2=y.2.2.2.2))))
theorem RI (x y:List Nd) (r m:Nat) (i:Int):jEq x y r (m+1) i=pick2 (ltI i x.length) (Option.rec (motive:=λ_=>Option AV) none (λa=>Option.rec (motive:=λ_=>Option AV) none (λb=>pick2 (!Be a b) (some (.bool false)) (jEq x y r m (IntKind.wrap .i64 (i+1)))) (aI y i)) (aI x i)) (some (.bool true)):=by kernel_rfl
theorem Va (x y:List Nd) (r:Nat):ag ex.X0 (cN K1 [] AV) aav r 125 [.bF bB x,.bF bB y] aa.empty (λv _=>some v)=pick2 (!eqI x.length y.length) (some (.bool false)) (jEq x y r r 0):=by kernel_rfl
theorem aaw (x y:Nd):Be x y=kZ x y:=by
 obtain ⟨a,b,c,d,e⟩:=x
 obtain ⟨a',b',c',d',e'⟩:=y
 rw[Bool.eq_iff_iff,fe]
 simp[Be]
def gEq (args:List AV):Option (Bool×List bA) :=
 match args with
 |
  [L,R]=>match sM bB L,sM bB R with
  |some x,some y=>some (Nat.ble x.length 900000,[.val (.bool (kZ x y))])
  |_,_=>none
 |_=>none
theorem aax:aO ex.X0 cg 125 gEq :=
 aJ (nk rfl) (cV rU n0) λargs rs hg=>by
  unfold gEq at hg;split at hg
  case h_2=>cases hg
  split at hg
  case h_2=>cases hg
  rename_i x y hx hy;have e1:=bq hx;have e2:=bq hy;subst e1;subst e2;simp only[Option.some.injEq,Prod.mk.injEq] at hg;obtain ⟨h1,rfl⟩:=hg;have h1:=Nat.le_of_ble_eq_true h1;refine ⟨[.bool (kZ x y)],aav,x.length+1,?_,rfl,rfl⟩;rw[Va,aG];by_cases h:x.length=y.length
  .
   rw[if_pos (by omega)]
   have:=qC (x:=x) (y:=y) (by omega) h (ok:=λ_=>true) (F:=some (AV.bool false)) (T:=some (AV.bool true)) (j:=jEq x y (x.length+1)) (λm i a b hi ha hb _=>by
    rw[RI,kW hi,ha,hb];show pick2 (!Be a b) _ _=_;rw[aaw]) (λm=>by rw[RI,cF (by omega)]) x [] y (x.length+1) rfl rfl (by omega) (λ_ _=>rfl)
   have this:jEq x y (x.length+1) (x.length+1) 0=_:=this;rw[this];cases kZ x y<;>rfl
  rw[if_neg (by omega),js (λe=>h (by rw[e]))];rfl
def K2:List nY:=(125,[some bB,some bB],gEq)::K1
theorem GS:cr ex.X0 cg K2:=.cons aax rU
theorem Vb (a b:Raw):ag ex.X0 (cN K2 [] _) bV 5 122 [.agg (GA a),.agg (GA b)] aa.empty (gM ri) =
 pick2 (eqI a.1 b.1) (pick2 (decide (a.2.1.1=b.2.1.1)&&decide (a.2.1.2=b.2.1.2)) (pick2 (decide (a.2.2.1.1.1=b.2.2.1.1.1)&&(decide (a.2.2.1.1.2=b.2.2.1.1.2)&&(decide (a.2.2.1.2.1.1=b.2.2.1.2.1.1)&&(decide (a.2.2.1.2.1.2=b.2.2.1.2.1.2)&&(decide (a.2.2.1.2.2.1=b.2.2.1.2.2.1)&&(decide (a.2.2.1.2.2.2.1=b.2.2.1.2.2.2.1)&&decide (a.2.2.1.2.2.2.2=b.2.2.1.2.2.2.2)))))))
  (pick2 (a.2.2.2.2==b.2.2.2.2) (pick2 (Nat.ble a.2.2.2.1.length 900000) (some [.bool (kZ a.2.2.2.1 b.2.2.2.1)]) none) (some [.bool false])) (some [.bool false])) (some [.bool false])) (some [.bool false]):=by kernel_rfl
theorem Vc:bh ex.X0 cg 122 ⟨none,[none,none],gV fSr⟩ :=
 nH rfl GS n0 [MN,MN] ri λvs ws hf=>by
  unfold fSr at hf;split at hf
  case h_2=>cases hf
  rename_i A B hv;split at hf
  case h_2=>cases hf
  rename_i a b ha hb;simp only[Option.some.injEq,Prod.mk.injEq] at hf;obtain ⟨g0,rfl⟩:=hf;refine ⟨rfl,bV,5,?_⟩;rw[hv,mH ha,mH hb,Vb,g0];obtain ⟨k,⟨c,n⟩,⟨⟨bc,bn⟩,⟨ic,ix⟩,sc,d,z⟩,x,r⟩:=a;obtain ⟨k',⟨c',n'⟩,⟨⟨bc',bn'⟩,⟨ic',ix'⟩,sc',d',z'⟩,x',r'⟩:=b;simp only[pick2_eq,eqI_spec,beq_iff_eq,Bool.and_eq_true,decide_eq_true_eq,if_true];by_cases h:(k,(c,n),((bc,bn),(ic,ix),sc,d,z),x,r)=((k',(c',n'),((bc',bn'),(ic',ix'),sc',d',z'),x',r'):Raw)
  .
   rw[fe.2 h];cases h;simp[GI]
  rw[js h]
  repeat' split
  all_goals first|rfl|skip
  rename_i h1 h2 h3 h4
  have:kZ x x'=false:=js λhx=>by
   apply h;obtain ⟨rfl,rfl⟩:=h2;obtain ⟨rfl,rfl,rfl,rfl,rfl,rfl,rfl⟩:=h3;rw[h1,h4,hx]
  rw[this]
def dtA (d:Dt):List AV:=[.str d.1,.bF bB d.2]
def Vd (A:List AV):Option Dt:=match A with
 |
  [.str s,X]=>match sM bB X with
  |some x=>some (s,x)
  |none=>none
 |_=>none
theorem CH {A:List AV} {d:Dt} (h:Vd A=some d):A=dtA d:=by
 unfold Vd at h
 split at h
 .
  split at h
  .
   rename_i x hx;cases h;rw[bq hx];rfl
  cases h
 cases h
def Ve:List (Option Tv.Ty):=[none,some bB]
theorem Vf (a b:Dt):ag ex.X0 (cN K2 [] _) bV 5 124 [.agg (dtA a),.agg (dtA b)] aa.empty (gM ri) =
 pick2 (decide (a.1=b.1)) (pick2 (Nat.ble a.2.length 900000) (some [.bool (kZ a.2 b.2)]) none) (some [.bool false]):=by kernel_rfl
def aay (vs:List AV):Option (Bool×List AV) :=
 match og [Ve,Ve] vs with
 |
  [.agg A,.agg B]=>match Vd A,Vd B with
  |some a,some b=>some (Nat.ble a.2.length 900000,[.bool (kZ a b)])
  |_,_=>none
 |_=>none
theorem Vg:bh ex.X0 cg 124 ⟨none,[none,none],gV aay⟩ :=
 nH rfl GS n0 [Ve,Ve] ri λvs ws hf=>by
  unfold aay at hf;split at hf
  case h_2=>cases hf
  rename_i A B hv;split at hf
  case h_2=>cases hf
  rename_i a b ha hb;simp only[Option.some.injEq,Prod.mk.injEq] at hf;obtain ⟨g0,rfl⟩:=hf;refine ⟨rfl,bV,5,?_⟩;rw[hv,CH ha,CH hb,Vf,g0];by_cases h1:a.1=b.1
  .
   rw[decide_eq_true h1];by_cases h2:a.2=b.2
   .
    rw[fe.2 h2,fe.2 (show a=b from Prod.ext h1 h2)]
   rw[js h2,js (λe=>h2 (by rw[e]))]
  rw[decide_eq_false h1,show kZ a b=false from js (λe=>h1 (by rw[e]))]
def NE1:List gJ:=(122,⟨none,[none,none],gV fSr⟩)::(124,⟨none,[none,none],gV aay⟩)::[]
theorem Jw:bS ex.X0 cg NE1:=.cons Vc (.cons Vg .nil)
def MR:bG:=⟨dG [1,2,15,16,17] pEq,.none,[]⟩
abbrev fnA (f:FuncId):AV:=.fn f [] []
def jEr (x y:List Raw) (r m:Nat) (i:Int):kO:=dH ex.X0 (cN K2 NE1 _) MR r 121 pEq (gM ri) m (hU 32 [(1,.bF fQ y),(2,fnA 122),(15,.bF fQ x),(16,.int .i64 x.length),(17,.int .i64 i)]) (kC [])
theorem RJ (x y:List Raw) (r m:Nat) (i:Int):jEr x y r (m+1) i =
 pick2 (ltI i x.length) (Option.rec (motive:=λ_=>kO) none (λa=>Option.rec (motive:=λ_=>kO) none (λb=>pick2 (Nat.ble a.2.2.2.1.length 900000) (pick2 (!kZ (α:=Raw) a b) FS (jEr x y r m (IntKind.wrap .i64 (i+1)))) none) (aI y i)) (aI x i)) TS':=by kernel_rfl
theorem Vh (x y:List Raw) (r:Nat):ag ex.X0 (cN K2 NE1 _) MR r 121 [.bF fQ x,.bF fQ y,fnA 122] aa.empty (gM ri)=pick2 (!eqI x.length y.length) FS (jEr x y r r 0):=by kernel_rfl
def fEr (vs:List AV):Option (Bool×List AV) :=
 match vs with
 |
  [L,R,.fn f [] []]=>match sM fQ L,sM fQ R with
  |some x,some y=>some (SH x&&Nat.beq f 122,[.bool (kZ x y)])
  |_,_=>none
 |_=>none
theorem aaz:bh ex.X0 cg 121 ⟨none,[none,none,none],gV fEr⟩ :=
 Ab rfl GS Jw ri λvs ws hf=>by
  unfold fEr at hf;split at hf
  case h_2=>cases hf
  split at hf
  case h_2=>cases hf
  rename_i x y hx hy;simp only[Option.some.injEq,Prod.mk.injEq,Bool.and_eq_true] at hf;obtain ⟨⟨hok,V0⟩,rfl⟩:=hf;obtain rfl:=Nat.eq_of_beq_eq_true V0;unfold SH at hok;rw[Bool.and_eq_true,List.all_eq_true] at hok;obtain ⟨h1,h2⟩:=hok;have h1:=Nat.le_of_ble_eq_true h1;refine ⟨rfl,MR,x.length+1,?_⟩;rw[bq hx,bq hy];refine (Vh x y (x.length+1)).trans ?_;rw[aG];by_cases h:x.length=y.length
  .
   rw[if_pos (by omega)]
   have:=qC (x:=x) (y:=y) (by omega) h (ok:=λr=>Nat.ble r.2.2.2.1.length 900000) (F:=FS) (T:=TS') (j:=jEr x y (x.length+1)) (λm i a b hi ha hb hk=>by
    rw[RJ,kW hi,ha,hb];show pick2 (Nat.ble a.2.2.2.1.length 900000) _ none=_;rw[hk]) (λm=>by rw[RJ,cF (by omega)]) x [] y (x.length+1) rfl rfl (by omega) h2
   have this:jEr x y (x.length+1) (x.length+1) 0=_:=this;rw[this];cases kZ x y<;>rfl
  rw[if_neg (by omega),js (λe=>h (by rw[e]))];rfl
def jEd (x y:List Dt) (r m:Nat) (i:Int):kO:=dH ex.X0 (cN K2 NE1 _) MR r 123 pEq (gM ri) m (hU 32 [(1,.bF ot y),(2,fnA 124),(15,.bF ot x),(16,.int .i64 x.length),(17,.int .i64 i)]) (kC [])
theorem RK (x y:List Dt) (r m:Nat) (i:Int):jEd x y r (m+1) i =
 pick2 (ltI i x.length) (Option.rec (motive:=λ_=>kO) none (λa=>Option.rec (motive:=λ_=>kO) none (λb=>pick2 (Nat.ble a.2.length 900000) (pick2 (!kZ (α:=Dt) a b) FS (jEd x y r m (IntKind.wrap .i64 (i+1)))) none) (aI y i)) (aI x i)) TS':=by kernel_rfl
theorem Vi (x y:List Dt) (r:Nat):ag ex.X0 (cN K2 NE1 _) MR r 123 [.bF ot x,.bF ot y,fnA 124] aa.empty (gM ri)=pick2 (!eqI x.length y.length) FS (jEd x y r r 0):=by kernel_rfl
def okD (l:List Dt):Bool:=Nat.ble l.length 900000&&l.all (λd=>Nat.ble d.2.length 900000)
def fEd (vs:List AV):Option (Bool×List AV) :=
 match vs with
 |
  [L,R,.fn f [] []]=>match sM ot L,sM ot R with
  |some x,some y=>some (okD x&&Nat.beq f 124,[.bool (kZ x y)])
  |_,_=>none
 |_=>none
theorem aaA:bh ex.X0 cg 123 ⟨none,[none,none,none],gV fEd⟩ :=
 Ab rfl GS Jw ri λvs ws hf=>by
  unfold fEd at hf;split at hf
  case h_2=>cases hf
  split at hf
  case h_2=>cases hf
  rename_i x y hx hy;simp only[Option.some.injEq,Prod.mk.injEq,Bool.and_eq_true] at hf;obtain ⟨⟨hok,V0⟩,rfl⟩:=hf;obtain rfl:=Nat.eq_of_beq_eq_true V0;unfold okD at hok;rw[Bool.and_eq_true,List.all_eq_true] at hok;obtain ⟨h1,h2⟩:=hok;have h1:=Nat.le_of_ble_eq_true h1;refine ⟨rfl,MR,x.length+1,?_⟩;rw[bq hx,bq hy];refine (Vi x y (x.length+1)).trans ?_;rw[aG];by_cases h:x.length=y.length
  .
   rw[if_pos (by omega)]
   have:=qC (x:=x) (y:=y) (by omega) h (ok:=λd=>Nat.ble d.2.length 900000) (F:=FS) (T:=TS') (j:=jEd x y (x.length+1)) (λm i a b hi ha hb hk=>by
    rw[RK,kW hi,ha,hb];show pick2 (Nat.ble a.2.length 900000) _ none=_;rw[hk]) (λm=>by rw[RK,cF (by omega)]) x [] y (x.length+1) rfl rfl (by omega) h2
   have this:jEd x y (x.length+1) (x.length+1) 0=_:=this;rw[this];cases kZ x y<;>rfl
  rw[if_neg (by omega),js (λe=>h (by rw[e]))];rfl
def NE2:List gJ:=(121,⟨none,[none,none,none],gV fEr⟩)::(123,⟨none,[none,none,none],gV fEd⟩)::NE1
theorem aaB:bS ex.X0 cg NE2:=.cons aaz (.cons aaA Jw)
end
end Go.Proofs.YtpaddkkfefgkfaaGreatDoor.ps.wr

/- What is said held against what is wanted: nodes. What is said held against what is wanted: contracts of values, instructions. What is said held against what is wanted: contracts of instructions, statements. What a line says is not too long; contracts of says and fails. -/
import Derived.Test.YtpaddkkfefgkfaaGreatDoorGrg
set_option linter.unusedVariables false
set_option linter.unusedSimpArgs false

namespace Go.Proofs.YtpaddkkfefgkfaaGreatDoor.ps
open Go.Tv Go.Ev Go.Px Go.Pp Go.Proofs.YtpaddkkfefgkfaaGreatDoor.ex
set_option maxRecDepth 100000
noncomputable section
def Be (x y:Nd):Bool:=decide (x.1=y.1)&&(decide (x.2.1=y.2.1)&&(decide (x.2.2.1=y.2.2.1)&&(decide (x.2.2.2.1=y.2.2.2.1)&&decide (x.2.2.2.2=y.2.2.2.2))))
theorem GH (x y:Nd):Be x y=true↔x=y:=by
 obtain ⟨a,b,c,d,e⟩:=x
 obtain ⟨a',b',c',d',e'⟩:=y
 simp[Be]
def pSn:List Bool:=[true,true,false,true,false]
def ZK:bG:=⟨dG [0,1,4,5] pSn,.none,[]⟩
def jSn (x y:List Nd) (r m:Nat) (i:Int):Option AV:=dH X0 (cN P3 [] AV) ZK r 66 pSn (λv _=>some v) m (hU 26 [(0,.bF bB x),(1,.bF bB y),(4,.bool false),(5,.int .i64 i)]) (kC [])
theorem Rq (x y:List Nd) (r m:Nat) (i:Int):jSn x y r (m+1) i=pick2 (ltI i x.length) (Option.rec (motive:=λ_=>Option AV) none (λa=>Option.rec (motive:=λ_=>Option AV) none (λb=>pick2 (!Be a b) (some (.bool false)) (jSn x y r m (IntKind.wrap .i64 (i+1)))) (aI y i)) (aI x i)) (some (.bool true)):=by kernel_rfl
theorem UT (x y:List Nd) (r:Nat):ag X0 (cN P3 [] AV) ZK r 66 [.bF bB x,.bF bB y] aa.empty (λv _=>some v)=pick2 (!eqI x.length y.length) (some (.bool false)) (jSn x y r r 0):=by kernel_rfl
theorem ZL (x y:List Nd) (hx:x.length<1000000) (hxy:x.length=y.length) (r:Nat):∀(rest pre:List Nd) (rest':List Nd) (m:Nat),x=pre++rest->y.drop pre.length=rest'->rest.length<m->jSn x y r m pre.length=some (.bool (decide (rest=rest'))):=by
 intro rest
 induction rest with
 |
  nil =>
  intro pre rest' m he hy hm;obtain ⟨m,rfl⟩:∃m',m=m'+1:=⟨m-1,by simp at hm;omega⟩
  have hl:x.length=pre.length:=by rw[he];simp
  have:rest'=[]:=by rw[<-hy,List.drop_eq_nil_iff];omega
  subst this;rw[Rq,cF (by omega)];rfl
 |
  cons a rest ih =>
  intro pre rest' m he hy hm;obtain ⟨m,rfl⟩:∃m',m=m'+1:=⟨m-1,by simp at hm;omega⟩
  have hl:x.length=pre.length+(rest.length+1):=by rw[he];simp
  have hg:aI x (pre.length:Int)=some a:=by rw[he];exact ei pre rest a
  have hlt:pre.length<y.length:=by omega
  have hg2:aI y (pre.length:Int)=some y[pre.length]:=by rw[mq,List.getElem?_eq_getElem hlt]
  have hr:rest'=y[pre.length]::y.drop (pre.length+1):=by rw[<-hy];exact List.drop_eq_getElem_cons hlt
  have hin:=ih (pre++[a]) (y.drop (pre.length+1)) m (by rw[he];simp) (by simp) (by simp at hm;omega)
  rw[List.length_append] at hin;have hin:jSn x y r m ((pre.length:Int)+1)=some (.bool (decide (rest=y.drop (pre.length+1)))):=hin;rw[Rq,kW (by omega),hg,hg2,i64_in (n:=(pre.length:Int)+1) (by omega) (by omega)]
  show pick2 (!Be a y[pre.length]) (some (.bool false)) (jSn x y r m ((pre.length:Int)+1))=_;rw[hin,hr];cases he:Be a y[pre.length] with
  |
   true =>
   have:=(GH _ _).1 he;show some (AV.bool _)=_;rw[<-this];simp
  |
   false =>
   have hne:a≠y[pre.length]:=λh=>by rw[(GH _ _).2 h] at he;cases he
   show some (AV.bool false)=_;rw[decide_eq_false (λh=>hne (List.cons.inj h).1)]
def gSn (args:List AV):Option (Bool×List bA) :=
 match args with
 |
  [L,R]=>match sM bB L,sM bB R with
  |some x,some y=>some (Nat.ble x.length 900000,[.val (.bool (decide (x=y)))])
  |_,_=>none
 |_=>none
theorem ZM:aO X0 cg 66 gSn :=
 aJ (nk rfl) (cV Ag n0) λargs rs hg=>by
  unfold gSn at hg;split at hg
  case h_2=>cases hg
  split at hg
  case h_2=>cases hg
  rename_i x y hx hy;have e1:=bq hx;have e2:=bq hy;subst e1;subst e2;simp only[Option.some.injEq,Prod.mk.injEq] at hg;obtain ⟨h1,rfl⟩:=hg;have h1:=Nat.le_of_ble_eq_true h1;refine ⟨[.bool (decide (x=y))],ZK,x.length+1,?_,rfl,rfl⟩;rw[UT,aG];by_cases h:x.length=y.length
  .
   rw[if_pos (by omega)]
   exact ZL x y (by omega) h _ x [] y _ rfl rfl (by omega)
  rw[if_neg (by omega),decide_eq_false (λe=>h (by rw[e]))];rfl
def S1:List nY:=(66,[some bB,some bB],gSn)::P3
theorem CF:cr X0 cg S1:=.cons ZM Ag
end
end Go.Proofs.YtpaddkkfefgkfaaGreatDoor.ps

namespace Go.Proofs.YtpaddkkfefgkfaaGreatDoor.ps
open Go.Tv Go.Ev Go.Px Go.Pp Go.Proofs.YtpaddkkfefgkfaaGreatDoor.ex
set_option maxRecDepth 100000
noncomputable section
theorem nH {id:FuncId} (hk:lt.inl id=true) {M:List nY} {N:List gJ} (hM:cr X0 cg M) (hN:bS X0 cg N) {sig:List (Option (TypeId×Tv.Ty))} {f:List AV->Option (Bool×List AV)} (sgA sg:List (List (Option Tv.Ty)))
 (h:∀vs ws,f vs=some (true,ws)->ws.all A8=true/\∃an rounds,ag X0 (cN M N _) an rounds id (og sgA vs) aa.empty (gM sg)=some ws):bh X0 cg id ⟨none,sig,gV f⟩:=by
 intro ins outs rs hg
 have hg:gV f ins=some (true,outs,rs):=hg
 unfold gV at hg
 split at hg
 case h_2=>cases hg
 rename_i vs hv
 split at hg
 case h_2=>cases hg
 rename_i c ws hf
 simp only[Option.some.injEq,Prod.mk.injEq] at hg
 obtain ⟨rfl,_,rfl⟩:=hg
 obtain ⟨h1,an,rounds,h2⟩:=h vs ws hf
 have hi:=nr hv
 subst hi
 intro _
 obtain ⟨M1,h4⟩:=Cq (nk hk) (cV hM hN _) h2
 refine ⟨ws,M1,?_,qx h1⟩
 rw[oS,sZ]
 exact λS E ax hr hgl hl=>h4 S E ax hr hgl (z6 sgA hl)
def kZ {α:Type} (a b:α):Bool:=@decide (a=b) (Classical.propDecidable _)
theorem fe {α:Type} {a b:α}:kZ a b=true↔a=b:=by
 unfold kZ
 exact @decide_eq_true_iff _ (Classical.propDecidable _)
theorem GI {α:Type} (a:α):kZ a a=true:=fe.2 rfl
theorem js {α:Type} {a b:α} (h:a≠b):kZ a b=false:=by
 cases he:kZ a b with
 |false=>rfl
 |true=>exact absurd (fe.1 he) h
def GJ (A:List AV):Option Raw:=match A with
 |
  [.int .i64 k,.int .i64 c,.int .i64 n,.int .i64 bc,.int .i64 bn,.int .i64 ic,.int .i64 ix,.int .i64 sc,.int .i64 d,.int .i64 z,X,.bool r]=>match sM bB X with
  |some x=>some (k,(c,n),((bc,bn),(ic,ix),sc,d,z),x,r)
  |none=>none
 |_=>none
theorem mH {A:List AV} {a:Raw} (h:GJ A=some a):A=GA a:=by
 unfold GJ at h
 split at h
 .
  split at h
  .
   rename_i x hx;cases h;rw[bq hx];rfl
  cases h
 cases h
def MN:List (Option Tv.Ty):=[none,none,none,none,none,none,none,none,none,none,some bB,none]
def fSr (vs:List AV):Option (Bool×List AV) :=
 match og [MN,MN] vs with
 |
  [.agg A,.agg B]=>match GJ A,GJ B with
  |some a,some b=>some (Nat.ble a.2.2.2.1.length 900000,[.bool (kZ a b)])
  |_,_=>none
 |_=>none
def ri:List (List (Option Tv.Ty)):=[[none]]
theorem ZN (a b:Raw):ag X0 (cN S1 NR _) bV 5 80 [.agg (GA a),.agg (GA b)] aa.empty (gM ri) =
 pick2 (eqI a.1 b.1) (pick2 (decide (a.2.1.1=b.2.1.1)&&decide (a.2.1.2=b.2.1.2)) (pick2 (decide (a.2.2.1.1.1=b.2.2.1.1.1)&&(decide (a.2.2.1.1.2=b.2.2.1.1.2)&&(decide (a.2.2.1.2.1.1=b.2.2.1.2.1.1)&&(decide (a.2.2.1.2.1.2=b.2.2.1.2.1.2)&&(decide (a.2.2.1.2.2.1=b.2.2.1.2.2.1)&&(decide (a.2.2.1.2.2.2.1=b.2.2.1.2.2.2.1)&&decide (a.2.2.1.2.2.2.2=b.2.2.1.2.2.2.2)))))))
  (pick2 (Nat.ble a.2.2.2.1.length 900000) (pick2 (decide (a.2.2.2.1=b.2.2.2.1)) (some [.bool (a.2.2.2.2==b.2.2.2.2)]) (some [.bool false])) none) (some [.bool false])) (some [.bool false])) (some [.bool false]):=by kernel_rfl
theorem ZO:bh X0 cg 80 ⟨none,[none,none],gV fSr⟩ :=
 nH rfl CF Rp [MN,MN] ri λvs ws hf=>by
  unfold fSr at hf;split at hf
  case h_2=>cases hf
  rename_i A B hv;split at hf
  case h_2=>cases hf
  rename_i a b ha hb;simp only[Option.some.injEq,Prod.mk.injEq] at hf;obtain ⟨g0,rfl⟩:=hf;refine ⟨rfl,bV,5,?_⟩;rw[hv,mH ha,mH hb,ZN,g0];obtain ⟨k,⟨c,n⟩,⟨⟨bc,bn⟩,⟨ic,ix⟩,sc,d,z⟩,x,r⟩:=a;obtain ⟨k',⟨c',n'⟩,⟨⟨bc',bn'⟩,⟨ic',ix'⟩,sc',d',z'⟩,x',r'⟩:=b;simp only[pick2_eq,eqI_spec,beq_iff_eq,Bool.and_eq_true,decide_eq_true_eq,if_true];by_cases h:(k,(c,n),((bc,bn),(ic,ix),sc,d,z),x,r)=((k',(c',n'),((bc',bn'),(ic',ix'),sc',d',z'),x',r'):Raw)
  .
   rw[fe.2 h];cases h;simp
  rw[js h]
  repeat' split
  all_goals first|rfl|skip
  rename_i h1 h2 h3 h4
  have:(r==r')=false:=by
   cases hr:(r==r') with
   |false=>rfl
   |
    true =>
    exfalso;apply h;obtain ⟨rfl,rfl⟩:=h2;obtain ⟨rfl,rfl,rfl,rfl,rfl,rfl,rfl⟩:=h3;rw[h1,h4,beq_iff_eq.1 hr]
  rw[this]
def NS1:List gJ:=(80,⟨none,[none,none],gV fSr⟩)::NR
theorem Rs:bS X0 cg NS1:=.cons ZO Rp
theorem qC {α β:Type} {x y:List α} (hx:x.length<1000000) (hxy:x.length=y.length) {ok:α->Bool} {F T:Option β} {j:Nat->Int->Option β}
 (step:∀m i a b,i<(x.length:Int)->aI x i=some a->aI y i=some b->ok a=true->j (m+1) i=pick2 (!kZ a b) F (j m (IntKind.wrap .i64 (i+1)))) (stop:∀m,j (m+1) x.length=T) :
 ∀(rest pre rest':List α) (m:Nat),x=pre++rest->y.drop pre.length=rest'->rest.length<m->(∀a∈rest,ok a=true)->j m pre.length=pick2 (kZ rest rest') T F:=by
 intro rest
 induction rest with
 |
  nil =>
  intro pre rest' m he hy hm _;obtain ⟨m,rfl⟩:∃m',m=m'+1:=⟨m-1,by simp at hm;omega⟩
  have hl:x.length=pre.length:=by rw[he];simp
  have:rest'=[]:=by rw[<-hy,List.drop_eq_nil_iff];omega
  subst this;have hs:=stop m;rw[hl] at hs;rw[hs,GI]
 |
  cons a rest ih =>
  intro pre rest' m he hy hm hok;obtain ⟨m,rfl⟩:∃m',m=m'+1:=⟨m-1,by simp at hm;omega⟩
  have hl:x.length=pre.length+(rest.length+1):=by rw[he];simp
  have hg:aI x (pre.length:Int)=some a:=by rw[he];exact ei pre rest a
  have hlt:pre.length<y.length:=by omega
  have hg2:aI y (pre.length:Int)=some y[pre.length]:=by rw[mq,List.getElem?_eq_getElem hlt]
  have hr:rest'=y[pre.length]::y.drop (pre.length+1):=by rw[<-hy];exact List.drop_eq_getElem_cons hlt
  have hin:=ih (pre++[a]) (y.drop (pre.length+1)) m (by rw[he];simp) (by simp) (by simp at hm;omega) (λb hb=>hok b (by simp[hb]))
  rw[List.length_append] at hin;have hin:j m ((pre.length:Int)+1)=pick2 (kZ rest (y.drop (pre.length+1))) T F:=hin;rw[step m pre.length a y[pre.length] (by omega) hg hg2 (hok a (by simp)),i64_in (n:=(pre.length:Int)+1) (by omega) (by omega),hin,hr]
  cases he:kZ a y[pre.length] with
  |
   true =>
   have:=fe.1 he;show pick2 (kZ rest (y.drop (pre.length+1))) T F=_
   have e:kZ (a::rest) (y[pre.length]::y.drop (pre.length+1))=kZ rest (y.drop (pre.length+1)):=by
    rw[Bool.eq_iff_iff,fe,fe,<-this];simp
   rw[e]
  |
   false =>
   have hne:a≠y[pre.length]:=λh=>by rw[fe.2 h] at he;cases he
   rw[js (λh=>hne (List.cons.inj h).1)];rfl
end
end Go.Proofs.YtpaddkkfefgkfaaGreatDoor.ps

namespace Go.Proofs.YtpaddkkfefgkfaaGreatDoor.ps
open Go.Tv Go.Ev Go.Px Go.Pp Go.Proofs.YtpaddkkfefgkfaaGreatDoor.ex
set_option maxRecDepth 100000
noncomputable section
abbrev kO:=Option (List AV)
def FS:kO:=some [.bool false]
def TS':kO:=some [.bool true]
def pSc:List Bool:=[true,true,false,true,false]
def GK:bG:=⟨dG [2,3,4,5] pSc,.none,[]⟩
def Al (o h:Int) (a:List Raw):List AV:=[.int .i64 o,.int .i64 h,.bF fQ a]
def jSc (o h:Int) (a:List Raw) (o' h':Int) (b:List Raw) (r m:Nat) (i:Int):kO:=dH X0 (cN S1 NS1 _) GK r 42 pSc (gM ri) m (hU 46 [(2,.ptr 0 0),(3,.ptr 1 0),(4,.bool false),(5,.int .i64 i)]) (kC [.cells 34 (Al o h a),.cells 34 (Al o' h' b)])
theorem Rt (o h:Int) (a:List Raw) (o' h':Int) (b:List Raw) (r m:Nat) (i:Int):jSc o h a o' h' b r (m+1) i =
 pick2 (ltI i a.length) (Option.rec (motive:=λ_=>kO) none (λx=>Option.rec (motive:=λ_=>kO) none (λy=>pick2 (Nat.ble x.2.2.2.1.length 900000) (pick2 (!kZ (α:=Raw) x y) FS (jSc o h a o' h' b r m (IntKind.wrap .i64 (i+1)))) none) (aI b i)) (aI a i)) TS':=by kernel_rfl
theorem UU (o h:Int) (a:List Raw) (o' h':Int) (b:List Raw) (r:Nat):ag X0 (cN S1 NS1 _) GK r 42 [.agg (Al o h a),.agg (Al o' h' b)] aa.empty (gM ri) =
 pick2 (!eqI o o') FS (pick2 (!eqI h h') FS (pick2 (!eqI a.length b.length) FS (jSc o h a o' h' b r r 0))):=by kernel_rfl
def SH (l:List Raw):Bool:=Nat.ble l.length 900000&&l.all (λr=>Nat.ble r.2.2.2.1.length 900000)
def MO:List (Option Tv.Ty):=[none,none,some fQ]
def fSc (vs:List AV):Option (Bool×List AV) :=
 match og [MO,MO] vs with
 |
  [.agg [.int .i64 o,.int .i64 h,L],.agg [.int .i64 o',.int .i64 h',L']]=>match sM fQ L,sM fQ L' with
  |some a,some b=>some (SH a,[.bool (decide (o=o')&&decide (h=h')&&kZ (α:=List Raw) a b)])
  |_,_=>none
 |_=>none
theorem aes {a b:List Raw} (hok:SH a=true) (o h o' h':Int):ag X0 (cN S1 NS1 _) GK (a.length+1) 42 [.agg (Al o h a),.agg (Al o' h' b)] aa.empty (gM ri)=some [.bool (decide (o=o')&&decide (h=h')&&kZ a b)]:=by
 unfold SH at hok
 rw[Bool.and_eq_true,List.all_eq_true] at hok
 obtain ⟨h1,h2⟩:=hok
 have h1:=Nat.le_of_ble_eq_true h1
 rw[UU,aG]
 by_cases ho:o=o'
 .
  rw[if_pos ho,aG,decide_eq_true ho];by_cases hh:h=h'
  .
   rw[if_pos hh,aG,decide_eq_true hh];by_cases hl:a.length=b.length
   .
    rw[if_pos (by omega)]
    have:=qC (x:=a) (y:=b) (by omega) hl (ok:=λr=>Nat.ble r.2.2.2.1.length 900000) (F:=FS) (T:=TS') (j:=jSc o h a o' h' b (a.length+1)) (λm i x y hi hx hy hk=>by
     rw[Rt,kW hi,hx,hy];show pick2 (Nat.ble x.2.2.2.1.length 900000) _ none=_;rw[hk]) (λm=>by rw[Rt,cF (by omega)]) a [] b (a.length+1) rfl rfl (by omega) h2
    have this:jSc o h a o' h' b (a.length+1) (a.length+1) 0=_:=this;rw[this];cases kZ a b<;>rfl
   rw[if_neg (by omega),js (λe=>hl (by rw[e]))];rfl
  rw[if_neg hh,decide_eq_false hh];cases kZ a b<;>rfl
 rw[if_neg ho,decide_eq_false ho]
 cases kZ a b<;>rfl
theorem ZP:bh X0 cg 42 ⟨none,[none,none],gV fSc⟩ :=
 nH rfl CF Rs [MO,MO] ri λvs ws hf=>by
  unfold fSc at hf;split at hf
  case h_2=>cases hf
  rename_i o h L o' h' L' hv;split at hf
  case h_2=>cases hf
  rename_i a b ha hb;simp only[Option.some.injEq,Prod.mk.injEq] at hf;obtain ⟨g0,rfl⟩:=hf;refine ⟨rfl,GK,a.length+1,?_⟩;rw[hv,bq ha,bq hb];exact aes g0 o h o' h'
def NS2:List gJ:=(42,⟨none,[none,none],gV fSc⟩)::NS1
theorem Ru:bS X0 cg NS2:=.cons ZP Rs
def Ea (s:RS):List AV:=[.str s.lab,.int .i64 s.kind,.int .i64 s.sz,.int .i64 s.op,.int .i64 s.hint,.bF fQ s.args,.bF ot s.data,.bF bB s.x,.bF bB s.times]
def ZQ (a b:RS) (r m:Nat) (i:Int):kO:=dH X0 (cN S1 NS2 _) GK r 30 pSc (gM ri) m (hU 94 [(2,.ptr 0 0),(3,.ptr 1 0),(4,.bool false),(5,.int .i64 i)]) (kC [.cells 38 (Ea a),.cells 38 (Ea b)])
theorem Rv (a b:RS) (r m:Nat) (i:Int):ZQ a b r (m+1) i =
 pick2 (ltI i a.data.length) (Option.rec (motive:=λ_=>kO) none (λx=>Option.rec (motive:=λ_=>kO) none (λy=>pick2 (!decide (x.1=y.1)) FS
  (Option.rec (motive:=λ_=>kO) none (λx=>Option.rec (motive:=λ_=>kO) none (λy=>pick2 (Nat.ble x.2.length 900000) (pick2 (!decide (x.2=y.2)) FS (ZQ a b r m (IntKind.wrap .i64 (i+1)))) none) (aI b.data i)) (aI a.data i))) (aI b.data i)) (aI a.data i)) TS':=by kernel_rfl
theorem UW (a b:RS) (r:Nat):ag X0 (cN S1 NS2 _) GK r 30 [.agg (Ea a),.agg (Ea b)] aa.empty (gM ri) =
 pick2 (!decide (a.lab=b.lab)) FS (pick2 (!eqI a.kind b.kind) FS (pick2 (!eqI a.sz b.sz) FS (pick2 (SH a.args) (pick2 (!(decide (a.op=b.op)&&decide (a.hint=b.hint)&&kZ a.args b.args)) FS (pick2 (!eqI a.data.length b.data.length) FS
  (pick2 (Nat.ble a.x.length 900000) (pick2 (!decide (a.x=b.x)) FS (pick2 (Nat.ble a.times.length 900000) (pick2 (!decide (a.times=b.times)) FS (ZQ a b r r 0)) none)) none))) none))):=by kernel_rfl
def Eb (a b:RS):Bool:=decide (a.lab=b.lab)&&(decide (a.kind=b.kind)&&(decide (a.sz=b.sz)&&(decide (a.op=b.op)&&decide (a.hint=b.hint)&&kZ a.args b.args&&(kZ a.data b.data&&(decide (a.x=b.x)&&decide (a.times=b.times))))))
def Ec (s:RS):Bool:=SH s.args&&(Nat.ble s.data.length 900000&&s.data.all (λd=>Nat.ble d.2.length 900000)&&(Nat.ble s.x.length 900000&&Nat.ble s.times.length 900000))
theorem aeu {a b:RS} (hok:Ec a=true):ag X0 (cN S1 NS2 _) GK (a.data.length+1) 30 [.agg (Ea a),.agg (Ea b)] aa.empty (gM ri)=some [.bool (Eb a b)]:=by
 unfold Ec at hok
 simp only[Bool.and_eq_true,List.all_eq_true] at hok
 obtain ⟨g1,⟨g2,g3⟩,g4,g5⟩:=hok
 have g2:=Nat.le_of_ble_eq_true g2
 have Kw:a.data.length=b.data.length->ZQ a b (a.data.length+1) (a.data.length+1) 0=some [.bool (kZ a.data b.data)]:=λhl=>by
  have:=qC (x:=a.data) (y:=b.data) (by omega) hl (ok:=λr=>Nat.ble r.2.length 900000) (F:=FS) (T:=TS') (j:=ZQ a b (a.data.length+1)) (λm i x y hi hx hy hk=>by
   rw[Rv,kW hi,hx,hy];show pick2 (!decide (x.1=y.1)) FS (pick2 (Nat.ble x.2.length 900000) (pick2 (!decide (x.2=y.2)) FS (ZQ a b (a.data.length+1) m (IntKind.wrap .i64 (i+1)))) none)=_;rw[hk];by_cases h1:x.1=y.1
   .
    rw[decide_eq_true h1];by_cases h2:x.2=y.2
    .
     rw[decide_eq_true h2,fe.2 (show x=y from Prod.ext h1 h2)];rfl
    rw[decide_eq_false h2,js (λe=>h2 (by rw[e]))];rfl
   rw[decide_eq_false h1,js (λe=>h1 (by rw[e]))];rfl) (λm=>by rw[Rv,cF (by omega)]) a.data [] b.data (a.data.length+1) rfl rfl (by omega) g3
  have this:ZQ a b (a.data.length+1) (a.data.length+1) 0=_:=this;rw[this];cases kZ a.data b.data<;>rfl
 rw[UW,g1,g4,g5]
 unfold Eb
 by_cases h1:a.lab=b.lab
 .
  rw[decide_eq_true h1];show pick2 (!eqI a.kind b.kind) _ _=_;rw[aG];by_cases h2:a.kind=b.kind
  .
   rw[if_pos h2,decide_eq_true h2,aG];by_cases h3:a.sz=b.sz
   .
    rw[if_pos h3,decide_eq_true h3];cases h4:decide (a.op=b.op)&&decide (a.hint=b.hint)&&kZ a.args b.args with
    |false=>rfl
    |
     true =>
     show pick2 (!eqI a.data.length b.data.length) _ _=_;rw[aG];by_cases h5:a.data.length=b.data.length
     .
      rw[if_pos (by omega),Kw h5]
      show pick2 (!decide (a.x=b.x)) FS (pick2 (!decide (a.times=b.times)) FS (some [AV.bool (kZ a.data b.data)]))=some [AV.bool (true&&(true&&(true&&(true&&(kZ a.data b.data&&(decide (a.x=b.x)&&decide (a.times=b.times)))))))];cases kZ a.data b.data<;>cases decide (a.x=b.x)<;>cases decide (a.times=b.times)<;>rfl
     rw[if_neg (by omega),js (λe=>h5 (by rw[e]))];rfl
   rw[if_neg h3,decide_eq_false h3];rfl
  rw[if_neg h2,decide_eq_false h2];rfl
 rw[decide_eq_false h1];rfl
def wh:List (Option Tv.Ty):=[none,none,none,none,none,some fQ,some ot,some bB,some bB]
def Ed (A:List AV):Option RS:=match A with
 |
  [.str lab,.int .i64 kind,.int .i64 sz,.int .i64 op,.int .i64 hint,R,D,X,T]=>match sM fQ R,sM ot D,sM bB X,sM bB T with
  |some r,some d,some x,some t=>some ⟨0,lab,kind,sz,op,hint,r,d,x,t,0,0⟩
  |_,_,_,_=>none
 |_=>none
theorem jc {A:List AV} {s:RS} (h:Ed A=some s):A=Ea s:=by
 unfold Ed at h
 split at h
 .
  split at h
  .
   rename_i r d x t h1 h2 h3 h4;cases h;rw[bq h1,bq h2,bq h3,bq h4];rfl
  cases h
 cases h
def fSs (vs:List AV):Option (Bool×List AV) :=
 match og [wh,wh] vs with
 |
  [.agg A,.agg B]=>match Ed A,Ed B with
  |some a,some b=>some (Ec a,[.bool (Eb a b)])
  |_,_=>none
 |_=>none
theorem ZR:bh X0 cg 30 ⟨none,[none,none],gV fSs⟩ :=
 nH rfl CF Ru [wh,wh] ri λvs ws hf=>by
  unfold fSs at hf;split at hf
  case h_2=>cases hf
  rename_i A B hv;split at hf
  case h_2=>cases hf
  rename_i a b ha hb;simp only[Option.some.injEq,Prod.mk.injEq] at hf;obtain ⟨g0,rfl⟩:=hf;refine ⟨rfl,GK,a.data.length+1,?_⟩;rw[hv,jc ha,jc hb];exact aeu g0
def NS3:List gJ:=(30,⟨none,[none,none],gV fSs⟩)::NS2
theorem Jq:bS X0 cg NS3:=.cons ZR Ru
end
end Go.Proofs.YtpaddkkfefgkfaaGreatDoor.ps

namespace Go.Proofs.YtpaddkkfefgkfaaGreatDoor.ps
open Go.Tv Go.Ev Go.Px Go.Pp Go.Proofs.YtpaddkkfefgkfaaGreatDoor.ex
set_option maxRecDepth 100000
noncomputable section
theorem oT (l:List Tok) (a:Int):(ai l a).1.length<=200:=by
 obtain ⟨⟨y,e,f,g⟩,hr⟩:=mD (nm:=ay) l a
 have e1:ai l a=(y,e,f,g):=by unfold ai;rw[hr];rfl
 rw[e1]
 by_cases hf:f=0
 .
  have h:=((uw hr).2 hf).1;unfold jo at h;split at h
  .
   cases h
  show y.length<=200;omega
 have h:=((uw hr).1 hf).1
 show y.length<=200
 rw[h];simp
theorem CG (l:List Tok) (op sz:Int):(gp l op sz).1.2.2.2.1.length<=200:=by
 unfold gp
 split
 .
  split
  .
   simp[bW,xG]
  split
  .
   exact oT _ _
  simp[bW,xG]
 split
 .
  simp[bW,xG]
 rename_i en _
 generalize fT l op en KR=o
 unfold xH
 split
 .
  simp[bW,xG]
 split
 .
  split<;>simp[bW,xG,Uy]
 split
 .
  simp[bW,xG]
 split
 .
  simp[bW,xG]
 split
 .
  exact oT _ _
 simp[bW,xG]
theorem GL (l:List Tok) (a:Int):(au l a).1.2.2.2.1.length<=200:=by
 have Ad:(uC (ai l a)).1.2.2.2.1.length<=200:=by
  unfold uC;split
  .
   simp[bW,xG]
  exact oT _ _
 unfold au
 split
 .
  simp[bW,xG]
 split
 .
  exact Ad
 split
 .
  simp[aeb]
 split
 .
  split
  .
   exact CG _ _ _
  simp[bW,xG]
 split
 .
  exact CG _ _ _
 exact Ad
theorem ZS (op:Int) (w:Raw):(s6 op w).2.2.2.1=w.2.2.2.1:=by unfold s6;split<;>rfl
def Am (l:List Raw):Prop:=l.length<=4/\∀r∈l,r.2.2.2.1.length<=200
theorem Ee (l:List Tok) (op hint:Int):∀(m:Nat) (a:Int) (args:List Raw) (c:D3),args.length<=3->(∀r∈args,r.2.2.2.1.length<=200)->GB l op hint m a args=some c->Am c.2.2.1
 |0,_,_,_,_,_,h=>by cases h
 |
  m+1,a,args,c,h1,h2,h=>by
  have hr:∀r∈args++[s6 op (au l a).1],r.2.2.2.1.length<=200:=λr hr=>by
   rcases List.mem_append.1 hr with hr|hr
   .
    exact h2 r hr
   rw[List.mem_singleton.1 hr,ZS];exact GL _ _
  have hn:Am []:=⟨by simp,by simp⟩
  unfold GB at h;split at h
  .
   cases h;exact hn
  split at h
  .
   cases h;exact ⟨by simp;omega,hr⟩
  split at h
  .
   cases h;exact hn
  split at h
  .
   cases h;exact hn
  exact Ee l op hint m _ _ c (by simp;omega) hr h
theorem GM (l:List Tok) (a:Int):Am (bE l a).2.2.1:=by
 have hn:Am []:=⟨by simp,by simp⟩
 unfold bE
 split
 .
  exact hn
 split
 .
  exact hn
 unfold MG
 generalize (if mF l a=0 then a+1 else a+2)=b
 by_cases hb:b=(l.length:Int)
 .
  rw[if_pos hb];exact hn
 rw[if_neg hb]
 cases hc:GB l (Ew l a).1 (mF l a) 5 b [] with
 |none=>exact hn
 |some c=>exact Ee l _ _ _ _ _ _ (by simp) (by simp) hc
structure Gd (s:RS):Prop where
 ar:Am s.args
 dl:s.data.length<=64
 dx:∀d∈s.data,d.2.length<=200
 xl:s.x.length<=200
 tl:s.times.length<=200
section
variable {n:Int} {l:List Tok}
theorem gN {s:RS} {e i:Int} (h:Gd s):Gd (cz n l s e i).2:=⟨h.ar,h.dl,h.dx,h.xl,h.tl⟩
theorem KZ {s:RS} {go:List Nd->Int->LR} (h:Gd s) (hg:∀x e,x.length<=200->Gd (go x e).2):Gd (MJ n l s go).2:=by
 unfold MJ
 split
 .
  exact gN h
 exact hg _ _ (oT _ _)
theorem Jr {fin:Bool} {J:RS->LR} {s:RS} (h:Gd s) (hJ:Gd (J { s with a:=s.a+1 }).2):Gd (Bc n l fin J s).2:=by
 unfold Bc
 split
 .
  exact h
 split
 .
  exact hJ
 exact gN h
theorem rq {s:RS} {a:Int} {d:Dt} (h:Gd s) (hl:s.data.length<=63) (hd:d.2.length<=200):Gd { s with a:=a,data:=s.data++[d] } :=
 ⟨h.ar,by simp;omega,λx hx=>by
  rcases List.mem_append.1 hx with hx|hx
  .
   exact h.dx x hx
  rw[List.mem_singleton.1 hx];exact hd,h.xl,h.tl⟩
theorem K5 {s:RS} {a:Int} (h:Gd s):Gd { s with a:=a }:=⟨h.ar,h.dl,h.dx,h.xl,h.tl⟩
theorem Rw:∀(m:Nat) (s:RS),Gd s->Gd (Q7 n l m s).2
 |0,s,h=>h
 |
  m+1,s,h=>by
  have hl:=h.dl;unfold Q7;split
  .
   exact gN h
  split
  .
   exact Jr (rq h (by omega) (by simp)) (Rw m _ (K5 (rq h (by omega) (by simp))))
  exact KZ h λx e hx=>Jr (rq h (by omega) hx) (Rw m _ (K5 (rq h (by omega) hx)))
theorem WG:∀(m:Nat) (s:RS),Gd s->s.data.length<=3->Gd (UL n l m s).2
 |0,s,h,_=>h
 |
  m+1,s,h,hl=>by
  unfold UL;split
  .
   exact gN h
  exact KZ h λx e hx=>Jr (rq h (by omega) hx) (WG m _ (K5 (rq h (by omega) hx)) (by show (s.data++[([],x)]).length<=3;simp;omega))
theorem Js {i:Int} {s:RS} {k:RS->LR} (h:Gd s) (hk:∀t,Gd (k { s with lab:=t }).2):Gd (Bd n l i s k).2:=by
 unfold Bd
 split
 .
  exact gN h
 split
 .
  exact gN h
 exact hk _
theorem Jt {s:RS} (h:Gd s):Gd (Ai n l s).2:=by
 unfold Ai
 split
 .
  exact h
 exact gN h
theorem yb {kind:Int} {s:RS} (h:Gd s):Gd (uG n l kind s).2 :=
 KZ (s:={ s with kind:=kind }) ⟨h.ar,h.dl,h.dx,h.xl,h.tl⟩ λx e hx=>Jt ⟨h.ar,h.dl,h.dx,hx,h.tl⟩
theorem UX {w:List UInt8} {s:RS} (h:Gd s) (hd:s.data=[]):Gd (dK n l w s).2:=by
 unfold dK
 split
 .
  exact Rw _ _ ⟨h.ar,h.dl,h.dx,h.xl,h.tl⟩
 split
 .
  exact yb ⟨h.ar,h.dl,h.dx,h.xl,h.tl⟩
 split
 .
  exact yb ⟨h.ar,h.dl,h.dx,h.xl,h.tl⟩
 split
 .
  exact yb ⟨h.ar,h.dl,h.dx,h.xl,h.tl⟩
 split
 .
  exact Js ⟨h.ar,h.dl,h.dx,h.xl,h.tl⟩ λt=>Jt ⟨h.ar,h.dl,h.dx,h.xl,h.tl⟩
 split
 .
  exact Jt ⟨h.ar,h.dl,h.dx,h.xl,h.tl⟩
 split
 .
  exact WG _ _ ⟨h.ar,h.dl,h.dx,h.xl,h.tl⟩ (by show s.data.length<=3;rw[hd];simp)
 split
 .
  unfold Rf;split
  .
   exact gN h
  exact ⟨GM _ _,h.dl,h.dx,h.xl,h.tl⟩
 exact gN h
theorem K6 {aP:Bool} {s:RS} (h:Gd s) (hd:s.data=[]):Gd (kY n l aP s).2:=by
 unfold kY
 split
 .
  split
  .
   exact gN h
  exact h
 split
 .
  exact gN h
 unfold Jn
 split
 .
  exact gN h
 split
 .
  exact gN h
 exact UX h hd
theorem GN {s:RS} (h:Gd s) (hd:s.data=[]):Gd (jV n l s).2:=by
 unfold jV
 split
 .
  exact KZ (K5 h) λx e hx=>K6 ⟨h.ar,h.dl,h.dx,h.xl,hx⟩ hd
 exact K6 h hd
theorem ZT:Gd iF:=⟨⟨by simp[iF],by simp[iF]⟩,by simp[iF],by simp[iF],by simp[iF],by simp[iF]⟩
theorem UY:Gd (jz n l iF).2:=by
 have h:=ZT
 unfold jz
 split
 .
  exact Js h λt=>yb ⟨h.ar,h.dl,h.dx,h.xl,h.tl⟩
 split
 .
  exact Js h λt=>GN ⟨h.ar,h.dl,h.dx,h.xl,h.tl⟩ rfl
 exact GN h rfl
end
theorem K7 (s:List UInt8):Gd (bH s).1:=by
 unfold bH
 split
 .
  exact ZT
 split
 .
  exact UY
 exact ZT
theorem aev {s:RS} (h:Gd s):Ec s=true:=by
 obtain ⟨⟨h1,h2⟩,h3,h4,h5,h6⟩:=h
 unfold Ec SH
 simp only[Bool.and_eq_true,List.all_eq_true]
 exact ⟨⟨bO (by omega),λr hr=>bO (by have:=h2 r hr;omega)⟩,⟨bO (by omega),λd hd=>bO (by have:=h4 d hd;omega)⟩,bO (by omega),bO (by omega)⟩
theorem Ef (s:List UInt8):Ec (bH s).1=true:=aev (K7 s)
def xm (s:List UInt8) (b:RS):Bool:=decide ((bH s).2.1=0)&&Eb (bH s).1 b
def Rx (s:List UInt8) (e a:Int):Bool:=Eb (bH s).1 iF&&(decide ((bH s).2.1=e)&&decide ((bH s).2.2=a))
theorem ZU (s:List UInt8) (b:RS):ag X0 (cN S1 NS3 _) bV 5 18 [.str s,.agg (Ea b)] aa.empty (gM ri)=pick2 (eqI (bH s).2.1 0) (pick2 (Ec (bH s).1) (some [.bool (Eb (bH s).1 b)]) none) (some [.bool false]):=by kernel_rfl
theorem ZV (s:List UInt8) (e a:Int):ag X0 (cN S1 NS3 _) bV 5 17 [.str s,.int .i64 e,.int .i64 a] aa.empty (gM ri)=pick2 (Ec (bH s).1) (pick2 (Eb (bH s).1 iF) (some [.bool (decide ((bH s).2.1=e)&&decide ((bH s).2.2=a))]) (some [.bool false])) none:=by kernel_rfl
def fSy (vs:List AV):Option (Bool×List AV) :=
 match og [[none],wh] vs with
 |
  [.str s,.agg B]=>match Ed B with
  |some b=>some (true,[.bool (xm s b)])
  |none=>none
 |_=>none
theorem Ry:bh X0 cg 18 ⟨none,[none,none],gV fSy⟩ :=
 nH rfl CF Jq [[none],wh] ri λvs ws hf=>by
  unfold fSy at hf;split at hf
  case h_2=>cases hf
  rename_i s B hv;split at hf
  case h_2=>cases hf
  rename_i b hb;simp only[Option.some.injEq,Prod.mk.injEq] at hf;obtain ⟨_,rfl⟩:=hf;refine ⟨rfl,bV,5,?_⟩;rw[hv,jc hb,ZU,Ef,aB];unfold xm;by_cases h:(bH s).2.1=0
  .
   rw[if_pos h,decide_eq_true h];rfl
  rw[if_neg h,decide_eq_false h];rfl
def fFl (vs:List AV):Option (Bool×List AV) :=
 match vs with
 |[.str s,.int .i64 e,.int .i64 a]=>some (true,[.bool (Rx s e a)])
 |_=>none
theorem MP:bh X0 cg 17 ⟨none,[none,none,none],gV fFl⟩ :=
 Ab rfl CF Jq ri λvs ws hf=>by
  unfold fFl at hf;split at hf
  case h_2=>cases hf
  rename_i s e a;simp only[Option.some.injEq,Prod.mk.injEq] at hf;obtain ⟨_,rfl⟩:=hf;refine ⟨rfl,bV,5,?_⟩;rw[ZV,Ef];unfold Rx;cases Eb (bH s).1 iF<;>rfl
def NS4:List gJ:=(18,⟨none,[none,none],gV fSy⟩)::(17,⟨none,[none,none,none],gV fFl⟩)::NS3
theorem ZW:bS X0 cg NS4:=.cons Ry (.cons MP Jq)
end
end Go.Proofs.YtpaddkkfefgkfaaGreatDoor.ps

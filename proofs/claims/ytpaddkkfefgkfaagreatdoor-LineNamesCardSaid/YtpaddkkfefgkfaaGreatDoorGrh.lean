/- What is said held against what is wanted: nodes. What is said held against what is wanted: contracts of values, instructions. What is said held against what is wanted: contracts of instructions, statements. What a line says is not too long; contracts of says and fails. -/
import Derived.Test.YtpaddkkfefgkfaaGreatDoorGrg
set_option linter.unusedVariables false
set_option linter.unusedSimpArgs false

namespace Go.Proofs.YtpaddkkfefgkfaaGreatDoor.ps
open Go.Tv Go.Ev Go.Px Go.Pp Go.Proofs.YtpaddkkfefgkfaaGreatDoor.ex
set_option maxRecDepth 100000
noncomputable section
def Ul (x y:Nd):Bool:=decide (x.1=y.1)&&(decide (x.2.1=y.2.1)&&(decide (x.2.2.1=y.2.2.1)&&(decide (x.2.2.2.1=y.2.2.2.1)&&decide (x.2.2.2.2=y.2.2.2.2))))
theorem IY (x y:Nd):Ul x y=true↔x=y:=by
 obtain ⟨a,b,c,d,e⟩:=x
 obtain ⟨a',b',c',d',e'⟩:=y
 simp[Ul]
def pSn:List Bool:=[true,true,false,true,false]
def adj:bI:=⟨dP [0,1,4,5] pSn,.none,[]⟩
def jSn (x y:List Nd) (r m:Nat) (i:Int):Option AV:=dQ X0 (cN P3 [] AV) adj r 66 pSn (λv _=>some v) m (iB 26 [(0,.bF cz x),(1,.bF cz y),(4,.bool false),(5,.int .i64 i)]) (jF [])
theorem Um (x y:List Nd) (r m:Nat) (i:Int):jSn x y r (m+1) i=pick2 (ltI i x.length) (Option.rec (motive:=λ_=>Option AV) none (λa=>Option.rec (motive:=λ_=>Option AV) none (λb=>pick2 (!Ul a b) (some (.bool false)) (jSn x y r m (IntKind.wrap .i64 (i+1)))) (aO y i)) (aO x i)) (some (.bool true)):=by kernel_rfl
theorem Yb (x y:List Nd) (r:Nat):ag X0 (cN P3 [] AV) adj r 66 [.bF cz x,.bF cz y] aa.empty (λv _=>some v)=pick2 (!eqI x.length y.length) (some (.bool false)) (jSn x y r r 0):=by kernel_rfl
theorem adk (x y:List Nd) (hx:x.length<1000000) (hxy:x.length=y.length) (r:Nat):∀(rest pre:List Nd) (rest':List Nd) (m:Nat),x=pre++rest->y.drop pre.length=rest'->rest.length<m->jSn x y r m pre.length=some (.bool (decide (rest=rest'))):=by
 intro rest
 induction rest with
 |
  nil =>
  intro pre rest' m he hy hm;obtain ⟨m,rfl⟩:∃m',m=m'+1:=⟨m-1,by simp at hm;omega⟩
  have hl:x.length=pre.length:=by rw[he];simp
  have:rest'=[]:=by rw[<-hy,List.drop_eq_nil_iff];omega
  subst this;rw[Um,cn (by omega)];rfl
 |
  cons a rest ih =>
  intro pre rest' m he hy hm;obtain ⟨m,rfl⟩:∃m',m=m'+1:=⟨m-1,by simp at hm;omega⟩
  have hl:x.length=pre.length+(rest.length+1):=by rw[he];simp
  have hg:aO x (pre.length:Int)=some a:=by rw[he];exact dR pre rest a
  have hlt:pre.length<y.length:=by omega
  have hg2:aO y (pre.length:Int)=some y[pre.length]:=by rw[j3,List.getElem?_eq_getElem hlt]
  have hr:rest'=y[pre.length]::y.drop (pre.length+1):=by rw[<-hy];exact List.drop_eq_getElem_cons hlt
  have hin:=ih (pre++[a]) (y.drop (pre.length+1)) m (by rw[he];simp) (by simp) (by simp at hm;omega)
  rw[List.length_append] at hin;have hin:jSn x y r m ((pre.length:Int)+1)=some (.bool (decide (rest=y.drop (pre.length+1)))):=hin;rw[Um,jo (by omega),hg,hg2,i64_in (n:=(pre.length:Int)+1) (by omega) (by omega)]
  show pick2 (!Ul a y[pre.length]) (some (.bool false)) (jSn x y r m ((pre.length:Int)+1))=_;rw[hin,hr];cases he:Ul a y[pre.length] with
  |
   true =>
   have:=(IY _ _).1 he;show some (AV.bool _)=_;rw[<-this];simp
  |
   false =>
   have hne:a≠y[pre.length]:=λh=>by rw[(IY _ _).2 h] at he;cases he
   show some (AV.bool false)=_;rw[decide_eq_false (λh=>hne (List.cons.inj h).1)]
def gSn (args:List AV):Option (Bool×List bC) :=
 match args with
 |
  [L,R]=>match zF cz L,zF cz R with
  |some x,some y=>some (Nat.ble x.length 900000,[.val (.bool (decide (x=y)))])
  |_,_=>none
 |_=>none
theorem adl:aK X0 cq 66 gSn :=
 aH (nk rfl) (cg B3 n0) λargs rs hg=>by
  unfold gSn at hg;split at hg
  case h_2=>cases hg
  split at hg
  case h_2=>cases hg
  rename_i x y hx hy;have e1:=bZ hx;have e2:=bZ hy;subst e1;subst e2;simp only[Option.some.injEq,Prod.mk.injEq] at hg;obtain ⟨h1,rfl⟩:=hg;have h1:=Nat.le_of_ble_eq_true h1;refine ⟨[.bool (decide (x=y))],adj,x.length+1,?_,rfl,rfl⟩;rw[Yb,aN];by_cases h:x.length=y.length
  .
   rw[if_pos (by omega)]
   exact adk x y (by omega) h _ x [] y _ rfl rfl (by omega)
  rw[if_neg (by omega),decide_eq_false (λe=>h (by rw[e]))];rfl
def S1:List mQ:=(66,[some cz,some cz],gSn)::P3
theorem tP:bS X0 cq S1:=.cons adl B3
end
end Go.Proofs.YtpaddkkfefgkfaaGreatDoor.ps

namespace Go.Proofs.YtpaddkkfefgkfaaGreatDoor.ps
open Go.Tv Go.Ev Go.Px Go.Pp Go.Proofs.YtpaddkkfefgkfaaGreatDoor.ex
set_option maxRecDepth 100000
noncomputable section
theorem yf {id:FuncId} (hk:lt.inl id=true) {M:List mQ} {N:List kB} (hM:bS X0 cq M) (hN:cR X0 cq N) {sig:List (Option (TypeId×Tv.Ty))} {f:List AV->Option (Bool×List AV)} (sgA sg:List (List (Option Tv.Ty)))
 (h:∀vs ws,f vs=some (true,ws)->ws.all CV=true/\∃an rounds,ag X0 (cN M N _) an rounds id (o6 sgA vs) aa.empty (mB sg)=some ws):cu X0 cq id ⟨none,sig,gV f⟩:=by
 intro ins outs rs hg
 have hg:gV f ins=some (true,outs,rs):=hg
 unfold gV at hg
 split at hg
 case h_2=>cases hg
 rename_i vs hv
 split at hg
 case h_2=>cases hg
 rename_i c ws hf
 simp only[Option.some.injEq,Prod.mk.injEq] at hg
 obtain ⟨rfl,_,rfl⟩:=hg
 obtain ⟨h1,an,rounds,h2⟩:=h vs ws hf
 have hi:=rT hv
 subst hi
 intro _
 obtain ⟨M1,h4⟩:=Ec (nk hk) (cg hM hN _) h2
 refine ⟨ws,M1,?_,rP h1⟩
 rw[qa,uL]
 exact λS E aC hr hgl hl=>h4 S E aC hr hgl (wk sgA hl)
def rX {α:Type} (a b:α):Bool:=@decide (a=b) (Classical.propDecidable _)
theorem kq {α:Type} {a b:α}:rX a b=true↔a=b:=by
 unfold rX
 exact @decide_eq_true_iff _ (Classical.propDecidable _)
theorem B8 {α:Type} (a:α):rX a a=true:=kq.2 rfl
theorem uN {α:Type} {a b:α} (h:a≠b):rX a b=false:=by
 cases he:rX a b with
 |false=>rfl
 |true=>exact absurd (kq.1 he) h
def IZ (A:List AV):Option Raw:=match A with
 |
  [.int .i64 k,.int .i64 c,.int .i64 n,.int .i64 bc,.int .i64 bn,.int .i64 ic,.int .i64 ix,.int .i64 sc,.int .i64 d,.int .i64 z,X,.bool r]=>match zF cz X with
  |some x=>some (k,(c,n),((bc,bn),(ic,ix),sc,d,z),x,r)
  |none=>none
 |_=>none
theorem uO {A:List AV} {a:Raw} (h:IZ A=some a):A=TN a:=by
 unfold IZ at h
 split at h
 .
  split at h
  .
   rename_i x hx;cases h;rw[bZ hx];rfl
  cases h
 cases h
def PJ:List (Option Tv.Ty):=[none,none,none,none,none,none,none,none,none,none,some cz,none]
def fSr (vs:List AV):Option (Bool×List AV) :=
 match o6 [PJ,PJ] vs with
 |
  [.agg A,.agg B]=>match IZ A,IZ B with
  |some a,some b=>some (Nat.ble a.2.2.2.1.length 900000,[.bool (rX a b)])
  |_,_=>none
 |_=>none
def NG:List (List (Option Tv.Ty)):=[[none]]
theorem adm (a b:Raw):ag X0 (cN S1 NR _) bW 5 80 [.agg (TN a),.agg (TN b)] aa.empty (mB NG) =
 pick2 (eqI a.1 b.1) (pick2 (decide (a.2.1.1=b.2.1.1)&&decide (a.2.1.2=b.2.1.2)) (pick2 (decide (a.2.2.1.1.1=b.2.2.1.1.1)&&(decide (a.2.2.1.1.2=b.2.2.1.1.2)&&(decide (a.2.2.1.2.1.1=b.2.2.1.2.1.1)&&(decide (a.2.2.1.2.1.2=b.2.2.1.2.1.2)&&(decide (a.2.2.1.2.2.1=b.2.2.1.2.2.1)&&(decide (a.2.2.1.2.2.2.1=b.2.2.1.2.2.2.1)&&decide (a.2.2.1.2.2.2.2=b.2.2.1.2.2.2.2)))))))
  (pick2 (Nat.ble a.2.2.2.1.length 900000) (pick2 (decide (a.2.2.2.1=b.2.2.2.1)) (some [.bool (a.2.2.2.2==b.2.2.2.2)]) (some [.bool false])) none) (some [.bool false])) (some [.bool false])) (some [.bool false]):=by kernel_rfl
theorem adn:cu X0 cq 80 ⟨none,[none,none],gV fSr⟩ :=
 yf rfl tP aae [PJ,PJ] NG λvs ws hf=>by
  unfold fSr at hf;split at hf
  case h_2=>cases hf
  rename_i A B hv;split at hf
  case h_2=>cases hf
  rename_i a b ha hb;simp only[Option.some.injEq,Prod.mk.injEq] at hf;obtain ⟨g0,rfl⟩:=hf;refine ⟨rfl,bW,5,?_⟩;rw[hv,uO ha,uO hb,adm,g0];obtain ⟨k,⟨c,n⟩,⟨⟨bc,bn⟩,⟨ic,ix⟩,sc,d,z⟩,x,r⟩:=a;obtain ⟨k',⟨c',n'⟩,⟨⟨bc',bn'⟩,⟨ic',ix'⟩,sc',d',z'⟩,x',r'⟩:=b;simp only[pick2_eq,eqI_spec,beq_iff_eq,Bool.and_eq_true,decide_eq_true_eq,if_true];by_cases h:(k,(c,n),((bc,bn),(ic,ix),sc,d,z),x,r)=((k',(c',n'),((bc',bn'),(ic',ix'),sc',d',z'),x',r'):Raw)
  .
   rw[kq.2 h];cases h;simp
  rw[uN h]
  repeat' split
  all_goals first|rfl|skip
  rename_i h1 h2 h3 h4
  have:(r==r')=false:=by
   cases hr:(r==r') with
   |false=>rfl
   |
    true =>
    exfalso;apply h;obtain ⟨rfl,rfl⟩:=h2;obtain ⟨rfl,rfl,rfl,rfl,rfl,rfl,rfl⟩:=h3;rw[h1,h4,beq_iff_eq.1 hr]
  rw[this]
def NS1:List kB:=(80,⟨none,[none,none],gV fSr⟩)::NR
theorem Un:cR X0 cq NS1:=.cons adn aae
theorem Ca {α β:Type} {x y:List α} (hx:x.length<1000000) (hxy:x.length=y.length) {ok:α->Bool} {F T:Option β} {j:Nat->Int->Option β}
 (step:∀m i a b,i<(x.length:Int)->aO x i=some a->aO y i=some b->ok a=true->j (m+1) i=pick2 (!rX a b) F (j m (IntKind.wrap .i64 (i+1)))) (stop:∀m,j (m+1) x.length=T) :
 ∀(rest pre rest':List α) (m:Nat),x=pre++rest->y.drop pre.length=rest'->rest.length<m->(∀a∈rest,ok a=true)->j m pre.length=pick2 (rX rest rest') T F:=by
 intro rest
 induction rest with
 |
  nil =>
  intro pre rest' m he hy hm _;obtain ⟨m,rfl⟩:∃m',m=m'+1:=⟨m-1,by simp at hm;omega⟩
  have hl:x.length=pre.length:=by rw[he];simp
  have:rest'=[]:=by rw[<-hy,List.drop_eq_nil_iff];omega
  subst this;have hs:=stop m;rw[hl] at hs;rw[hs,B8]
 |
  cons a rest ih =>
  intro pre rest' m he hy hm hok;obtain ⟨m,rfl⟩:∃m',m=m'+1:=⟨m-1,by simp at hm;omega⟩
  have hl:x.length=pre.length+(rest.length+1):=by rw[he];simp
  have hg:aO x (pre.length:Int)=some a:=by rw[he];exact dR pre rest a
  have hlt:pre.length<y.length:=by omega
  have hg2:aO y (pre.length:Int)=some y[pre.length]:=by rw[j3,List.getElem?_eq_getElem hlt]
  have hr:rest'=y[pre.length]::y.drop (pre.length+1):=by rw[<-hy];exact List.drop_eq_getElem_cons hlt
  have hin:=ih (pre++[a]) (y.drop (pre.length+1)) m (by rw[he];simp) (by simp) (by simp at hm;omega) (λb hb=>hok b (by simp[hb]))
  rw[List.length_append] at hin;have hin:j m ((pre.length:Int)+1)=pick2 (rX rest (y.drop (pre.length+1))) T F:=hin;rw[step m pre.length a y[pre.length] (by omega) hg hg2 (hok a (by simp)),i64_in (n:=(pre.length:Int)+1) (by omega) (by omega),hin,hr]
  cases he:rX a y[pre.length] with
  |
   true =>
   have:=kq.1 he;show pick2 (rX rest (y.drop (pre.length+1))) T F=_
   have e:rX (a::rest) (y[pre.length]::y.drop (pre.length+1))=rX rest (y.drop (pre.length+1)):=by
    rw[Bool.eq_iff_iff,kq,kq,<-this];simp
   rw[e]
  |
   false =>
   have hne:a≠y[pre.length]:=λh=>by rw[kq.2 h] at he;cases he
   rw[uN (λh=>hne (List.cons.inj h).1)];rfl
end
end Go.Proofs.YtpaddkkfefgkfaaGreatDoor.ps

namespace Go.Proofs.YtpaddkkfefgkfaaGreatDoor.ps
open Go.Tv Go.Ev Go.Px Go.Pp Go.Proofs.YtpaddkkfefgkfaaGreatDoor.ex
set_option maxRecDepth 100000
noncomputable section
abbrev C5:=Option (List AV)
def FS:C5:=some [.bool false]
def TS':C5:=some [.bool true]
def pSc:List Bool:=[true,true,false,true,false]
def I0:bI:=⟨dP [2,3,4,5] pSc,.none,[]⟩
def LB (o h:Int) (a:List Raw):List AV:=[.int .i64 o,.int .i64 h,.bF mg a]
def jSc (o h:Int) (a:List Raw) (o' h':Int) (b:List Raw) (r m:Nat) (i:Int):C5:=dQ X0 (cN S1 NS1 _) I0 r 42 pSc (mB NG) m (iB 46 [(2,.ptr 0 0),(3,.ptr 1 0),(4,.bool false),(5,.int .i64 i)]) (jF [.cells 34 (LB o h a),.cells 34 (LB o' h' b)])
theorem Uo (o h:Int) (a:List Raw) (o' h':Int) (b:List Raw) (r m:Nat) (i:Int):jSc o h a o' h' b r (m+1) i =
 pick2 (ltI i a.length) (Option.rec (motive:=λ_=>C5) none (λx=>Option.rec (motive:=λ_=>C5) none (λy=>pick2 (Nat.ble x.2.2.2.1.length 900000) (pick2 (!rX (α:=Raw) x y) FS (jSc o h a o' h' b r m (IntKind.wrap .i64 (i+1)))) none) (aO b i)) (aO a i)) TS':=by kernel_rfl
theorem Yc (o h:Int) (a:List Raw) (o' h':Int) (b:List Raw) (r:Nat):ag X0 (cN S1 NS1 _) I0 r 42 [.agg (LB o h a),.agg (LB o' h' b)] aa.empty (mB NG) =
 pick2 (!eqI o o') FS (pick2 (!eqI h h') FS (pick2 (!eqI a.length b.length) FS (jSc o h a o' h' b r r 0))):=by kernel_rfl
def Yd (l:List Raw):Bool:=Nat.ble l.length 900000&&l.all (λr=>Nat.ble r.2.2.2.1.length 900000)
def PK:List (Option Tv.Ty):=[none,none,some mg]
def fSc (vs:List AV):Option (Bool×List AV) :=
 match o6 [PK,PK] vs with
 |
  [.agg [.int .i64 o,.int .i64 h,L],.agg [.int .i64 o',.int .i64 h',L']]=>match zF mg L,zF mg L' with
  |some a,some b=>some (Yd a,[.bool (decide (o=o')&&decide (h=h')&&rX (α:=List Raw) a b)])
  |_,_=>none
 |_=>none
theorem ahY {a b:List Raw} (hok:Yd a=true) (o h o' h':Int):ag X0 (cN S1 NS1 _) I0 (a.length+1) 42 [.agg (LB o h a),.agg (LB o' h' b)] aa.empty (mB NG)=some [.bool (decide (o=o')&&decide (h=h')&&rX a b)]:=by
 unfold Yd at hok
 rw[Bool.and_eq_true,List.all_eq_true] at hok
 obtain ⟨h1,h2⟩:=hok
 have h1:=Nat.le_of_ble_eq_true h1
 rw[Yc,aN]
 by_cases ho:o=o'
 .
  rw[if_pos ho,aN,decide_eq_true ho];by_cases hh:h=h'
  .
   rw[if_pos hh,aN,decide_eq_true hh];by_cases hl:a.length=b.length
   .
    rw[if_pos (by omega)]
    have:=Ca (x:=a) (y:=b) (by omega) hl (ok:=λr=>Nat.ble r.2.2.2.1.length 900000) (F:=FS) (T:=TS') (j:=jSc o h a o' h' b (a.length+1)) (λm i x y hi hx hy hk=>by
     rw[Uo,jo hi,hx,hy];show pick2 (Nat.ble x.2.2.2.1.length 900000) _ none=_;rw[hk]) (λm=>by rw[Uo,cn (by omega)]) a [] b (a.length+1) rfl rfl (by omega) h2
    have this:jSc o h a o' h' b (a.length+1) (a.length+1) 0=_:=this;rw[this];cases rX a b<;>rfl
   rw[if_neg (by omega),uN (λe=>hl (by rw[e]))];rfl
  rw[if_neg hh,decide_eq_false hh];cases rX a b<;>rfl
 rw[if_neg ho,decide_eq_false ho]
 cases rX a b<;>rfl
theorem ado:cu X0 cq 42 ⟨none,[none,none],gV fSc⟩ :=
 yf rfl tP Un [PK,PK] NG λvs ws hf=>by
  unfold fSc at hf;split at hf
  case h_2=>cases hf
  rename_i o h L o' h' L' hv;split at hf
  case h_2=>cases hf
  rename_i a b ha hb;simp only[Option.some.injEq,Prod.mk.injEq] at hf;obtain ⟨g0,rfl⟩:=hf;refine ⟨rfl,I0,a.length+1,?_⟩;rw[hv,bZ ha,bZ hb];exact ahY g0 o h o' h'
def NS2:List kB:=(42,⟨none,[none,none],gV fSc⟩)::NS1
theorem Up:cR X0 cq NS2:=.cons ado Un
def JQ (s:RS):List AV:=[.str s.lab,.int .i64 s.kind,.int .i64 s.sz,.int .i64 s.op,.int .i64 s.hint,.bF mg s.args,.bF C4 s.data,.bF cz s.x,.bF cz s.times]
def jSs (a b:RS) (r m:Nat) (i:Int):C5:=dQ X0 (cN S1 NS2 _) I0 r 30 pSc (mB NG) m (iB 94 [(2,.ptr 0 0),(3,.ptr 1 0),(4,.bool false),(5,.int .i64 i)]) (jF [.cells 38 (JQ a),.cells 38 (JQ b)])
theorem Uq (a b:RS) (r m:Nat) (i:Int):jSs a b r (m+1) i =
 pick2 (ltI i a.data.length) (Option.rec (motive:=λ_=>C5) none (λx=>Option.rec (motive:=λ_=>C5) none (λy=>pick2 (!decide (x.1=y.1)) FS
  (Option.rec (motive:=λ_=>C5) none (λx=>Option.rec (motive:=λ_=>C5) none (λy=>pick2 (Nat.ble x.2.length 900000) (pick2 (!decide (x.2=y.2)) FS (jSs a b r m (IntKind.wrap .i64 (i+1)))) none) (aO b.data i)) (aO a.data i))) (aO b.data i)) (aO a.data i)) TS':=by kernel_rfl
theorem Ye (a b:RS) (r:Nat):ag X0 (cN S1 NS2 _) I0 r 30 [.agg (JQ a),.agg (JQ b)] aa.empty (mB NG) =
 pick2 (!decide (a.lab=b.lab)) FS (pick2 (!eqI a.kind b.kind) FS (pick2 (!eqI a.sz b.sz) FS (pick2 (Yd a.args) (pick2 (!(decide (a.op=b.op)&&decide (a.hint=b.hint)&&rX a.args b.args)) FS (pick2 (!eqI a.data.length b.data.length) FS
  (pick2 (Nat.ble a.x.length 900000) (pick2 (!decide (a.x=b.x)) FS (pick2 (Nat.ble a.times.length 900000) (pick2 (!decide (a.times=b.times)) FS (jSs a b r r 0)) none)) none))) none))):=by kernel_rfl
def LC (a b:RS):Bool:=decide (a.lab=b.lab)&&(decide (a.kind=b.kind)&&(decide (a.sz=b.sz)&&(decide (a.op=b.op)&&decide (a.hint=b.hint)&&rX a.args b.args&&(rX a.data b.data&&(decide (a.x=b.x)&&decide (a.times=b.times))))))
def We (s:RS):Bool:=Yd s.args&&(Nat.ble s.data.length 900000&&s.data.all (λd=>Nat.ble d.2.length 900000)&&(Nat.ble s.x.length 900000&&Nat.ble s.times.length 900000))
theorem ah0 {a b:RS} (hok:We a=true):ag X0 (cN S1 NS2 _) I0 (a.data.length+1) 30 [.agg (JQ a),.agg (JQ b)] aa.empty (mB NG)=some [.bool (LC a b)]:=by
 unfold We at hok
 simp only[Bool.and_eq_true,List.all_eq_true] at hok
 obtain ⟨g1,⟨g2,g3⟩,g4,g5⟩:=hok
 have g2:=Nat.le_of_ble_eq_true g2
 have MX:a.data.length=b.data.length->jSs a b (a.data.length+1) (a.data.length+1) 0=some [.bool (rX a.data b.data)]:=λhl=>by
  have:=Ca (x:=a.data) (y:=b.data) (by omega) hl (ok:=λr=>Nat.ble r.2.length 900000) (F:=FS) (T:=TS') (j:=jSs a b (a.data.length+1)) (λm i x y hi hx hy hk=>by
   rw[Uq,jo hi,hx,hy];show pick2 (!decide (x.1=y.1)) FS (pick2 (Nat.ble x.2.length 900000) (pick2 (!decide (x.2=y.2)) FS (jSs a b (a.data.length+1) m (IntKind.wrap .i64 (i+1)))) none)=_;rw[hk];by_cases h1:x.1=y.1
   .
    rw[decide_eq_true h1];by_cases h2:x.2=y.2
    .
     rw[decide_eq_true h2,kq.2 (show x=y from Prod.ext h1 h2)];rfl
    rw[decide_eq_false h2,uN (λe=>h2 (by rw[e]))];rfl
   rw[decide_eq_false h1,uN (λe=>h1 (by rw[e]))];rfl) (λm=>by rw[Uq,cn (by omega)]) a.data [] b.data (a.data.length+1) rfl rfl (by omega) g3
  have this:jSs a b (a.data.length+1) (a.data.length+1) 0=_:=this;rw[this];cases rX a.data b.data<;>rfl
 rw[Ye,g1,g4,g5]
 unfold LC
 by_cases h1:a.lab=b.lab
 .
  rw[decide_eq_true h1];show pick2 (!eqI a.kind b.kind) _ _=_;rw[aN];by_cases h2:a.kind=b.kind
  .
   rw[if_pos h2,decide_eq_true h2,aN];by_cases h3:a.sz=b.sz
   .
    rw[if_pos h3,decide_eq_true h3];cases h4:decide (a.op=b.op)&&decide (a.hint=b.hint)&&rX a.args b.args with
    |false=>rfl
    |
     true =>
     show pick2 (!eqI a.data.length b.data.length) _ _=_;rw[aN];by_cases h5:a.data.length=b.data.length
     .
      rw[if_pos (by omega),MX h5]
      show pick2 (!decide (a.x=b.x)) FS (pick2 (!decide (a.times=b.times)) FS (some [AV.bool (rX a.data b.data)]))=some [AV.bool (true&&(true&&(true&&(true&&(rX a.data b.data&&(decide (a.x=b.x)&&decide (a.times=b.times)))))))];cases rX a.data b.data<;>cases decide (a.x=b.x)<;>cases decide (a.times=b.times)<;>rfl
     rw[if_neg (by omega),uN (λe=>h5 (by rw[e]))];rfl
   rw[if_neg h3,decide_eq_false h3];rfl
  rw[if_neg h2,decide_eq_false h2];rfl
 rw[decide_eq_false h1];rfl
def I1:List (Option Tv.Ty):=[none,none,none,none,none,some mg,some C4,some cz,some cz]
def PL (A:List AV):Option RS:=match A with
 |
  [.str lab,.int .i64 kind,.int .i64 sz,.int .i64 op,.int .i64 hint,R,D,X,T]=>match zF mg R,zF C4 D,zF cz X,zF cz T with
  |some r,some d,some x,some t=>some ⟨0,lab,kind,sz,op,hint,r,d,x,t,0,0⟩
  |_,_,_,_=>none
 |_=>none
theorem sP {A:List AV} {s:RS} (h:PL A=some s):A=JQ s:=by
 unfold PL at h
 split at h
 .
  split at h
  .
   rename_i r d x t h1 h2 h3 h4;cases h;rw[bZ h1,bZ h2,bZ h3,bZ h4];rfl
  cases h
 cases h
def fSs (vs:List AV):Option (Bool×List AV) :=
 match o6 [I1,I1] vs with
 |
  [.agg A,.agg B]=>match PL A,PL B with
  |some a,some b=>some (We a,[.bool (LC a b)])
  |_,_=>none
 |_=>none
theorem adq:cu X0 cq 30 ⟨none,[none,none],gV fSs⟩ :=
 yf rfl tP Up [I1,I1] NG λvs ws hf=>by
  unfold fSs at hf;split at hf
  case h_2=>cases hf
  rename_i A B hv;split at hf
  case h_2=>cases hf
  rename_i a b ha hb;simp only[Option.some.injEq,Prod.mk.injEq] at hf;obtain ⟨g0,rfl⟩:=hf;refine ⟨rfl,I0,a.data.length+1,?_⟩;rw[hv,sP ha,sP hb];exact ah0 g0
def LD:List kB:=(30,⟨none,[none,none],gV fSs⟩)::NS2
theorem uP:cR X0 cq LD:=.cons adq Up
end
end Go.Proofs.YtpaddkkfefgkfaaGreatDoor.ps

namespace Go.Proofs.YtpaddkkfefgkfaaGreatDoor.ps
open Go.Tv Go.Ev Go.Px Go.Pp Go.Proofs.YtpaddkkfefgkfaaGreatDoor.ex
set_option maxRecDepth 100000
noncomputable section
theorem qb (l:List Tok) (a:Int):(ai l a).1.length<=200:=by
 obtain ⟨⟨y,e,f,g⟩,hr⟩:=p7 (nm:=ax) l a
 have e1:ai l a=(y,e,f,g):=by unfold ai;rw[hr];rfl
 rw[e1]
 by_cases hf:f=0
 .
  have h:=((wh hr).2 hf).1;unfold iO at h;split at h
  .
   cases h
  show y.length<=200;omega
 have h:=((wh hr).1 hf).1
 show y.length<=200
 rw[h];simp
theorem Et (l:List Tok) (op sz:Int):(gy l op sz).1.2.2.2.1.length<=200:=by
 unfold gy
 split
 .
  split
  .
   simp[cD,zg]
  split
  .
   exact qb _ _
  simp[cD,zg]
 split
 .
  simp[cD,zg]
 rename_i en _
 generalize gx l op en Qr=o
 unfold uK
 split
 .
  simp[cD,zg]
 split
 .
  split<;>simp[cD,zg,XQ]
 split
 .
  simp[cD,zg]
 split
 .
  simp[cD,zg]
 split
 .
  exact qb _ _
 simp[cD,zg]
theorem I2 (l:List Tok) (a:Int):(aq l a).1.2.2.2.1.length<=200:=by
 have IM:(mU (ai l a)).1.2.2.2.1.length<=200:=by
  unfold mU;split
  .
   simp[cD,zg]
  exact qb _ _
 unfold aq
 split
 .
  simp[cD,zg]
 split
 .
  exact IM
 split
 .
  simp[acE]
 split
 .
  split
  .
   exact Et _ _ _
  simp[cD,zg]
 split
 .
  exact Et _ _ _
 exact IM
theorem adr (op:Int) (w:Raw):(ko op w).2.2.2.1=w.2.2.2.1:=by unfold ko;split<;>rfl
def Cb (l:List Raw):Prop:=l.length<=4/\∀r∈l,r.2.2.2.1.length<=200
theorem Ur (l:List Tok) (op hint:Int):∀(m:Nat) (a:Int) (args:List Raw) (c:yb),args.length<=3->(∀r∈args,r.2.2.2.1.length<=200)->zP l op hint m a args=some c->Cb c.2.2.1
 |0,_,_,_,_,_,h=>by cases h
 |
  m+1,a,args,c,h1,h2,h=>by
  have hr:∀r∈args++[ko op (aq l a).1],r.2.2.2.1.length<=200:=λr hr=>by
   rcases List.mem_append.1 hr with hr|hr
   .
    exact h2 r hr
   rw[List.mem_singleton.1 hr,adr];exact I2 _ _
  have hn:Cb []:=⟨by simp,by simp⟩
  unfold zP at h;split at h
  .
   cases h;exact hn
  split at h
  .
   cases h;exact ⟨by simp;omega,hr⟩
  split at h
  .
   cases h;exact hn
  split at h
  .
   cases h;exact hn
  exact Ur l op hint m _ _ c (by simp;omega) hr h
theorem rY (l:List Tok) (a:Int):Cb (az l a).2.2.1:=by
 have hn:Cb []:=⟨by simp,by simp⟩
 unfold az
 split
 .
  exact hn
 split
 .
  exact hn
 unfold Lt
 generalize (if kY l a=0 then a+1 else a+2)=b
 by_cases hb:b=(l.length:Int)
 .
  rw[if_pos hb];exact hn
 rw[if_neg hb]
 cases hc:zP l (C3 l a).1 (kY l a) 5 b [] with
 |none=>exact hn
 |some c=>exact Ur l _ _ _ _ _ _ (by simp) (by simp) hc
structure Gd (s:RS):Prop where
 ar:Cb s.args
 dl:s.data.length<=64
 dx:∀d∈s.data,d.2.length<=200
 xl:s.x.length<=200
 tl:s.times.length<=200
section
variable {n:Int} {l:List Tok}
theorem iD {s:RS} {e i:Int} (h:Gd s):Gd (cQ n l s e i).2:=⟨h.ar,h.dl,h.dx,h.xl,h.tl⟩
theorem NH {s:RS} {go:List Nd->Int->LR} (h:Gd s) (hg:∀x e,x.length<=200->Gd (go x e).2):Gd (JP n l s go).2:=by
 unfold JP
 split
 .
  exact iD h
 exact hg _ _ (qb _ _)
theorem LF {fin:Bool} {J:RS->LR} {s:RS} (h:Gd s) (hJ:Gd (J { s with a:=s.a+1 }).2):Gd (zh n l fin J s).2:=by
 unfold zh
 split
 .
  exact h
 split
 .
  exact hJ
 exact iD h
theorem sQ {s:RS} {a:Int} {d:Dt} (h:Gd s) (hl:s.data.length<=63) (hd:d.2.length<=200):Gd { s with a:=a,data:=s.data++[d] } :=
 ⟨h.ar,by simp;omega,λx hx=>by
  rcases List.mem_append.1 hx with hx|hx
  .
   exact h.dx x hx
  rw[List.mem_singleton.1 hx];exact hd,h.xl,h.tl⟩
theorem NJ {s:RS} {a:Int} (h:Gd s):Gd { s with a:=a }:=⟨h.ar,h.dl,h.dx,h.xl,h.tl⟩
theorem Us:∀(m:Nat) (s:RS),Gd s->Gd (Nv n l m s).2
 |0,s,h=>h
 |
  m+1,s,h=>by
  have hl:=h.dl;unfold Nv;split
  .
   exact iD h
  split
  .
   exact LF (sQ h (by omega) (by simp)) (Us m _ (NJ (sQ h (by omega) (by simp))))
  exact NH h λx e hx=>LF (sQ h (by omega) hx) (Us m _ (NJ (sQ h (by omega) hx)))
theorem aaf:∀(m:Nat) (s:RS),Gd s->s.data.length<=3->Gd (Wd n l m s).2
 |0,s,h,_=>h
 |
  m+1,s,h,hl=>by
  unfold Wd;split
  .
   exact iD h
  exact NH h λx e hx=>LF (sQ h (by omega) hx) (aaf m _ (NJ (sQ h (by omega) hx)) (by show (s.data++[([],x)]).length<=3;simp;omega))
theorem LG {i:Int} {s:RS} {k:RS->LR} (h:Gd s) (hk:∀t,Gd (k { s with lab:=t }).2):Gd (tq n l i s k).2:=by
 unfold tq
 split
 .
  exact iD h
 split
 .
  exact iD h
 exact hk _
theorem LH {s:RS} (h:Gd s):Gd (wB n l s).2:=by
 unfold wB
 split
 .
  exact h
 exact iD h
theorem zT {kind:Int} {s:RS} (h:Gd s):Gd (rW n l kind s).2 :=
 NH (s:={ s with kind:=kind }) ⟨h.ar,h.dl,h.dx,h.xl,h.tl⟩ λx e hx=>LH ⟨h.ar,h.dl,h.dx,hx,h.tl⟩
theorem Yf {w:List UInt8} {s:RS} (h:Gd s) (hd:s.data=[]):Gd (dU n l w s).2:=by
 unfold dU
 split
 .
  exact Us _ _ ⟨h.ar,h.dl,h.dx,h.xl,h.tl⟩
 split
 .
  exact zT ⟨h.ar,h.dl,h.dx,h.xl,h.tl⟩
 split
 .
  exact zT ⟨h.ar,h.dl,h.dx,h.xl,h.tl⟩
 split
 .
  exact zT ⟨h.ar,h.dl,h.dx,h.xl,h.tl⟩
 split
 .
  exact LG ⟨h.ar,h.dl,h.dx,h.xl,h.tl⟩ λt=>LH ⟨h.ar,h.dl,h.dx,h.xl,h.tl⟩
 split
 .
  exact LH ⟨h.ar,h.dl,h.dx,h.xl,h.tl⟩
 split
 .
  exact aaf _ _ ⟨h.ar,h.dl,h.dx,h.xl,h.tl⟩ (by show s.data.length<=3;rw[hd];simp)
 split
 .
  unfold T7;split
  .
   exact iD h
  exact ⟨rY _ _,h.dl,h.dx,h.xl,h.tl⟩
 exact iD h
theorem NK {aZ:Bool} {s:RS} (h:Gd s) (hd:s.data=[]):Gd (iH n l aZ s).2:=by
 unfold iH
 split
 .
  split
  .
   exact iD h
  exact h
 split
 .
  exact iD h
 unfold F9
 split
 .
  exact iD h
 split
 .
  exact iD h
 exact Yf h hd
theorem I3 {s:RS} (h:Gd s) (hd:s.data=[]):Gd (gz n l s).2:=by
 unfold gz
 split
 .
  exact NH (NJ h) λx e hx=>NK ⟨h.ar,h.dl,h.dx,h.xl,hx⟩ hd
 exact NK h hd
theorem ads:Gd eJ:=⟨⟨by simp[eJ],by simp[eJ]⟩,by simp[eJ],by simp[eJ],by simp[eJ],by simp[eJ]⟩
theorem Yg:Gd (cZ n l eJ).2:=by
 have h:=ads
 unfold cZ
 split
 .
  exact LG h λt=>zT ⟨h.ar,h.dl,h.dx,h.xl,h.tl⟩
 split
 .
  exact LG h λt=>I3 ⟨h.ar,h.dl,h.dx,h.xl,h.tl⟩ rfl
 exact I3 h rfl
end
theorem Yh (s:List UInt8):Gd (cH s).1:=by
 unfold cH
 split
 .
  exact ads
 split
 .
  exact Yg
 exact ads
theorem ah1 {s:RS} (h:Gd s):We s=true:=by
 obtain ⟨⟨h1,h2⟩,h3,h4,h5,h6⟩:=h
 unfold We Yd
 simp only[Bool.and_eq_true,List.all_eq_true]
 exact ⟨⟨cj (by omega),λr hr=>cj (by have:=h2 r hr;omega)⟩,⟨cj (by omega),λd hd=>cj (by have:=h4 d hd;omega)⟩,cj (by omega),cj (by omega)⟩
theorem zU (s:List UInt8):We (cH s).1=true:=ah1 (Yh s)
def yV (s:List UInt8) (b:RS):Bool:=decide ((cH s).2.1=0)&&LC (cH s).1 b
def Ut (s:List UInt8) (e a:Int):Bool:=LC (cH s).1 eJ&&(decide ((cH s).2.1=e)&&decide ((cH s).2.2=a))
theorem adt (s:List UInt8) (b:RS):ag X0 (cN S1 LD _) bW 5 18 [.str s,.agg (JQ b)] aa.empty (mB NG)=pick2 (eqI (cH s).2.1 0) (pick2 (We (cH s).1) (some [.bool (LC (cH s).1 b)]) none) (some [.bool false]):=by kernel_rfl
theorem adu (s:List UInt8) (e a:Int):ag X0 (cN S1 LD _) bW 5 17 [.str s,.int .i64 e,.int .i64 a] aa.empty (mB NG)=pick2 (We (cH s).1) (pick2 (LC (cH s).1 eJ) (some [.bool (decide ((cH s).2.1=e)&&decide ((cH s).2.2=a))]) (some [.bool false])) none:=by kernel_rfl
def fSy (vs:List AV):Option (Bool×List AV) :=
 match o6 [[none],I1] vs with
 |
  [.str s,.agg B]=>match PL B with
  |some b=>some (true,[.bool (yV s b)])
  |none=>none
 |_=>none
theorem Uu:cu X0 cq 18 ⟨none,[none,none],gV fSy⟩ :=
 yf rfl tP uP [[none],I1] NG λvs ws hf=>by
  unfold fSy at hf;split at hf
  case h_2=>cases hf
  rename_i s B hv;split at hf
  case h_2=>cases hf
  rename_i b hb;simp only[Option.some.injEq,Prod.mk.injEq] at hf;obtain ⟨_,rfl⟩:=hf;refine ⟨rfl,bW,5,?_⟩;rw[hv,sP hb,adt,zU,av];unfold yV;by_cases h:(cH s).2.1=0
  .
   rw[if_pos h,decide_eq_true h];rfl
  rw[if_neg h,decide_eq_false h];rfl
def fFl (vs:List AV):Option (Bool×List AV) :=
 match vs with
 |[.str s,.int .i64 e,.int .i64 a]=>some (true,[.bool (Ut s e a)])
 |_=>none
theorem PM:cu X0 cq 17 ⟨none,[none,none,none],gV fFl⟩ :=
 Ei rfl tP uP NG λvs ws hf=>by
  unfold fFl at hf;split at hf
  case h_2=>cases hf
  rename_i s e a;simp only[Option.some.injEq,Prod.mk.injEq] at hf;obtain ⟨_,rfl⟩:=hf;refine ⟨rfl,bW,5,?_⟩;rw[adu,zU];unfold Ut;cases LC (cH s).1 eJ<;>rfl
def NS4:List kB:=(18,⟨none,[none,none],gV fSy⟩)::(17,⟨none,[none,none,none],gV fFl⟩)::LD
theorem alU:cR X0 cq NS4:=.cons Uu (.cons PM uP)
end
end Go.Proofs.YtpaddkkfefgkfaaGreatDoor.ps

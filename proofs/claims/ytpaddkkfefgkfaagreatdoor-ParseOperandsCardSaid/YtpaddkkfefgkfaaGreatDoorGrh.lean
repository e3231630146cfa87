/- What is said held against what is wanted: nodes. What is said held against what is wanted: contracts of values, instructions. What is said held against what is wanted: contracts of instructions, statements. What a line says is not too long; contracts of says and fails. -/
import Derived.Test.YtpaddkkfefgkfaaGreatDoorGrg
set_option linter.unusedVariables false
set_option linter.unusedSimpArgs false

namespace Go.Proofs.YtpaddkkfefgkfaaGreatDoor.ps
open Go.Tv Go.Ev Go.Px Go.Pp Go.Proofs.YtpaddkkfefgkfaaGreatDoor.ex
set_option maxRecDepth 100000
noncomputable section
def ajX (x y:Nd):Bool:=decide (x.1=y.1)&&(decide (x.2.1=y.2.1)&&(decide (x.2.2.1=y.2.2.1)&&(decide (x.2.2.2.1=y.2.2.2.1)&&decide (x.2.2.2.2=y.2.2.2.2))))
def pSn:List Bool:=[true,true,false,true,false]
def afV:bG:=⟨cG [0,1,4,5] pSn,.none,[]⟩
def jSn (x y:List Nd) (r m:Nat) (i:Int):Option AV:=cK X0 (cN P3 [] AV) afV r 66 pSn (λv _=>some v) m (fY 26 [(0,.bA bW x),(1,.bA bW y),(4,.bool false),(5,.int .i64 i)]) (iC [])
def gSn (args:List AV):Option (Bool×List aZ) :=
 match args with
 |
  [L,R]=>match xh bW L,xh bW R with
  |some x,some y=>some (Nat.ble x.length 900000,[.val (.bool (decide (x=y)))])
  |_,_=>none
 |_=>none
def S1:List kH:=(66,[some bW,some bW],gSn)::P3
end
end Go.Proofs.YtpaddkkfefgkfaaGreatDoor.ps

namespace Go.Proofs.YtpaddkkfefgkfaaGreatDoor.ps
open Go.Tv Go.Ev Go.Px Go.Pp Go.Proofs.YtpaddkkfefgkfaaGreatDoor.ex
set_option maxRecDepth 100000
noncomputable section
theorem PN {id:FuncId} (hk:lt.inl id=true) {M:List kH} {N:List jo} (hM:cg X0 cI M) (hN:eI X0 cI N) {sig:List (Option (TypeId×Tv.Ty))} {f:List AV->Option (Bool×List AV)} (sgA sg:List (List (Option Tv.Ty)))
 (h:∀vs ws,f vs=some (true,ws)->ws.all Ak=true/\∃an rounds,ag X0 (cN M N _) an rounds id (ng sgA vs) aa.empty (pX sg)=some ws):dX X0 cI id ⟨none,sig,gV f⟩:=by
 intro ins outs rs hg
 have hg:gV f ins=some (true,outs,rs):=hg
 unfold gV at hg
 split at hg
 case h_2=>cases hg
 rename_i vs hv
 split at hg
 case h_2=>cases hg
 rename_i c ws hf
 simp only[Option.some.injEq,Prod.mk.injEq] at hg
 obtain ⟨rfl,_,rfl⟩:=hg
 obtain ⟨h1,an,rounds,h2⟩:=h vs ws hf
 have hi:=p6 hv
 subst hi
 intro _
 obtain ⟨M1,h4⟩:=BO (nk hk) (bR hM hN _) h2
 refine ⟨ws,M1,?_,pY h1⟩
 rw[nU,sw]
 exact λS E aB hr hgl hl=>h4 S E aB hr hgl (ue sgA hl)
def wP {α:Type} (a b:α):Bool:=@decide (a=b) (Classical.propDecidable _)
theorem nW {α:Type} {a b:α}:wP a b=true↔a=b:=by
 unfold wP
 exact @decide_eq_true_iff _ (Classical.propDecidable _)
theorem zA {α:Type} (a:α):wP a a=true:=nW.2 rfl
theorem PS {α:Type} {a b:α} (h:a≠b):wP a b=false:=by
 cases he:wP a b with
 |false=>rfl
 |true=>exact absurd (nW.1 he) h
def FH (A:List AV):Option Raw:=match A with
 |
  [.int .i64 k,.int .i64 c,.int .i64 n,.int .i64 bc,.int .i64 bn,.int .i64 ic,.int .i64 ix,.int .i64 sc,.int .i64 d,.int .i64 z,X,.bool r]=>match xh bW X with
  |some x=>some (k,(c,n),((bc,bn),(ic,ix),sc,d,z),x,r)
  |none=>none
 |_=>none
theorem H8 {A:List AV} {a:Raw} (h:FH A=some a):A=XO a:=by
 unfold FH at h
 split at h
 .
  split at h
  .
   rename_i x hx;cases h;rw[eF hx];rfl
  cases h
 cases h
def Tf:List (Option Tv.Ty):=[none,none,none,none,none,none,none,none,none,none,some bW,none]
def fSr (vs:List AV):Option (Bool×List AV) :=
 match ng [Tf,Tf] vs with
 |
  [.agg A,.agg B]=>match FH A,FH B with
  |some a,some b=>some (Nat.ble a.2.2.2.1.length 900000,[.bool (wP a b)])
  |_,_=>none
 |_=>none
def sg1:List (List (Option Tv.Ty)):=[[none]]
def NS1:List jo:=(80,⟨none,[none,none],gV fSr⟩)::NR
theorem PT {α β:Type} {x y:List α} (hx:x.length<1000000) (hxy:x.length=y.length) {ok:α->Bool} {F T:Option β} {j:Nat->Int->Option β}
 (step:∀m i a b,i<(x.length:Int)->aS x i=some a->aS y i=some b->ok a=true->j (m+1) i=pick2 (!wP a b) F (j m (IntKind.wrap .i64 (i+1)))) (stop:∀m,j (m+1) x.length=T) :
 ∀(rest pre rest':List α) (m:Nat),x=pre++rest->y.drop pre.length=rest'->rest.length<m->(∀a∈rest,ok a=true)->j m pre.length=pick2 (wP rest rest') T F:=by
 intro rest
 induction rest with
 |
  nil =>
  intro pre rest' m he hy hm _;obtain ⟨m,rfl⟩:∃m',m=m'+1:=⟨m-1,by simp at hm;omega⟩
  have hl:x.length=pre.length:=by rw[he];simp
  have:rest'=[]:=by rw[<-hy,List.drop_eq_nil_iff];omega
  subst this;have hs:=stop m;rw[hl] at hs;rw[hs,zA]
 |
  cons a rest ih =>
  intro pre rest' m he hy hm hok;obtain ⟨m,rfl⟩:∃m',m=m'+1:=⟨m-1,by simp at hm;omega⟩
  have hl:x.length=pre.length+(rest.length+1):=by rw[he];simp
  have hg:aS x (pre.length:Int)=some a:=by rw[he];exact eo pre rest a
  have hlt:pre.length<y.length:=by omega
  have hg2:aS y (pre.length:Int)=some y[pre.length]:=by rw[lg,List.getElem?_eq_getElem hlt]
  have hr:rest'=y[pre.length]::y.drop (pre.length+1):=by rw[<-hy];exact List.drop_eq_getElem_cons hlt
  have hin:=ih (pre++[a]) (y.drop (pre.length+1)) m (by rw[he];simp) (by simp) (by simp at hm;omega) (λb hb=>hok b (by simp[hb]))
  rw[List.length_append] at hin;have hin:j m ((pre.length:Int)+1)=pick2 (wP rest (y.drop (pre.length+1))) T F:=hin;rw[step m pre.length a y[pre.length] (by omega) hg hg2 (hok a (by simp)),i64_in (n:=(pre.length:Int)+1) (by omega) (by omega),hin,hr]
  cases he:wP a y[pre.length] with
  |
   true =>
   have:=nW.1 he;show pick2 (wP rest (y.drop (pre.length+1))) T F=_
   have e:wP (a::rest) (y[pre.length]::y.drop (pre.length+1))=wP rest (y.drop (pre.length+1)):=by
    rw[Bool.eq_iff_iff,nW,nW,<-this];simp
   rw[e]
  |
   false =>
   have hne:a≠y[pre.length]:=λh=>by rw[nW.2 h] at he;cases he
   rw[PS (λh=>hne (List.cons.inj h).1)];rfl
end
end Go.Proofs.YtpaddkkfefgkfaaGreatDoor.ps

namespace Go.Proofs.YtpaddkkfefgkfaaGreatDoor.ps
open Go.Tv Go.Ev Go.Px Go.Pp Go.Proofs.YtpaddkkfefgkfaaGreatDoor.ex
set_option maxRecDepth 100000
noncomputable section
abbrev Tg:=Option (List AV)
def FS:Tg:=some [.bool false]
def TS':Tg:=some [.bool true]
def pSc:List Bool:=[true,true,false,true,false]
def ach:bG:=⟨cG [2,3,4,5] pSc,.none,[]⟩
def Yb (o h:Int) (a:List Raw):List AV:=[.int .i64 o,.int .i64 h,.bA jX a]
def jSc (o h:Int) (a:List Raw) (o' h':Int) (b:List Raw) (r m:Nat) (i:Int):Tg:=cK X0 (cN S1 NS1 _) ach r 42 pSc (pX sg1) m (fY 46 [(2,.ptr 0 0),(3,.ptr 1 0),(4,.bool false),(5,.int .i64 i)]) (iC [.cells 34 (Yb o h a),.cells 34 (Yb o' h' b)])
def okR (l:List Raw):Bool:=Nat.ble l.length 900000&&l.all (λr=>Nat.ble r.2.2.2.1.length 900000)
def Th:List (Option Tv.Ty):=[none,none,some jX]
def fSc (vs:List AV):Option (Bool×List AV) :=
 match ng [Th,Th] vs with
 |
  [.agg [.int .i64 o,.int .i64 h,L],.agg [.int .i64 o',.int .i64 h',L']]=>match xh jX L,xh jX L' with
  |some a,some b=>some (okR a,[.bool (decide (o=o')&&decide (h=h')&&wP (α:=List Raw) a b)])
  |_,_=>none
 |_=>none
def NS2:List jo:=(42,⟨none,[none,none],gV fSc⟩)::NS1
def stA (s:RS):List AV:=[.str s.lab,.int .i64 s.kind,.int .i64 s.sz,.int .i64 s.op,.int .i64 s.hint,.bA jX s.args,.bA Dv s.data,.bA bW s.x,.bA bW s.times]
def jSs (a b:RS) (r m:Nat) (i:Int):Tg:=cK X0 (cN S1 NS2 _) ach r 30 pSc (pX sg1) m (fY 94 [(2,.ptr 0 0),(3,.ptr 1 0),(4,.bool false),(5,.int .i64 i)]) (iC [.cells 38 (stA a),.cells 38 (stA b)])
def eqS (a b:RS):Bool:=decide (a.lab=b.lab)&&(decide (a.kind=b.kind)&&(decide (a.sz=b.sz)&&(decide (a.op=b.op)&&decide (a.hint=b.hint)&&wP a.args b.args&&(wP a.data b.data&&(decide (a.x=b.x)&&decide (a.times=b.times))))))
def okS (s:RS):Bool:=okR s.args&&(Nat.ble s.data.length 900000&&s.data.all (λd=>Nat.ble d.2.length 900000)&&(Nat.ble s.x.length 900000&&Nat.ble s.times.length 900000))
def Ti:List (Option Tv.Ty):=[none,none,none,none,none,some jX,some Dv,some bW,some bW]
def Tj (A:List AV):Option RS:=match A with
 |
  [.str lab,.int .i64 kind,.int .i64 sz,.int .i64 op,.int .i64 hint,R,D,X,T]=>match xh jX R,xh Dv D,xh bW X,xh bW T with
  |some r,some d,some x,some t=>some ⟨0,lab,kind,sz,op,hint,r,d,x,t,0,0⟩
  |_,_,_,_=>none
 |_=>none
def fSs (vs:List AV):Option (Bool×List AV) :=
 match ng [Ti,Ti] vs with
 |
  [.agg A,.agg B]=>match Tj A,Tj B with
  |some a,some b=>some (okS a,[.bool (eqS a b)])
  |_,_=>none
 |_=>none
def NS3:List jo:=(30,⟨none,[none,none],gV fSs⟩)::NS2
end
end Go.Proofs.YtpaddkkfefgkfaaGreatDoor.ps

namespace Go.Proofs.YtpaddkkfefgkfaaGreatDoor.ps
open Go.Tv Go.Ev Go.Px Go.Pp Go.Proofs.YtpaddkkfefgkfaaGreatDoor.ex
set_option maxRecDepth 100000
noncomputable section
theorem sy (l:List Tok) (a:Int):(ak l a).1.length<=200:=by
 obtain ⟨⟨y,e,f,g⟩,hr⟩:=sr (nm:=ay) l a
 have e1:ak l a=(y,e,f,g):=by unfold ak;rw[hr];rfl
 rw[e1]
 by_cases hf:f=0
 .
  have h:=((tW hr).2 hf).1;unfold gI at h;split at h
  .
   cases h
  show y.length<=200;omega
 have h:=((tW hr).1 hf).1
 show y.length<=200
 rw[h];simp
theorem B2 (l:List Tok) (op sz:Int):(eY l op sz).1.2.2.2.1.length<=200:=by
 unfold eY
 split
 .
  split
  .
   simp[bS,wO]
  split
  .
   exact sy _ _
  simp[bS,wO]
 split
 .
  simp[bS,wO]
 rename_i en _
 generalize fI l op en FD=o
 unfold sv
 split
 .
  simp[bS,wO]
 split
 .
  split<;>simp[bS,wO,Pt]
 split
 .
  simp[bS,wO]
 split
 .
  simp[bS,wO]
 split
 .
  exact sy _ _
 simp[bS,wO]
theorem FI (l:List Tok) (a:Int):(aq l a).1.2.2.2.1.length<=200:=by
 have Pz:(lH (ak l a)).1.2.2.2.1.length<=200:=by
  unfold lH;split
  .
   simp[bS,wO]
  exact sy _ _
 unfold aq
 split
 .
  simp[bS,wO]
 split
 .
  exact Pz
 split
 .
  simp[XR]
 split
 .
  split
  .
   exact B2 _ _ _
  simp[bS,wO]
 split
 .
  exact B2 _ _ _
 exact Pz
theorem Yc (op:Int) (w:Raw):(gx op w).2.2.2.1=w.2.2.2.1:=by unfold gx;split<;>rfl
def zB (l:List Raw):Prop:=l.length<=4/\∀r∈l,r.2.2.2.1.length<=200
theorem PU (l:List Tok) (op hint:Int):∀(m:Nat) (a:Int) (args:List Raw) (c:Ap),args.length<=3->(∀r∈args,r.2.2.2.1.length<=200)->zZ l op hint m a args=some c->zB c.2.2.1
 |0,_,_,_,_,_,h=>by cases h
 |
  m+1,a,args,c,h1,h2,h=>by
  have hr:∀r∈args++[gx op (aq l a).1],r.2.2.2.1.length<=200:=λr hr=>by
   rcases List.mem_append.1 hr with hr|hr
   .
    exact h2 r hr
   rw[List.mem_singleton.1 hr,Yc];exact FI _ _
  have hn:zB []:=⟨by simp,by simp⟩
  unfold zZ at h;split at h
  .
   cases h;exact hn
  split at h
  .
   cases h;exact ⟨by simp;omega,hr⟩
  split at h
  .
   cases h;exact hn
  split at h
  .
   cases h;exact hn
  exact PU l op hint m _ _ c (by simp;omega) hr h
theorem FJ (l:List Tok) (a:Int):zB (aF l a).2.2.1:=by
 have hn:zB []:=⟨by simp,by simp⟩
 unfold aF
 split
 .
  exact hn
 split
 .
  exact hn
 unfold HY
 generalize (if jt l a=0 then a+1 else a+2)=b
 by_cases hb:b=(l.length:Int)
 .
  rw[if_pos hb];exact hn
 rw[if_neg hb]
 cases hc:zZ l (zY l a).1 (jt l a) 5 b [] with
 |none=>exact hn
 |some c=>exact PU l _ _ _ _ _ _ (by simp) (by simp) hc
structure Gd (s:RS):Prop where
 ar:zB s.args
 dl:s.data.length<=64
 dx:∀d∈s.data,d.2.length<=200
 xl:s.x.length<=200
 tl:s.times.length<=200
section
variable {n:Int} {l:List Tok}
end
def U8 (s:List UInt8) (b:RS):Bool:=decide ((qa s).2.1=0)&&eqS (qa s).1 b
def Yd (s:List UInt8) (e a:Int):Bool:=eqS (qa s).1 xy&&(decide ((qa s).2.1=e)&&decide ((qa s).2.2=a))
def fSy (vs:List AV):Option (Bool×List AV) :=
 match ng [[none],Ti] vs with
 |
  [.str s,.agg B]=>match Tj B with
  |some b=>some (true,[.bool (U8 s b)])
  |none=>none
 |_=>none
def fFl (vs:List AV):Option (Bool×List AV) :=
 match vs with
 |[.str s,.int .i64 e,.int .i64 a]=>some (true,[.bool (Yd s e a)])
 |_=>none
def NS4:List jo:=(18,⟨none,[none,none],gV fSy⟩)::(17,⟨none,[none,none,none],gV fFl⟩)::NS3
end
end Go.Proofs.YtpaddkkfefgkfaaGreatDoor.ps

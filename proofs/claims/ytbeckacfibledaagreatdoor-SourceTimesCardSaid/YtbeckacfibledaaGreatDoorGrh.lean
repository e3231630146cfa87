/- Expressions: whether one may be. -/
import Derived.Test.YtbeckacfibledaaGreatDoorGrc
import Derived.Test.YtbeckacfibledaaGreatDoorGxa
set_option linter.unusedVariables false
set_option linter.unusedSimpArgs false

namespace Go.Proofs.YtbeckacfibledaaGreatDoor.ex
open Go.Tv Go.Ev Go.Px
set_option maxRecDepth 100000
noncomputable section
theorem RK (op n l r:Int)(s:au):gN bZ (op,n,s,l,r)=true↔1<=op/\op<=16/\(op=1\/n=0)/\(op=2->bZ s=true)/\(op≠2->s=[])/\(op<=4->l=0)/\(6<op\/r=0):=by
 simp only[gN,ak,dA,aZ,aU,bJ];constructor
 .rintro ⟨⟨⟨⟨⟨b,c⟩,d⟩,a⟩,g⟩,e⟩;refine⟨b,c,d,λh=>by rw[ag h]at a;exact a,λh=>by rw[aa h]at a;exact gz a,λh=>by omega,e⟩
 rintro⟨b,c,d,a,f,g,e⟩;refine⟨⟨⟨⟨⟨b,c⟩,d⟩,?_⟩,by omega⟩,e⟩;split
 .rename_i h;exact a h
 rename_i h;exact bg (f h)
def LQ (op n l r:Int)(s:au):bx :=
 let b:bx:=ah (bN 6 op) (some (.bool true)) (some (.bool (bS r 0)))
 let c:bx:=ah (!bN 4 op) (ah (!bS l 0) (some (.bool false)) b) b
 let a:bx:=ah (!bS op 2) (ah (!decide (s=[])) (some (.bool false)) c) c
 let r1:bx:=ah (bS op 2) (ah (!bZ s) (some (.bool false)) a) a
 ah (bN op 1) (some (.bool false)) (ah (bN 16 op) (some (.bool false)) (ah (!bS op 1) (ah (!bS n 0) (some (.bool false)) r1) r1))
theorem aei (op n l r:Int)(s:au):aT X0 (cN M6 [] AV) gC 5 148 [.agg [.int .i64 op,.int .i64 n,.str s,.int .i64 l,.int .i64 r]] aH.empty (λv _=>some v)=LQ op n l r s:=by kernel_rfl
theorem RM (op n l r:Int)(s:au):LQ op n l r s=some (.bool (gN bZ (op,n,s,l,r))):=by
 have j:∀b:Bool,(b=true↔gN bZ (op,n,s,l,r)=true)->some (AV.bool b)=some (.bool (gN bZ (op,n,s,l,r))):=λb h=>by rw[bX.2 h]
 have hi:=RK op n l r s;unfold LQ;simp only[de,jM,cH,cF];have no:¬(1<=op/\op<=16/\(op=1\/n=0)/\(op=2->bZ s=true)/\(op≠2->s=[])/\(op<=4->l=0)/\(6<op\/r=0))->some (AV.bool false)=some (.bool (gN bZ (op,n,s,l,r))):=λh=>j false ⟨λh=>(by cases h),λg=>absurd (hi.1 g) h⟩
 by_cases k:op<1
 .rw[ag k];exact no (by omega)
 rw[aa k];by_cases g:16<op
 .rw[ag g];exact no (by omega)
 rw[aa g];by_cases a:op=1\/n=0
 .
  -- the text
  have r1:(if op=2 then ah (!bZ s) (some (AV.bool false)) (if op=2 then (if op<=4 then (if l=0 then (if 6<op then some (AV.bool true) else some (AV.bool (bS r 0))) else some (AV.bool false)) else (if 6<op then some (AV.bool true) else some (AV.bool (bS r 0)))) else ah (!decide (s=[])) (some (AV.bool false)) (if op<=4 then (if l=0 then (if 6<op then some (AV.bool true) else some (AV.bool (bS r 0))) else some (AV.bool false)) else (if 6<op then some (AV.bool true) else some (AV.bool (bS r 0)))))
   else if op=2 then (if op<=4 then (if l=0 then (if 6<op then some (AV.bool true) else some (AV.bool (bS r 0))) else some (AV.bool false)) else (if 6<op then some (AV.bool true) else some (AV.bool (bS r 0)))) else ah (!decide (s=[])) (some (AV.bool false)) (if op<=4 then (if l=0 then (if 6<op then some (AV.bool true) else some (AV.bool (bS r 0))) else some (AV.bool false)) else (if 6<op then some (AV.bool true) else some (AV.bool (bS r 0)))))=some (.bool (gN bZ (op,n,s,l,r))):=by
   have m:∀(c:(op=2->bZ s=true)/\(op≠2->s=[])) (d:op<=4->l=0),(if 6<op then some (AV.bool true) else some (AV.bool (bS r 0)))=some (.bool (gN bZ (op,n,s,l,r))):=λc d=>by
    split
    .rename_i o;exact j true ⟨λ_=>hi.2 ⟨by omega,by omega,a,c.1,c.2,d,.inl o⟩,λ_=>rfl⟩
    rename_i o;refine j _ ?_;rw[hi,fD,fL];exact⟨λh=>⟨by omega,by omega,a,c.1,c.2,d,.inr h⟩,λh=>by omega⟩
   have p:∀(c:(op=2->bZ s=true)/\(op≠2->s=[])),(if op<=4 then (if l=0 then (if 6<op then some (AV.bool true) else some (AV.bool (bS r 0))) else some (AV.bool false)) else (if 6<op then some (AV.bool true) else some (AV.bool (bS r 0))))=some (.bool (gN bZ (op,n,s,l,r))):=λc=>by
    by_cases q:op<=4
    .rw[ag q];by_cases d:l=0
     .rw[ag d];exact m c (λ_=>d)
     rw[aa d];exact no (by omega)
    rw[aa q];exact m c (by omega)
   by_cases e:op=2
   .simp only[ag e];cases t:bZ s with
    |true=>exact p ⟨λ_=>t,λh=>absurd e h⟩
    |false=>exact no (λh=>by have:=h.2.2.2.1 e;rw[t]at this;cases this)
   simp only[aa e];by_cases i:s=[]
   .rw[bg i];exact p ⟨λh=>absurd h e,λ_=>i⟩
   rw[aY i];exact no (λh=>i (h.2.2.2.2.1 e))
  rcases a with a|a
  .rw[ag a];exact r1
  by_cases f:op=1
  .rw[ag f];exact r1
  rw[aa f,ag a];exact r1
 rw[aa (λh=>a (.inl h)),aa (λh=>a (.inr h))];exact no (λh=>a h.2.2.1)
def gFd (args:aI):Option (Bool×List gj) :=
 match args with
 |[.agg [.int .i64 op,.int .i64 n,.str s,.int .i64 l,.int .i64 r]]=>some (true,[.val (.bool (gN bZ (op,n,s,l,r)))])
 |_=>none
theorem akj:dQ X0 gR 148 gFd :=
 dG (λargs=>lt.cn rfl args) (kP yo n0) λargs rs a=>by
  unfold gFd at a;split at a
  .rename_i op n s l r;simp only[aq,az]at a;obtain⟨b,rfl⟩:=a;exact⟨[.bool (gN bZ (op,n,s,l,r))],gC,5,(aei op n l r s).trans (RM op n l r s),rfl,rfl⟩
  cases a
def M7:List xw:=(148,[none],gFd)::M6
theorem agV:jy X0 gR M7:=.cons akj yo
def pCk:eJ:=[true,true,true,false,true,false]
def VP:fe:=⟨iM [2,3,10,11,12] pCk,.none,[71,47]⟩
def apv (x:bz)(o:AV)(i:Int):gJ:=lS 80 [(2,.int .i64 0),(3,o),(10,.eC fA x),(11,.int .i64 x.length),(12,.int .i64 i)]
def jC0 (x:bz)(r m:Nat)(i:Int):bx:=jo X0 (cN M7 [] AV) VP r 123 pCk (λv _=>some v) m (apv x .eB i) (oL [])
def jC1 (x:bz)(r m:Nat)(n:Nat)(o:cZ)(i:Int):bx:=jo X0 (cN M7 [] AV) VP r 123 pCk (λv _=>some v) m (apv x (.own 0 n) i) (oL [.list 3 (.int .i64) o 0 false false])
def e2:bx:=some (.int .i64 2)
def aai (o:cZ)(i:Int)(k:Nat->cZ->bx):bx:=ah (Nat.ble (o.length+1) 2000000) (k (o.length+1) (o++[i])) none
def aej (o:cZ)(b:Int)(k:cZ->bx):bx:=ah (!bN b 0 && !bN o.length b) (k (o.take b.toNat)) none
def aaj (o:cZ)(j:Int)(z:Int)(k:bx):bx:=Option.rec (motive:=λ_=>bx) none (λy=>ah (!bS z y) e2 k) (eL o j)
def xk (n:Nat)(o:cZ)(i:Int)(nd:Nd)(go:Nat->cZ->bx):bx :=
 ah (!gN bZ nd) e2 (ah (!bN 4 nd.1) (aai o i go)
  (ah (!bN 6 nd.1) (ah (bN n 1) e2 (aaj o (IntKind.wrap .i64 (n-1)) nd.2.2.2.1 (aej o (IntKind.wrap .i64 (n-1)) λo=>aai o i go)))
   (ah (bN n 2) e2 (aaj o (IntKind.wrap .i64 (n-2)) nd.2.2.2.1 (aaj o (IntKind.wrap .i64 (n-1)) nd.2.2.2.2 (aej o (IntKind.wrap .i64 (n-2)) λo=>aai o i go))))))
set_option maxRecDepth 100000 in
theorem aak (x:bz)(r m n:Nat)(o:cZ)(i:Int):jC1 x r (m+1) n o i =
 ah (bN i x.length) (Option.rec (motive:=λ_=>bx) none (λnd=>xk n o i nd λn o=>jC1 x r m n o (IntKind.wrap .i64 (i+1))) (eL x i)) (ah (!bS n 1) e2 (some (.int .i64 0))):=by kernel_rfl
set_option maxRecDepth 100000 in
theorem akl (x:bz)(r m:Nat)(i:Int):jC0 x r (m+1) i =
 ah (bN i x.length) (Option.rec (motive:=λ_=>bx) none (λnd=>ah (!gN bZ nd) e2 (ah (!bN 4 nd.1) (jC1 x r m 1 [i] (IntKind.wrap .i64 (i+1))) (ah (!bN 6 nd.1) e2 e2))) (eL x i)) e2:=by kernel_rfl
set_option maxRecDepth 100000 in
theorem aek (x:bz)(r:Nat):aT X0 (cN M7 [] AV) VP r 123 [.eC fA x] aH.empty (λv _=>some v)=ah (bN 200 x.length) (some (.int .i64 3)) (jC0 x r r 0):=by kernel_rfl
set_option maxRecDepth 100000 in
theorem aal (r:Nat):aT X0 (cN M7 [] AV) VP (r+1) 123 [.eB] aH.empty (λv _=>some v)=e2:=by kernel_rfl
theorem apw (x:bz)(F:x.length<=1000)(r:Nat):∀(rest pre:bz) (m:Nat) (o:cZ),x=pre++rest->rest.length<m->o.length<=pre.length->jC1 x r m o.length o pre.length=some (.int .i64 (vM bZ pre.length rest o)):=by
 intro rest;induction rest with
 |nil =>
  intro pre m o d i y;obtain⟨m,rfl⟩:∃t,m=t+1:=⟨m-1,by simp at i;omega⟩;have A:x.length=pre.length:=by rw[d];simp
  rw[aak,gB (by omega)];show ah (!bS (o.length:Int) 1) e2 (some (.int .i64 0))=_;rw[cF,vM];by_cases h:o.length=1
  .rw[ag (by omega),ag h]
  rw[aa (by omega),aa h];rfl
 |cons nd rest B =>
  intro pre m o d i y;obtain⟨m,rfl⟩:∃t,m=t+1:=⟨m-1,by simp at i;omega⟩;have A:x.length=pre.length+(rest.length+1):=by rw[d];simp
  have C:eL x (pre.length:Int)=some nd:=by rw[d];exact mc pre rest nd
  have b:∀e:cZ,e.length<=pre.length->aai e pre.length (λn o=>jC1 x r m n o ((pre.length:Int)+1))=some (.int .i64 (vM bZ (pre.length+1) rest (e++[(pre.length:Int)]))):=λe D=>by
   have:=B (pre++[nd]) m (e++[(pre.length:Int)]) (by rw[d];simp) (by simp at i;omega) (by simp;omega);simp only[aA,aJ,bK,cj]at this;unfold aai;rw[eN (by omega)];exact this
  rw[aak,rC (by omega),C,i64_in (n:=(pre.length:Int)+1) (by omega) (by omega)];show xk o.length o pre.length nd (λn o=>jC1 x r m n o ((pre.length:Int)+1))=_;unfold xk;rw[vM];cases G:gN bZ nd with
  |false=>rfl
  |true =>
   show ah (!bN 4 nd.1) _ _=_;rw[ag rfl,jM];unfold Gv;by_cases l:nd.1<=4
   .rw[ag l,ag l];exact b o y
   rw[aa l,aa l,jM];have c:∀(j:Nat) (z:Int) (k:bx) (R:bx),j<o.length->(o[j]? ≠ some z->R=e2)->(o[j]? = some z->k=R)->aaj o (j:Int) z k=R:=λj z k R p a E=>by
    unfold aaj;rw[vI,aR p];show ah (!bS z o[j]) e2 k=_;rw[cF];by_cases q:z=o[j]
    .rw[ag q];exact E (by rw[aR p,q])
    rw[aa q];exact(a (by rw[aR p];intro h;exact q (bT h).symm)).symm
   have f:∀(j:Nat) (k:cZ->bx),j<=o.length->aej o (j:Int) k=k (o.take j):=λj k p=>by
    unfold aej;rw[gB (by omega),gB (by omega)];rfl
   by_cases s:nd.1<=6
   .rw[ag s,ag s,de];by_cases g:o.length<1
    .rw[ag (by omega),ag (.inl g)];rfl
    rw[aa (by omega)];have u:IntKind.wrap .i64 ((o.length:Int)-1)=((o.length-1:Nat):Int):=by rw[i64_in (by omega) (by omega)];omega
    rw[u];refine c _ _ _ _ (by omega) (λh=>by rw[ag (.inr h)];rfl) λh=>?_
    rw[aa (by rintro (a|a)<;>first|exact g a|exact a h),f _ _ (by omega)];exact b _ (by simp;omega)
   rw[aa s,aa s,de];by_cases g:o.length<2
   .rw[ag (by omega),ag (.inl g)];rfl
   rw[aa (by omega)];have u:IntKind.wrap .i64 ((o.length:Int)-1)=((o.length-1:Nat):Int):=by rw[i64_in (by omega) (by omega)];omega
   have v:IntKind.wrap .i64 ((o.length:Int)-2)=((o.length-2:Nat):Int):=by rw[i64_in (by omega) (by omega)];omega
   rw[u,v];refine c _ _ _ _ (by omega) (λh=>by rw[ag (.inr (.inl h))];rfl) λh=>?_
   refine c _ _ _ _ (by omega) (λw=>by rw[ag (.inr (.inr w))];rfl) λw=>?_
   rw[aa (by rintro (a|a|a)<;>first|exact g a|exact a h|exact a w),f _ _ (by omega)];exact b _ (by simp;omega)
theorem apy (x:bz):aT X0 (cN M7 [] AV) VP 202 123 [.eC fA x] aH.empty (λv _=>some v)=some (.int .i64 (tj bZ x)):=by
 rw[aek,de];unfold tj;by_cases h:200<x.length
 .rw[ag (by omega),ag h]
 rw[aa (by omega),aa h,akl];cases x with
 |nil=>rfl
 |cons nd rest =>
  rw[rC (by simp)];show ah (!gN bZ nd) e2 (ah (!bN 4 nd.1) (jC1 (nd::rest) 202 201 1 [0] (IntKind.wrap .i64 (0+1))) (ah (!bN 6 nd.1) e2 e2))=_;rw[vM];cases c:gN bZ nd with
  |false=>rfl
  |true =>
   show ah (!bN 4 nd.1) _ _=_;rw[ag rfl,jM];unfold Gv;by_cases a:nd.1<=4
   .rw[ag a,ag a];simp only[aJ]at h;exact apw (nd::rest) (by simp;omega) 202 rest [nd] 201 [0] rfl (by omega) (by simp)
   rw[aa a,aa a,jM];by_cases b:nd.1<=6
   .rw[ag b,ag b];rfl
   rw[aa b,aa b];rfl
def gCk (args:aI):Option (Bool×List gj) :=
 match args with
 |[L]=>match Lh fA L with
  |some x=>some (true,[.val (.int .i64 (tj bZ x))])
  |none=>none
 |_=>none
theorem Ri:dQ X0 gR 123 gCk :=
 dG (λargs=>lt.cn rfl args) (kP agV n0) λargs rs a=>by
  unfold gCk at a;split at a
  .split at a
   .rename_i x b;simp only[aq,az]at a;obtain⟨c,rfl⟩:=a;refine⟨[.int .i64 (tj bZ x)],VP,202,?_,rfl,rfl⟩;rcases tJ b with rfl|⟨rfl,rfl⟩
    .exact apy x
    exact aal 201
   cases a
  cases a
def M8:List xw:=(123,[some fA],gCk)::M7
theorem apz:jy X0 gR M8:=.cons Ri agV
def je:Tv.Ty:=.pair .str (.pair (.int .i64) .bool)
def p18:eJ:=[true,false,true,false]
def RN:fe:=⟨iM [0,1,4,5,6] p18,.none,[]⟩
def VQ (q:Sym):AV:=.agg [.str q.1,.int .i64 q.2.1,.bool q.2.2]
def OW:Option Sym->AV
 |some q=>.gI [VQ q,.bool true]
 |none=>.gI [VQ ([],0,false),.bool false]
def jLa (f:FuncId)(l:List Sym)(s:au)(r m:Nat)(i:Int):bx:=jo X0 (cN [] [] AV) RN r f p18 (λv _=>some v) m (lS 26 [(0,.eC je l),(1,.str s),(4,.ptr 0 0),(5,.bool false),(6,.int .i64 i)]) (oL [.cells 59 [.str [],.int .i64 0,.bool false]])
def jj (l:List Sym)(s:au)(i:Int)(go:bx):bx :=
 ah (!bN i 0) (Option.rec (motive:=λ_=>bx) none (λy=>ah (decide (y.1=s)) (Option.rec (motive:=λ_=>bx) none (λy=>some (OW (some y))) (eL l i)) go) (eL l i)) (some (OW none))
theorem aen (l:List Sym)(s:au)(r m:Nat)(i:Int):jLa 124 l s r (m+1) i=jj l s i (jLa 124 l s r m (IntKind.wrap .i64 (i-1))):=by kernel_rfl
theorem aan (l:List Sym)(s:au)(r:Nat):aT X0 (cN [] [] AV) RN r 124 [.eC je l,.str s] aH.empty (λv _=>some v)=jLa 124 l s r r (IntKind.wrap .i64 ((l.length:Int)-1)):=by kernel_rfl
theorem aao (s:au):aT X0 (cN [] [] AV) RN 5 124 [.eB,.str s] aH.empty (λv _=>some v)=some (OW none):=by kernel_rfl
theorem aap {f:FuncId}{l:List Sym}(p:l.length<=2000000){s:au}{r:Nat}(step:∀m i,jLa f l s r (m+1) i=jj l s i (jLa f l s r m (IntKind.wrap .i64 (i-1)))) :
 ∀(n:Nat) (pre j:List Sym) (m:Nat),pre.length=n->l=pre++j->n<m->jLa f l s r m ((n:Int)-1)=some (OW (LS pre.reverse s))
 |0,pre,j,m,d,e,q=>by
  obtain⟨m,rfl⟩:∃k,m=k+1:=⟨m-1,by omega⟩;have:pre=[]:=aS.1 d;subst this;rw[step];rfl
 |n+1,pre,j,m,d,e,q=>by
  obtain⟨m,rfl⟩:∃k,m=k+1:=⟨m-1,by omega⟩;rcases List.eq_nil_or_concat pre with rfl|⟨c,a,rfl⟩
  .simp at d
  rw[List.concat_eq_append]at d e ⊢;have g:c.length=n:=by simpa using d
  have v:n<l.length:=by rw[e];simp;omega
  have t:eL l (n:Int)=some a:=by rw[e,<-g,bC];exact mc c _ a
  have o:=aap p step n c ([a]++j) m g (by rw[e];simp) (by omega);have u:((n+1:Nat):Int)-1=n:=by omega
  rw[step,u];unfold jj;rw[gB (by omega),t,i64_in (n:=(n:Int)-1) (by omega) (by omega),o];rw[List.reverse_append];show ah (decide (a.1=s)) (some (OW (some a))) _=some (OW (if a.1=s then some a else LS c.reverse s));by_cases h:a.1=s
  .rw[bg h,ag h]
  rw[aY h,aa h]
def TQ (args:aI):Option (Bool×List gj) :=
 match args with
 |[L,.str s]=>match Lh je L with
  |some l=>some (Nat.ble l.length 2000000,[.val (VQ ((DS l s).getD ([],0,false))),.val (.bool (DS l s).isSome)])
  |none=>none
 |_=>none
theorem aeo (o:Option Sym):OW o = .gI [VQ (o.getD ([],0,false)),.bool o.isSome]:=by cases o<;>rfl
theorem aaq {f:FuncId}(e:lt.inl f=true)(g:∀s,aT X0 (cN [] [] AV) RN 5 f [.eB,.str s] aH.empty (λv _=>some v)=some (OW none))(h:∀l s r,aT X0 (cN [] [] AV) RN r f [.eC je l,.str s] aH.empty (λv _=>some v)=jLa f l s r r (IntKind.wrap .i64 ((l.length:Int)-1)))
 (step:∀l s r m i,jLa f l s r (m+1) i=jj l s i (jLa f l s r m (IntKind.wrap .i64 (i-1)))):dQ X0 gR f TQ :=
 dG (λargs=>lt.cn e args) (kP .nil n0) λargs rs c=>by
  unfold TQ at c;split at c;case h_2=>cases c
  split at c;case h_2=>cases c
  rename_i s _ l j;simp only[aq,az]at c;obtain⟨d,rfl⟩:=c;have d:=aB d;rcases tJ j with rfl|⟨rfl,rfl⟩
  .refine ⟨[VQ ((DS l s).getD ([],0,false)),.bool (DS l s).isSome],RN,l.length+1,?_,rfl,rfl⟩;rw[h,i64_in (n:=(l.length:Int)-1) (by omega) (by omega),aap d (step l s _) l.length l [] _ rfl (dS l).symm (by omega),aeo];rfl
  exact⟨[VQ ([],0,false),.bool false],RN,5,g s,rfl,rfl⟩
theorem aep:dQ X0 gR 124 TQ:=aaq rfl aao aan aen
section
variable {β:Type} (R:Int->Bool->Option β) (op a b:Int)
def akm:Option β:=ah (bS b 0) (R 0 false) (ah (bS op 8) (ah (bS b 0) none (R (IntKind.wrap .i64 (Int.tdiv a b)) true)) (ah (bS b 0) none (R (Int.tmod a b) true)))
def shB:Option β:=ah (bN b 0) (R 0 false) (ah (bS op 12)
 (ah (bN (IntKind.wrap .u64 b) 0) none (R (IntKind.wrap .i64 (IntKind.wrap .u64 (IntKind.wrap .u64 a*2 ^ min (Int.toNat (IntKind.wrap .u64 b)) 64))) true))
 (ah (bN (IntKind.wrap .u64 b) 0) none (R (IntKind.wrap .i64 (Int.fdiv (IntKind.wrap .u64 a) (2 ^ min (Int.toNat (IntKind.wrap .u64 b)) 64))) true)))
def akn:Option β:=ah (bS op 14) (R (IntKind.wrap .i64 ↑(BitVec.toNat (BitVec.ofInt 64 a &&& BitVec.ofInt 64 b))) true)
 (ah (bS op 15) (R (IntKind.wrap .i64 ↑(BitVec.toNat (BitVec.ofInt 64 a ^^^ BitVec.ofInt 64 b))) true) (R (IntKind.wrap .i64 ↑(BitVec.toNat (BitVec.ofInt 64 a ||| BitVec.ofInt 64 b))) true))
def ako:Option β:=ah (bS op 10) (R (IntKind.wrap .i64 (a+b)) true) (ah (bS op 11) (R (IntKind.wrap .i64 (a-b)) true)
 (ah (bS op 12) (ah (bS op 12) (shB R op a b) (akn R op a b)) (ah (bS op 13) (shB R op a b) (akn R op a b))))
def aeq:Option β:=ah (bS op 7) (R (IntKind.wrap .i64 (a*b)) true) (ah (bS op 8) (ah (bS op 8) (akm R op a b) (ako R op a b)) (ah (bS op 9) (akm R op a b) (ako R op a b)))
end
theorem akp (b:Int):0<=IntKind.wrap .u64 b:=by
 unfold IntKind.wrap;have:IntKind.signed .u64=false:=rfl;simp only[this,jY];exact Int.emod_nonneg _ (by decide)
def Cc (op a b:Int):Int×Bool:=((aeq (λy k=>some (y,k)) op a b).getD (0,false))
theorem aer {β:Type}(R:Int->Bool->Option β)(op a b:Int):aeq R op a b=R (Cc op a b).1 (Cc op a b).2:=by
 unfold Cc aeq akm ako shB akn;rw[gB (a:=IntKind.wrap .u64 b) (akp b)];cases bS op 7
 .cases bS op 8
  .cases bS op 9
   .cases bS op 10
    .cases bS op 11
     .cases bS op 12
      .cases bS op 13
       .cases bS op 14
        .cases bS op 15<;>rfl
        rfl
       cases bN b 0<;>rfl
      cases bN b 0<;>rfl
     rfl
    rfl
   cases bS b 0<;>rfl
  cases bS b 0<;>rfl
 rfl
theorem akq (op a b:Int):aT X0 (cN [] [] AV) gC 5 125 [.int .i64 op,.int .i64 a,.int .i64 b] aH.empty (λv _=>some v)=aeq (λy k=>some (.gI [.int .i64 y,.bool k])) op a b:=by kernel_rfl
def gBi (args:aI):Option (Bool×List gj) :=
 match args with
 |[.int .i64 op,.int .i64 a,.int .i64 b]=>some (true,[.val (.int .i64 (Cc op a b).1),.val (.bool (Cc op a b).2)])
 |_=>none
theorem akr:dQ X0 gR 125 gBi :=
 dG (λargs=>lt.cn rfl args) (kP .nil n0) λargs rs c=>by
  unfold gBi at c;split at c;case h_2=>cases c
  rename_i op a b;simp only[aq,az]at c;obtain⟨d,rfl⟩:=c;exact⟨[.int .i64 (Cc op a b).1,.bool (Cc op a b).2],gC,5,(akq op a b).trans (aer _ op a b),rfl,rfl⟩
def M13:List xw:=(125,[none,none,none],gBi)::(124,[some je,none],TQ)::M8
theorem aar:jy X0 gR M13:=.cons akr (.cons aep apz)
def pE:eJ:=[true,true,true,true,false,true,false]
def anE:fe:=⟨iM [2,3,1,0,8,9,10,12,13,25,26,27] pE,.none,[]⟩
def jE (L:AV)(x:bz)(h s:Int)(r m:Nat)(v:cZ)(p:Bool)(i:Int):bx :=
 jo X0 (cN M13 [] AV) anE r 87 pE (λv _=>some v) m (lS 114 [(2,.int .i64 h),(3,.int .i64 s),(1,L),(0,.eC fA x),(8,.int .i64 0),(9,.bool false),(10,.int .i64 0),(12,.FB 0 200),(13,.bool p),(25,.eC fA x),(26,.int .i64 x.length),(27,.int .i64 i)]) (oL [.list 178 (.int .i64) v 0 true false])
def Hh (v:cZ)(i:Int)(y:Int)(k:cZ->bx):bx:=Option.rec (motive:=λ_=>bx) none (λ_=>k (v.set i.toNat y)) (eL v i)
def OX (v:cZ)(i:Int)(k:Int->bx):bx:=Option.rec (motive:=λ_=>bx) none k (eL v i)
def VS (e:Int):bx:=some (.gI [.int .i64 0,.bool false,.int .i64 e])
def aas (a:Int):Int:=IntKind.wrap .i64 (0-a)
def aat (a:Int):Int:=IntKind.wrap .i64 ((BitVec.ofInt 64 (-1) ^^^ BitVec.ofInt 64 a).toNat)
def aks (l:List Sym)(s:au):Sym:=(DS l s).getD ([],0,false)
def JD (x:bz)(l:List Sym)(h s:Int)(v:cZ)(p:Bool)(i:Int)(go:cZ->Bool->bx):bx :=
 ah (bN i x.length) (Option.rec (motive:=λ_=>bx) none (λnd =>
  ah (bS nd.1 1) (Hh v i nd.2.1 λv=>go v p)
  (ah (bS nd.1 2) (ah (Nat.ble l.length 2000000) (ah (!(DS l nd.2.2.1).isSome) (VS 6) (Hh v i (aks l nd.2.2.1).2.1 λv=>ah p (go v true) (go v (aks l nd.2.2.1).2.2))) none)
  (ah (bS nd.1 3) (Hh v i h λv=>go v true)
  (ah (bS nd.1 4) (Hh v i s λv=>go v true)
  (ah (bS nd.1 5) (OX v nd.2.2.2.1 λa=>Hh v i (aas a) λv=>go v p)
  (ah (bS nd.1 6) (OX v nd.2.2.2.1 λa=>Hh v i (aat a) λv=>go v p)
  (OX v nd.2.2.2.1 λa=>OX v nd.2.2.2.2 λb=>ah (!(Cc nd.1 a b).2) (VS 5) (Hh v i (Cc nd.1 a b).1 λv=>go v p)))))))) (eL x i))
 (OX v (IntKind.wrap .i64 ((x.length:Int)-1)) λy=>some (.gI [.int .i64 y,.bool p,.int .i64 0]))
theorem akt (x:bz)(l:List Sym)(h s:Int)(r m:Nat)(v:cZ)(p:Bool)(i:Int):jE (.eC je l) x h s r (m+1) v p i=JD x l h s v p i λv p=>jE (.eC je l) x h s r m v p (IntKind.wrap .i64 (i+1)):=by kernel_rfl
theorem aku (x:bz)(h s:Int)(r m:Nat)(v:cZ)(p:Bool)(i:Int):jE .eB x h s r (m+1) v p i=JD x [] h s v p i λv p=>jE .eB x h s r m v p (IntKind.wrap .i64 (i+1)):=by kernel_rfl
theorem aes (x:bz)(l:List Sym)(h s:Int)(r:Nat):aT X0 (cN M13 [] AV) anE r 87 [.eC fA x,.eC je l,.int .i64 h,.int .i64 s] aH.empty (λv _=>some v) =
 ah (!bS (tj bZ x) 0) (VS (tj bZ x)) (jE (.eC je l) x h s r r (List.replicate 200 0) false 0):=by kernel_rfl
theorem aet (x:bz)(h s:Int)(r:Nat):aT X0 (cN M13 [] AV) anE r 87 [.eC fA x,.eB,.int .i64 h,.int .i64 s] aH.empty (λv _=>some v) =
 ah (!bS (tj bZ x) 0) (VS (tj bZ x)) (jE .eB x h s r r (List.replicate 200 0) false 0):=by kernel_rfl
theorem Cd {v:cZ}{i:Int}(a:0<=i)(b:i<v.length)(k:Int->bx):OX v i k=k (Hg v i):=by
 obtain⟨n,rfl⟩:∃n:Nat,i=n:=⟨i.toNat,by omega⟩;unfold OX Hg;rw[vI,aR (by omega)];show k v[n]=k ((v[n]?).getD 0);rw[aR (by omega)];rfl
theorem aeu {v:cZ}{n:Nat}(a:n<v.length)(y:Int)(k:cZ->bx):Hh v n y k=k (v.set n y):=by
 unfold Hh;rw[vI,aR a];rfl
def aev (q:Int×Bool×Int):AV:=.gI [.int .i64 q.1,.bool q.2.1,.int .i64 q.2.2]
theorem apC {x:bz}{l:List Sym}{h s:Int}{J:Nat->cZ->Bool->Int->bx}(step:∀m v p i,J (m+1) v p i=JD x l h s v p i λv p=>J m v p (IntKind.wrap .i64 (i+1)))
 (A:l.length<=2000000) (E:x.length<=200) (d:x≠[]):∀(rest pre:bz) (m:Nat) (v:cZ) (p:Bool),x=pre++rest->rest.length<m->v.length=200->ael pre.length rest ->
  J m v p pre.length=some (aev (evL aas aat Cc l h s rest pre.length v p)):=by
 intro rest;induction rest with
 |nil =>
  intro pre m v p a c u w;obtain⟨m,rfl⟩:∃e,m=e+1:=⟨m-1,by simp at c;omega⟩;have b:x.length=pre.length:=by rw[a];simp
  have F:0<x.length:=dD.2 d;rw[step];unfold JD;rw[gB (by omega),i64_in (n:=(x.length:Int)-1) (by omega) (by omega)];show OX v ((x.length:Int)-1) _=_;rw[Cd (by omega) (by omega),b];rfl
 |cons nd rest B =>
  intro pre m v p a c u w;obtain⟨m,rfl⟩:∃e,m=e+1:=⟨m-1,by simp at c;omega⟩;have b:x.length=pre.length+(rest.length+1):=by rw[a];simp
  have C:eL x (pre.length:Int)=some nd:=by rw[a];exact mc pre rest nd
  obtain⟨⟨b1,b2,b3⟩,f⟩:=w;have go:∀(y:Int) (q:Bool),J m (v.set pre.length y) q ((pre.length:Int)+1)=some (aev (evL aas aat Cc l h s rest (pre.length+1) (v.set pre.length y) q)):=λy q=>by
   have:=B (pre++[nd]) m (v.set pre.length y) q (by rw[a];simp) (by simp at c;omega) (by simp[u]) (by simpa using f);simpa using this
  have hi:pre.length<v.length:=by omega
  rw[step];unfold JD;rw[rC (by omega),C,i64_in (n:=(pre.length:Int)+1) (by omega) (by omega)];show ah (bS nd.1 1) _ _=_;unfold evL opE;have done:∀(y:Int) (q:Bool) (g:Bool),g=(p||q)->Hh v pre.length y (λv=>J m v g ((pre.length:Int)+1))=some (aev (if ((0,y,q):Int×Int×Bool).1=0 then evL aas aat Cc l h s rest (pre.length+1) (v.set pre.length ((0,y,q):Int×Int×Bool).2.1) (p||((0,y,q):Int×Int×Bool).2.2) else (0,false,((0,y,q):Int×Int×Bool).1))):=λy q g D=>by
   rw[aeu hi,ag rfl,go,D]
  rw[cH];by_cases j:nd.1=1
  .simp only[ag j];exact done _ _ _ (by simp)
  rw[aa j,cH];simp only[aa j];by_cases k:nd.1=2
  .simp only[ag k];rw[eN A];unfold aks;cases G:DS l nd.2.2.1 with
   |none=>rfl
   |some q =>
    show Hh v pre.length q.2.1 (λv=>ah p (J m v true _) (J m v q.2.2 _))=_;cases p with
    |true=>exact done _ _ _ (by simp)
    |false=>exact done _ _ _ (by simp)
  rw[aa k,cH];simp only[aa k];by_cases o:nd.1=3
  .simp only[ag o];exact done _ _ _ (by simp)
  rw[aa o,cH];simp only[aa o];by_cases r:nd.1=4
  .simp only[ag r];exact done _ _ _ (by simp)
  rw[aa r,cH];simp only[aa r];obtain⟨c1,c2⟩:=b2 (by omega);by_cases t:nd.1=5
  .simp only[ag t];rw[Cd c1 (by omega)];exact done _ _ _ (by simp)
  rw[aa t,cH];simp only[aa t];by_cases z:nd.1=6
  .simp only[ag z];rw[Cd c1 (by omega)];exact done _ _ _ (by simp)
  simp only[aa z];obtain⟨d1,d2⟩:=b3 (by omega);rw[Cd c1 (by omega),Cd d1 (by omega)];cases H:(Cc nd.1 (Hg v nd.2.2.2.1) (Hg v nd.2.2.2.2)).2 with
  |true=>rw[ag rfl];exact done _ _ _ (by simp)
  |false=>rw[aa lz];rfl
def TR (x:bz)(l:List Sym)(h s:Int):Int×Bool×Int:=if tj bZ x=0 then evL aas aat Cc l h s x 0 (List.replicate 200 0) false else (0,false,tj bZ x)
theorem apD {x:bz}{l:List Sym}{h s:Int}{T:bx}{J:Nat->cZ->Bool->Int->bx}(e:T=ah (!bS (tj bZ x) 0) (VS (tj bZ x)) (J 202 (List.replicate 200 0) false 0))
 (step:∀m v p i,J (m+1) v p i=JD x l h s v p i λv p=>J m v p (IntKind.wrap .i64 (i+1))) (b:l.length<=2000000):T=some (aev (TR x l h s)):=by
 rw[e,cF];unfold TR;by_cases a:tj bZ x=0
 .rw[ag a,ag a];obtain⟨c,d,f⟩:=Cb a;exact apC step b d c x [] 202 _ false rfl (by omega) (jz ..) f
 rw[aa a,aa a];rfl
def gEv (args:aI):Option (Bool×List gj) :=
 match args with
 |[X,L,.int .i64 h,.int .i64 s]=>match Lh fA X,Lh je L with
  |some x,some l=>some (Nat.ble l.length 2000000,[.val (.int .i64 (TR x l h s).1),.val (.bool (TR x l h s).2.1),.val (.int .i64 (TR x l h s).2.2)])
  |_,_=>none
 |_=>none
theorem aew (L:AV)(h s:Int)(r:Nat):aT X0 (cN M13 [] AV) anE r 87 [.eB,L,.int .i64 h,.int .i64 s] aH.empty (λv _=>some v)=VS 2:=by kernel_rfl
theorem aau:dQ X0 gR 87 gEv :=
 dG (λargs=>lt.cn rfl args) (kP aar n0) λargs rs a=>by
  unfold gEv at a;split at a;case h_2=>cases a
  split at a;case h_2=>cases a
  rename_i h s _ _ x l c d;simp only[aq,az]at a;obtain⟨b,rfl⟩:=a;have b:=aB b;refine⟨[.int .i64 (TR x l h s).1,.bool (TR x l h s).2.1,.int .i64 (TR x l h s).2.2],anE,202,?_,rfl,rfl⟩;rcases tJ c with rfl|⟨rfl,rfl⟩
  .rcases tJ d with rfl|⟨rfl,rfl⟩
   .exact apD (aes x l h s 202) (λm v p i=>akt x l h s 202 m v p i) b
   exact apD (aet x h s 202) (λm v p i=>aku x h s 202 m v p i) b
  rw[aew];rfl
def M14:List xw:=(87,[some fA,some je,none,none],gEv)::M13
theorem akv:jy X0 gR M14:=.cons aau aar
def pNm:eJ:=[true,true,true,true,false,true,false]
def K9:fe:=⟨iM [4,3,11,12,13] pNm,.none,[]⟩
abbrev Key:=au×Int
def aav (x:bz)(r m:Nat)(ks:List Key)(i:Int):Option (AV×Option Row):=jo X0 (cN M14 [] _) K9 r 86 pNm wS m (lS 37 [(4,.zN 0),(3,.eB),(11,.eC fA x),(12,.int .i64 x.length),(13,.int .i64 i)]) (oL [.mp 68 ks])
def OY (x:bz)(r m n:Nat)(ks:List Key)(o:cA)(i:Int):Option (AV×Option Row):=jo X0 (cN M14 [] _) K9 r 86 pNm wS m (lS 37 [(4,.zN 0),(3,.own 1 n),(11,.eC fA x),(12,.int .i64 x.length),(13,.int .i64 i)]) (oL [.mp 68 ks,.list 9 .str o 0 false false])
def wR (x:bz)(ks:List Key)(i:Int)(fin skip:Option (AV×Option Row))(new:au->Option (AV×Option Row)):Option (AV×Option Row) :=
 ah (bN i x.length) (Option.rec (motive:=λ_=>Option (AV×Option Row)) none (λnd=>ah (!bS nd.1 2) skip (ah (bN 0 (ju ks nd.2.2.1)) skip (new nd.2.2.1))) (eL x i)) fin
theorem TT (x:bz)(r m:Nat)(ks:List Key)(i:Int):aav x r (m+1) ks i=wR x ks i (some (.eB,none)) (aav x r m ks (IntKind.wrap .i64 (i+1))) λs=>OY x r m 1 (jv ks s 1) [s] (IntKind.wrap .i64 (i+1)):=by kernel_rfl
theorem TU (x:bz)(r m n:Nat)(ks:List Key)(o:cA)(i:Int):OY x r (m+1) n ks o i=wR x ks i (some (.own 1 n,some (.list 9 .str o 0 false false))) (OY x r m n ks o (IntKind.wrap .i64 (i+1)))
 λs=>ah (Nat.ble (o.length+1) 2000000) (OY x r m (o.length+1) (jv ks s 1) (o++[s]) (IntKind.wrap .i64 (i+1))) none:=by kernel_rfl
theorem Lb (x:bz)(r:Nat):aT X0 (cN M14 [] _) K9 r 86 [.eC fA x] aH.empty wS=ah (!bS (tj bZ x) 0) (some (.eB,none)) (aav x r r [] 0):=by kernel_rfl
theorem aaw (r:Nat):aT X0 (cN M14 [] _) K9 r 86 [.eB] aH.empty wS=some (.eB,none):=by kernel_rfl
def keys (o:cA):List Key:=o.map λs=>(s,1)
theorem OZ (s:au):∀o:cA,ju (keys o) s=if s∈o then 1 else 0
 |[]=>rfl
 |a::o=>by
  show ah (decide (s=a)) 1 (ju (keys o) s)=_;by_cases h:s=a
  .rw[bg h,ag (by simp[h])]
  rw[aY h];show ju (keys o) s=_;rw[OZ s o];by_cases b:s∈o
  .rw[ag b,ag (by simp[b])]
  rw[aa b,aa (by simp[h,b])]
theorem O0 {s:au}:∀{o:cA},s ∉ o->jv (keys o) s 1=keys (o++[s])
 |[],_=>rfl
 |a::o,h=>by
  have b:s≠a:=λe=>h (by simp[e])
  have c:s ∉ o:=λe=>h (by simp[e])
  show ah (decide (s=a)) ((a,1)::keys o) ((a,1)::jv (keys o) s 1)=_;rw[aY b];show (a,1)::jv (keys o) s 1=_;rw[O0 c];rfl
theorem O1 {x:bz}{nd:Nd}{pre rest:bz}{o:cA}(c:x=pre++nd::rest)(fin skip:Option (AV×Option Row))(new:au->Option (AV×Option Row)) :
 wR x (keys o) pre.length fin skip new=if nd.1=2/\nd.2.2.1 ∉ o then new nd.2.2.1 else skip:=by
 have e:x.length=pre.length+(rest.length+1):=by rw[c];simp
 have d:eL x (pre.length:Int)=some nd:=by rw[c];exact mc pre rest nd
 unfold wR;rw[rC (by omega),d];show ah (!bS nd.1 2) _ _=_;rw[cF,de,OZ];by_cases a:nd.1=2
 .rw[ag a];by_cases b:nd.2.2.1∈o
  .rw[ag b,ag (by decide),aa (λh=>h.2 b)]
  rw[aa b,aa (by decide),ag ⟨a,b⟩]
 rw[aa a,aa (λh=>a h.1)]
theorem JG {x:bz}{ks:List Key}(fin skip:Option (AV×Option Row))(new:au->Option (AV×Option Row)):wR x ks x.length fin skip new=fin:=by
 unfold wR;rw[gB (by omega)]
def TV (o:cA):AV×Option Row:=(.own 1 o.length,some (.list 9 .str o 0 false false))
def aex (o:cA):AV×Option Row:=if o=[] then (.eB,none) else TV o
theorem aey {x:bz}(i:x.length<=200)(r:Nat):∀(rest pre:bz) (m:Nat) (o:cA),x=pre++rest->rest.length<m->o.length<=pre.length ->
 OY x r m o.length (keys o) o pre.length=some (TV (wU rest o)):=by
 intro rest;induction rest with
 |nil =>
  intro pre m o b c e;obtain⟨m,rfl⟩:∃d,m=d+1:=⟨m-1,by simp at c;omega⟩;obtain rfl:x=pre:=by rw[b];simp
  rw[TU,JG];rfl
 |cons nd rest f =>
  intro pre m o b c e;obtain⟨m,rfl⟩:∃d,m=d+1:=⟨m-1,by simp at c;omega⟩;have j:x.length=pre.length+(rest.length+1):=by rw[b];simp
  rw[TU,O1 b,i64_in (n:=(pre.length:Int)+1) (by omega) (by omega),wU];have go:∀a:cA,a.length<=pre.length+1->OY x r m a.length (keys a) a ((pre.length:Int)+1)=some (TV (wU rest a)):=λa g=>by
   have:=f (pre++[nd]) m a (by rw[b];simp) (by simp at c;omega) (by simp;omega);simpa using this
  split
  .rename_i h;rw[eN (by omega),O0 h.2];have:=go (o++[nd.2.2.1]) (by simp;omega);simpa using this
  exact go o (by omega)
theorem aez {x:bz}(g:x.length<=200)(r:Nat):∀(rest pre:bz) (m:Nat),x=pre++rest->rest.length<m->aav x r m [] pre.length=some (aex (wU rest [])):=by
 intro rest;induction rest with
 |nil =>
  intro pre m b c;obtain⟨m,rfl⟩:∃d,m=d+1:=⟨m-1,by simp at c;omega⟩;obtain rfl:x=pre:=by rw[b];simp
  rw[TT,JG];rfl
 |cons nd rest i =>
  intro pre m b c;obtain⟨m,rfl⟩:∃d,m=d+1:=⟨m-1,by simp at c;omega⟩;have k:x.length=pre.length+(rest.length+1):=by rw[b];simp
  have a:=O1 (o:=[]) b (some (AV.eB,(none:Option Row))) (aav x r m [] (IntKind.wrap .i64 ((pre.length:Int)+1))) λs=>OY x r m 1 (jv [] s 1) [s] (IntKind.wrap .i64 ((pre.length:Int)+1))
  rw[TT];refine a.trans ?_;rw[i64_in (n:=(pre.length:Int)+1) (by omega) (by omega),wU];split
  .rename_i h;have:=aey g r rest (pre++[nd]) m [nd.2.2.1] (by rw[b];simp) (by simp at c;omega) (by simp);have f:wU rest [nd.2.2.1]≠[]:=λe=>by
    have:=(LU rest [nd.2.2.1] nd.2.2.1).2 (.inl (by simp));rw[e]at this;cases this
   unfold aex;rw[cE,aa f];have j:OY x r m 1 [(nd.2.2.1,1)] [nd.2.2.1] ((pre.length:Int)+1)=some (TV (wU rest [nd.2.2.1])):=by simpa[keys] using this
   exact j
  have:=i (pre++[nd]) m (by rw[b];simp) (by simp at c;omega);simpa using this
def gNm (args:aI):Option (Bool×List gj) :=
 match args with
 |[L]=>match Lh fA L with
  |some x=>some (true,[.list 9 .str (if tj bZ x=0 then wU x [] else [])])
  |none=>none
 |_=>none
theorem akw:dQ X0 gR 86 gNm:=by
 intro args rs a;unfold gNm at a;split at a;case h_2=>cases a
 rename_i L;split at a;case h_2=>cases a
 rename_i x h;simp only[aq,az]at a;obtain⟨_,rfl⟩:=a;have c:aT X0 (cN M14 [] _) K9 202 86 [L] aH.empty wS=some (aex (if tj bZ x=0 then wU x [] else [])):=by
  rcases tJ h with rfl|⟨rfl,rfl⟩
  .rw[Lb,cF];by_cases b:tj bZ x=0
   .rw[ag b,ag b];exact aez (Cb b).2.1 202 x [] 202 rfl (by have:=(Cb b).2.1;omega)
   rw[aa b,aa b];rfl
  rw[aaw,aa (by decide)];rfl
 obtain⟨v,M1,d,f⟩:=p7 (λargs=>lt.cn rfl args) (kP akv n0 _) c;generalize (if tj bZ x=0 then wU x [] else [])=o at *;have e:=Gw d;subst e;unfold aex at d f;by_cases g:o=[]
 .rw[ag g]at d f;exact⟨_,M1,f [.eB] rfl,rfl,.inr ⟨rfl,g,trivial⟩⟩
 rw[aa g]at d f;exact⟨_,M1,f [.own 1 o.length] rfl,rfl,.inl ⟨1,0,false,rfl,(lg (bT d)).2,by simp,trivial⟩⟩
end
end Go.Proofs.YtbeckacfibledaaGreatDoor.ex

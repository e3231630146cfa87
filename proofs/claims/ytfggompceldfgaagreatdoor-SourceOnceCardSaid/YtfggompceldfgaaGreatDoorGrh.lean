/- Expressions: whether one may be. Expressions: symbols looked up; operators of two operands. Expressions: the contract of Eval. Expressions: the contract of Names. -/
import Derived.Test.YtfggompceldfgaaGreatDoorGrc
import Derived.Test.YtfggompceldfgaaGreatDoorGxa
set_option linter.unusedVariables false
set_option linter.unusedSimpArgs false

namespace Go.Proofs.YtfggompceldfgaaGreatDoor.ex
open Go.Tv Go.Ev Go.Px
set_option maxRecDepth 100000
noncomputable section
theorem OY (op n l r:Int)(s:List UInt8):fM bX (op,n,s,l,r)=true↔1<=op/\op<=16/\(op=1\/n=0)/\(op=2->bX s=true)/\(op≠2->s=[])/\(op<=4->l=0)/\(6<op\/r=0):=by
 simp only[fM,ak,cJ,aV,aS,bH];constructor
 .rintro ⟨⟨⟨⟨⟨h1,h2⟩,h3⟩,h4⟩,h5⟩,h6⟩;refine⟨h1,h2,h3,λh=>by rw[ag h]at h4;exact h4,λh=>by rw[aa h]at h4;exact gp h4,λh=>by omega,h6⟩
 rintro⟨h1,h2,h3,h4,h4',h5,h6⟩;refine⟨⟨⟨⟨⟨h1,h2⟩,h3⟩,?_⟩,by omega⟩,h6⟩;split
 .rename_i h;exact h4 h
 rename_i h;exact bf (h4' h)
def Jt (op n l r:Int)(s:List UInt8):Option AV :=
 let r3:Option AV:=ah (bB 6 op) (some (.bool true)) (some (.bool (bI r 0)))
 let r2:Option AV:=ah (!bB 4 op) (ah (!bI l 0) (some (.bool false)) r3) r3
 let r1b:Option AV:=ah (!bI op 2) (ah (!decide (s=[])) (some (.bool false)) r2) r2
 let r1:Option AV:=ah (bI op 2) (ah (!bX s) (some (.bool false)) r1b) r1b
 ah (bB op 1) (some (.bool false)) (ah (bB 16 op) (some (.bool false)) (ah (!bI op 1) (ah (!bI n 0) (some (.bool false)) r1) r1))
theorem aaE (op n l r:Int)(s:List UInt8):aT X0 (cN M6 [] AV) ia 5 165 [.agg [.int .i64 op,.int .i64 n,.str s,.int .i64 l,.int .i64 r]] aH.empty (λv _=>some v)=Jt op n l r s:=by kernel_rfl
theorem OZ (op n l r:Int)(s:List UInt8):Jt op n l r s=some (.bool (fM bX (op,n,s,l,r))):=by
 have hf:∀b:Bool,(b=true↔fM bX (op,n,s,l,r)=true)->some (AV.bool b)=some (.bool (fM bX (op,n,s,l,r))):=λb h=>by rw[bO.2 h]
 have hi:=OY op n l r s;unfold Jt;simp only[cG,jM,ck,cX];have no:¬(1<=op/\op<=16/\(op=1\/n=0)/\(op=2->bX s=true)/\(op≠2->s=[])/\(op<=4->l=0)/\(6<op\/r=0))->some (AV.bool false)=some (.bool (fM bX (op,n,s,l,r))):=λh=>hf false ⟨λh=>(by cases h),λh2=>absurd (hi.1 h2) h⟩
 by_cases h1:op<1
 .rw[ag h1];exact no (by omega)
 rw[aa h1];by_cases h2:16<op
 .rw[ag h2];exact no (by omega)
 rw[aa h2];by_cases h3:op=1\/n=0
 .
  -- the text
  have r1:(if op=2 then ah (!bX s) (some (AV.bool false)) (if op=2 then (if op<=4 then (if l=0 then (if 6<op then some (AV.bool true) else some (AV.bool (bI r 0))) else some (AV.bool false)) else (if 6<op then some (AV.bool true) else some (AV.bool (bI r 0)))) else ah (!decide (s=[])) (some (AV.bool false)) (if op<=4 then (if l=0 then (if 6<op then some (AV.bool true) else some (AV.bool (bI r 0))) else some (AV.bool false)) else (if 6<op then some (AV.bool true) else some (AV.bool (bI r 0)))))
   else if op=2 then (if op<=4 then (if l=0 then (if 6<op then some (AV.bool true) else some (AV.bool (bI r 0))) else some (AV.bool false)) else (if 6<op then some (AV.bool true) else some (AV.bool (bI r 0)))) else ah (!decide (s=[])) (some (AV.bool false)) (if op<=4 then (if l=0 then (if 6<op then some (AV.bool true) else some (AV.bool (bI r 0))) else some (AV.bool false)) else (if 6<op then some (AV.bool true) else some (AV.bool (bI r 0)))))=some (.bool (fM bX (op,n,s,l,r))):=by
   have r3:∀(ht:(op=2->bX s=true)/\(op≠2->s=[])) (h5:op<=4->l=0),(if 6<op then some (AV.bool true) else some (AV.bool (bI r 0)))=some (.bool (fM bX (op,n,s,l,r))):=λht h5=>by
    split
    .rename_i h6;exact hf true ⟨λ_=>hi.2 ⟨by omega,by omega,h3,ht.1,ht.2,h5,.inl h6⟩,λ_=>rfl⟩
    rename_i h6;refine hf _ ?_;rw[hi,eT,eI];exact⟨λh=>⟨by omega,by omega,h3,ht.1,ht.2,h5,.inr h⟩,λh=>by omega⟩
   have r2:∀(ht:(op=2->bX s=true)/\(op≠2->s=[])),(if op<=4 then (if l=0 then (if 6<op then some (AV.bool true) else some (AV.bool (bI r 0))) else some (AV.bool false)) else (if 6<op then some (AV.bool true) else some (AV.bool (bI r 0))))=some (.bool (fM bX (op,n,s,l,r))):=λht=>by
    by_cases h4:op<=4
    .rw[ag h4];by_cases h5:l=0
     .rw[ag h5];exact r3 ht (λ_=>h5)
     rw[aa h5];exact no (by omega)
    rw[aa h4];exact r3 ht (by omega)
   by_cases ho:op=2
   .simp only[ag ho];cases hn:bX s with
    |true=>exact r2 ⟨λ_=>hn,λh=>absurd ho h⟩
    |false=>exact no (λh=>by have:=h.2.2.2.1 ho;rw[hn]at this;cases this)
   simp only[aa ho];by_cases hs:s=[]
   .rw[bf hs];exact r2 ⟨λh=>absurd h ho,λ_=>hs⟩
   rw[aU hs];exact no (λh=>hs (h.2.2.2.2.1 ho))
  rcases h3 with h3|h3
  .rw[ag h3];exact r1
  by_cases h3':op=1
  .rw[ag h3'];exact r1
  rw[aa h3',ag h3];exact r1
 rw[aa (λh=>h3 (.inl h)),aa (λh=>h3 (.inr h))];exact no (λh=>h3 h.2.2.1)
def gFd (args:List AV):Option (Bool×List fN) :=
 match args with
 |[.agg [.int .i64 op,.int .i64 n,.str s,.int .i64 l,.int .i64 r]]=>some (true,[.val (.bool (fM bX (op,n,s,l,r)))])
 |_=>none
theorem af0:dh X0 gW 165 gFd :=
 dA (λargs=>lt.bS rfl args) (kA wS n0) λargs rs hg=>by
  unfold gFd at hg;split at hg
  .rename_i op n s l r;simp only[aq,ax]at hg;obtain⟨h1,rfl⟩:=hg;exact⟨[.bool (fM bX (op,n,s,l,r))],ia,5,(aaE op n l r s).trans (OZ op n l r s),rfl,rfl⟩
  cases hg
def M7:List xX:=(165,[none],gFd)::M6
theorem acP:jx X0 gW M7:=.cons af0 wS
def pCk:List Bool:=[true,true,true,false,true,false]
def SN:eD:=⟨gZ [2,3,10,11,12] pCk,.none,[71,47]⟩
def akz (x:List Nd)(o:AV)(i:Int):fF:=lz 80 [(2,.int .i64 0),(3,o),(10,.dW fL x),(11,.int .i64 x.length),(12,.int .i64 i)]
def jC0 (x:List Nd)(r m:Nat)(i:Int):Option AV:=jf X0 (cN M7 [] AV) SN r 141 pCk (λv _=>some v) m (akz x .dg i) (pz [])
def jC1 (x:List Nd)(r m:Nat)(n:Nat)(o:List Int)(i:Int):Option AV:=jf X0 (cN M7 [] AV) SN r 141 pCk (λv _=>some v) m (akz x (.own 0 n) i) (pz [.list 3 (.int .i64) o 0 false false])
def e2:Option AV:=some (.int .i64 2)
def Xi (o:List Int)(i:Int)(k:Nat->List Int->Option AV):Option AV:=ah (Nat.ble (o.length+1) 2000000) (k (o.length+1) (o++[i])) none
def aaF (o:List Int)(b:Int)(k:List Int->Option AV):Option AV:=ah (!bB b 0 && !bB o.length b) (k (o.take b.toNat)) none
def Xj (o:List Int)(j:Int)(z:Int)(k:Option AV):Option AV:=Option.rec (motive:=λ_=>Option AV) none (λy=>ah (!bI z y) e2 k) (dX o j)
def vH (n:Nat)(o:List Int)(i:Int)(nd:Nd)(go:Nat->List Int->Option AV):Option AV :=
 ah (!fM bX nd) e2 (ah (!bB 4 nd.1) (Xi o i go)
  (ah (!bB 6 nd.1) (ah (bB n 1) e2 (Xj o (IntKind.wrap .i64 (n-1)) nd.2.2.2.1 (aaF o (IntKind.wrap .i64 (n-1)) λo=>Xi o i go)))
   (ah (bB n 2) e2 (Xj o (IntKind.wrap .i64 (n-2)) nd.2.2.2.1 (Xj o (IntKind.wrap .i64 (n-1)) nd.2.2.2.2 (aaF o (IntKind.wrap .i64 (n-2)) λo=>Xi o i go))))))
set_option maxRecDepth 100000 in
theorem Xk (x:List Nd)(r m n:Nat)(o:List Int)(i:Int):jC1 x r (m+1) n o i =
 ah (bB i x.length) (Option.rec (motive:=λ_=>Option AV) none (λnd=>vH n o i nd λn o=>jC1 x r m n o (IntKind.wrap .i64 (i+1))) (dX x i)) (ah (!bI n 1) e2 (some (.int .i64 0))):=by kernel_rfl
set_option maxRecDepth 100000 in
theorem af2 (x:List Nd)(r m:Nat)(i:Int):jC0 x r (m+1) i =
 ah (bB i x.length) (Option.rec (motive:=λ_=>Option AV) none (λnd=>ah (!fM bX nd) e2 (ah (!bB 4 nd.1) (jC1 x r m 1 [i] (IntKind.wrap .i64 (i+1))) (ah (!bB 6 nd.1) e2 e2))) (dX x i)) e2:=by kernel_rfl
set_option maxRecDepth 100000 in
theorem aaG (x:List Nd)(r:Nat):aT X0 (cN M7 [] AV) SN r 141 [.dW fL x] aH.empty (λv _=>some v)=ah (bB 200 x.length) (some (.int .i64 3)) (jC0 x r r 0):=by kernel_rfl
set_option maxRecDepth 100000 in
theorem Xl (r:Nat):aT X0 (cN M7 [] AV) SN (r+1) 141 [.dg] aH.empty (λv _=>some v)=e2:=by kernel_rfl
theorem akA (x:List Nd)(hx:x.length<=1000)(r:Nat):∀(rest pre:List Nd) (m:Nat) (o:List Int),x=pre++rest->rest.length<m->o.length<=pre.length->jC1 x r m o.length o pre.length=some (.int .i64 (uk bX pre.length rest o)):=by
 intro rest;induction rest with
 |nil =>
  intro pre m o he hm ho;obtain⟨m,rfl⟩:∃m',m=m'+1:=⟨m-1,by simp at hm;omega⟩;have hl:x.length=pre.length:=by rw[he];simp
  rw[Xk,fG (by omega)];show ah (!bI (o.length:Int) 1) e2 (some (.int .i64 0))=_;rw[cX,uk];by_cases h:o.length=1
  .rw[ag (by omega),ag h]
  rw[aa (by omega),aa h];rfl
 |cons nd rest ih =>
  intro pre m o he hm ho;obtain⟨m,rfl⟩:∃m',m=m'+1:=⟨m-1,by simp at hm;omega⟩;have hl:x.length=pre.length+(rest.length+1):=by rw[he];simp
  have hg:dX x (pre.length:Int)=some nd:=by rw[he];exact lX pre rest nd
  have hin:∀o':List Int,o'.length<=pre.length->Xi o' pre.length (λn o=>jC1 x r m n o ((pre.length:Int)+1))=some (.int .i64 (uk bX (pre.length+1) rest (o'++[(pre.length:Int)]))):=λo' ho'=>by
   have:=ih (pre++[nd]) m (o'++[(pre.length:Int)]) (by rw[he];simp) (by simp at hm;omega) (by simp;omega);simp only[aA,aJ,bD,bW]at this;unfold Xi;rw[ee (by omega)];exact this
  rw[Xk,pL (by omega),hg,i64_in (n:=(pre.length:Int)+1) (by omega) (by omega)];show vH o.length o pre.length nd (λn o=>jC1 x r m n o ((pre.length:Int)+1))=_;unfold vH;rw[uk];cases TQ:fM bX nd with
  |false=>rfl
  |true =>
   show ah (!bB 4 nd.1) _ _=_;rw[ag rfl,jM];unfold EM;by_cases h4:nd.1<=4
   .rw[ag h4,ag h4];exact hin o ho
   rw[aa h4,aa h4,jM];have Xm:∀(j:Nat) (z:Int) (k:Option AV) (R:Option AV),j<o.length->(o[j]? ≠ some z->R=e2)->(o[j]? = some z->k=R)->Xj o (j:Int) z k=R:=λj z k R hj h1 h2=>by
    unfold Xj;rw[sy,aO hj];show ah (!bI z o[j]) e2 k=_;rw[cX];by_cases hz:z=o[j]
    .rw[ag hz];exact h2 (by rw[aO hj,hz])
    rw[aa hz];exact(h1 (by rw[aO hj];intro h;exact hz (bL h).symm)).symm
   have akB:∀(j:Nat) (k:List Int->Option AV),j<=o.length->aaF o (j:Int) k=k (o.take j):=λj k hj=>by
    unfold aaF;rw[fG (by omega),fG (by omega)];rfl
   by_cases h6:nd.1<=6
   .rw[ag h6,ag h6,cG];by_cases hn:o.length<1
    .rw[ag (by omega),ag (.inl hn)];rfl
    rw[aa (by omega)];have e1:IntKind.wrap .i64 ((o.length:Int)-1)=((o.length-1:Nat):Int):=by rw[i64_in (by omega) (by omega)];omega
    rw[e1];refine Xm _ _ _ _ (by omega) (λh=>by rw[ag (.inr h)];rfl) λh=>?_
    rw[aa (by rintro (h1|h1)<;>first|exact hn h1|exact h1 h),akB _ _ (by omega)];exact hin _ (by simp;omega)
   rw[aa h6,aa h6,cG];by_cases hn:o.length<2
   .rw[ag (by omega),ag (.inl hn)];rfl
   rw[aa (by omega)];have e1:IntKind.wrap .i64 ((o.length:Int)-1)=((o.length-1:Nat):Int):=by rw[i64_in (by omega) (by omega)];omega
   have e2':IntKind.wrap .i64 ((o.length:Int)-2)=((o.length-2:Nat):Int):=by rw[i64_in (by omega) (by omega)];omega
   rw[e1,e2'];refine Xm _ _ _ _ (by omega) (λh=>by rw[ag (.inr (.inl h))];rfl) λh=>?_
   refine Xm _ _ _ _ (by omega) (λh'=>by rw[ag (.inr (.inr h'))];rfl) λh'=>?_
   rw[aa (by rintro (h1|h1|h1)<;>first|exact hn h1|exact h1 h|exact h1 h'),akB _ _ (by omega)];exact hin _ (by simp;omega)
theorem akC (x:List Nd):aT X0 (cN M7 [] AV) SN 202 141 [.dW fL x] aH.empty (λv _=>some v)=some (.int .i64 (rM bX x)):=by
 rw[aaG,cG];unfold rM;by_cases h:200<x.length
 .rw[ag (by omega),ag h]
 rw[aa (by omega),aa h,af2];cases x with
 |nil=>rfl
 |cons nd rest =>
  rw[pL (by simp)];show ah (!fM bX nd) e2 (ah (!bB 4 nd.1) (jC1 (nd::rest) 202 201 1 [0] (IntKind.wrap .i64 (0+1))) (ah (!bB 6 nd.1) e2 e2))=_;rw[uk];cases TQ:fM bX nd with
  |false=>rfl
  |true =>
   show ah (!bB 4 nd.1) _ _=_;rw[ag rfl,jM];unfold EM;by_cases h4:nd.1<=4
   .rw[ag h4,ag h4];simp only[aJ]at h;exact akA (nd::rest) (by simp;omega) 202 rest [nd] 201 [0] rfl (by omega) (by simp)
   rw[aa h4,aa h4,jM];by_cases h6:nd.1<=6
   .rw[ag h6,ag h6];rfl
   rw[aa h6,aa h6];rfl
def gCk (args:List AV):Option (Bool×List fN) :=
 match args with
 |[L]=>match I7 fL L with
  |some x=>some (true,[.val (.int .i64 (rM bX x))])
  |none=>none
 |_=>none
theorem Oz:dh X0 gW 141 gCk :=
 dA (λargs=>lt.bS rfl args) (kA acP n0) λargs rs hg=>by
  unfold gCk at hg;split at hg
  .split at hg
   .rename_i x hx;simp only[aq,ax]at hg;obtain⟨h1,rfl⟩:=hg;refine⟨[.int .i64 (rM bX x)],SN,202,?_,rfl,rfl⟩;rcases rW hx with rfl|⟨rfl,rfl⟩
    .exact akC x
    exact Xl 201
   cases hg
  cases hg
def M8:List xX:=(141,[some fL],gCk)::M7
theorem akD:jx X0 gW M8:=.cons Oz acP
def kj:Tv.Ty:=.pair .str (.pair (.int .i64) .bool)
def p18:List Bool:=[true,false,true,false]
def O0:eD:=⟨gZ [0,1,4,5,6] p18,.none,[]⟩
def SP (q:Sym):AV:=.agg [.str q.1,.int .i64 q.2.1,.bool q.2.2]
def Md:Option Sym->AV
 |some q=>.fH [SP q,.bool true]
 |none=>.fH [SP ([],0,false),.bool false]
def jLa (f:FuncId)(l:List Sym)(s:List UInt8)(r m:Nat)(i:Int):Option AV:=jf X0 (cN [] [] AV) O0 r f p18 (λv _=>some v) m (lz 26 [(0,.dW kj l),(1,.str s),(4,.ptr 0 0),(5,.bool false),(6,.int .i64 i)]) (pz [.cells 61 [.str [],.int .i64 0,.bool false]])
def ig (l:List Sym)(s:List UInt8)(i:Int)(go:Option AV):Option AV :=
 ah (!bB i 0) (Option.rec (motive:=λ_=>Option AV) none (λy=>ah (decide (y.1=s)) (Option.rec (motive:=λ_=>Option AV) none (λy=>some (Md (some y))) (dX l i)) go) (dX l i)) (some (Md none))
theorem aaJ (l:List Sym)(s:List UInt8)(r m:Nat)(i:Int):jLa 142 l s r (m+1) i=ig l s i (jLa 142 l s r m (IntKind.wrap .i64 (i-1))):=by kernel_rfl
theorem Xn (l:List Sym)(s:List UInt8)(r:Nat):aT X0 (cN [] [] AV) O0 r 142 [.dW kj l,.str s] aH.empty (λv _=>some v)=jLa 142 l s r r (IntKind.wrap .i64 ((l.length:Int)-1)):=by kernel_rfl
theorem Xo (s:List UInt8):aT X0 (cN [] [] AV) O0 5 142 [.dg,.str s] aH.empty (λv _=>some v)=some (Md none):=by kernel_rfl
theorem Xp {f:FuncId}{l:List Sym}(hl:l.length<=2000000){s:List UInt8}{r:Nat}(step:∀m i,jLa f l s r (m+1) i=ig l s i (jLa f l s r m (IntKind.wrap .i64 (i-1)))) :
 ∀(n:Nat) (pre JP:List Sym) (m:Nat),pre.length=n->l=pre++JP->n<m->jLa f l s r m ((n:Int)-1)=some (Md (Ju pre.reverse s))
 |0,pre,JP,m,hp,he,hm=>by
  obtain⟨m,rfl⟩:∃m',m=m'+1:=⟨m-1,by omega⟩;have:pre=[]:=aQ.1 hp;subst this;rw[step];rfl
 |n+1,pre,JP,m,hp,he,hm=>by
  obtain⟨m,rfl⟩:∃m',m=m'+1:=⟨m-1,by omega⟩;rcases List.eq_nil_or_concat pre with rfl|⟨pre',a,rfl⟩
  .simp at hp
  rw[List.concat_eq_append]at hp he ⊢;have hp':pre'.length=n:=by simpa using hp
  have MW:n<l.length:=by rw[he];simp;omega
  have hg:dX l (n:Int)=some a:=by rw[he,<-hp',bQ];exact lX pre' _ a
  have hin:=Xp hl step n pre' ([a]++JP) m hp' (by rw[he];simp) (by omega);have e1:((n+1:Nat):Int)-1=n:=by omega
  rw[step,e1];unfold ig;rw[fG (by omega),hg,i64_in (n:=(n:Int)-1) (by omega) (by omega),hin];rw[List.reverse_append];show ah (decide (a.1=s)) (some (Md (some a))) _=some (Md (if a.1=s then some a else Ju pre'.reverse s));by_cases h:a.1=s
  .rw[bf h,ag h]
  rw[aU h,aa h]
def QI (args:List AV):Option (Bool×List fN) :=
 match args with
 |[L,.str s]=>match I7 kj L with
  |some l=>some (Nat.ble l.length 2000000,[.val (SP ((Cs l s).getD ([],0,false))),.val (.bool (Cs l s).isSome)])
  |none=>none
 |_=>none
theorem aaK (o:Option Sym):Md o = .fH [SP (o.getD ([],0,false)),.bool o.isSome]:=by cases o<;>rfl
theorem Xq {f:FuncId}(hk:lt.inl f=true)(h0:∀s,aT X0 (cN [] [] AV) O0 5 f [.dg,.str s] aH.empty (λv _=>some v)=some (Md none))(h1:∀l s r,aT X0 (cN [] [] AV) O0 r f [.dW kj l,.str s] aH.empty (λv _=>some v)=jLa f l s r r (IntKind.wrap .i64 ((l.length:Int)-1)))
 (step:∀l s r m i,jLa f l s r (m+1) i=ig l s i (jLa f l s r m (IntKind.wrap .i64 (i-1)))):dh X0 gW f QI :=
 dA (λargs=>lt.bS hk args) (kA .nil n0) λargs rs hg=>by
  unfold QI at hg;split at hg;case h_2=>cases hg
  split at hg;case h_2=>cases hg
  rename_i s _ l hx;simp only[aq,ax]at hg;obtain⟨h2,rfl⟩:=hg;have h2:=az h2;rcases rW hx with rfl|⟨rfl,rfl⟩
  .refine ⟨[SP ((Cs l s).getD ([],0,false)),.bool (Cs l s).isSome],O0,l.length+1,?_,rfl,rfl⟩;rw[h1,i64_in (n:=(l.length:Int)-1) (by omega) (by omega),Xp h2 (step l s _) l.length l [] _ rfl (eO l).symm (by omega),aaK];rfl
  exact⟨[SP ([],0,false),.bool false],O0,5,h0 s,rfl,rfl⟩
theorem aaL:dh X0 gW 142 QI:=Xq rfl Xo Xn aaJ
section
variable {β:Type} (R:Int->Bool->Option β) (op a b:Int)
def af3:Option β:=ah (bI b 0) (R 0 false) (ah (bI op 8) (ah (bI b 0) none (R (IntKind.wrap .i64 (Int.tdiv a b)) true)) (ah (bI b 0) none (R (Int.tmod a b) true)))
def shB:Option β:=ah (bB b 0) (R 0 false) (ah (bI op 12)
 (ah (bB (IntKind.wrap .u64 b) 0) none (R (IntKind.wrap .i64 (IntKind.wrap .u64 (IntKind.wrap .u64 a*2 ^ min (Int.toNat (IntKind.wrap .u64 b)) 64))) true))
 (ah (bB (IntKind.wrap .u64 b) 0) none (R (IntKind.wrap .i64 (Int.fdiv (IntKind.wrap .u64 a) (2 ^ min (Int.toNat (IntKind.wrap .u64 b)) 64))) true)))
def af4:Option β:=ah (bI op 14) (R (IntKind.wrap .i64 ↑(BitVec.toNat (BitVec.ofInt 64 a &&& BitVec.ofInt 64 b))) true)
 (ah (bI op 15) (R (IntKind.wrap .i64 ↑(BitVec.toNat (BitVec.ofInt 64 a ^^^ BitVec.ofInt 64 b))) true) (R (IntKind.wrap .i64 ↑(BitVec.toNat (BitVec.ofInt 64 a ||| BitVec.ofInt 64 b))) true))
def af5:Option β:=ah (bI op 10) (R (IntKind.wrap .i64 (a+b)) true) (ah (bI op 11) (R (IntKind.wrap .i64 (a-b)) true)
 (ah (bI op 12) (ah (bI op 12) (shB R op a b) (af4 R op a b)) (ah (bI op 13) (shB R op a b) (af4 R op a b))))
def aaM:Option β:=ah (bI op 7) (R (IntKind.wrap .i64 (a*b)) true) (ah (bI op 8) (ah (bI op 8) (af3 R op a b) (af5 R op a b)) (ah (bI op 9) (af3 R op a b) (af5 R op a b)))
end
theorem af6 (b:Int):0<=IntKind.wrap .u64 b:=by
 unfold IntKind.wrap;have:IntKind.signed .u64=false:=rfl;simp only[this,iO];exact Int.emod_nonneg _ (by decide)
def Ay (op a b:Int):Int×Bool:=((aaM (λy k=>some (y,k)) op a b).getD (0,false))
theorem aaN {β:Type}(R:Int->Bool->Option β)(op a b:Int):aaM R op a b=R (Ay op a b).1 (Ay op a b).2:=by
 unfold Ay aaM af3 af5 shB af4;rw[fG (a:=IntKind.wrap .u64 b) (af6 b)];cases bI op 7
 .cases bI op 8
  .cases bI op 9
   .cases bI op 10
    .cases bI op 11
     .cases bI op 12
      .cases bI op 13
       .cases bI op 14
        .cases bI op 15<;>rfl
        rfl
       cases bB b 0<;>rfl
      cases bB b 0<;>rfl
     rfl
    rfl
   cases bI b 0<;>rfl
  cases bI b 0<;>rfl
 rfl
theorem af7 (op a b:Int):aT X0 (cN [] [] AV) ia 5 143 [.int .i64 op,.int .i64 a,.int .i64 b] aH.empty (λv _=>some v)=aaM (λy k=>some (.fH [.int .i64 y,.bool k])) op a b:=by kernel_rfl
def gBi (args:List AV):Option (Bool×List fN) :=
 match args with
 |[.int .i64 op,.int .i64 a,.int .i64 b]=>some (true,[.val (.int .i64 (Ay op a b).1),.val (.bool (Ay op a b).2)])
 |_=>none
theorem af8:dh X0 gW 143 gBi :=
 dA (λargs=>lt.bS rfl args) (kA .nil n0) λargs rs hg=>by
  unfold gBi at hg;split at hg;case h_2=>cases hg
  rename_i op a b;simp only[aq,ax]at hg;obtain⟨h1,rfl⟩:=hg;exact⟨[.int .i64 (Ay op a b).1,.bool (Ay op a b).2],ia,5,(af7 op a b).trans (aaN _ op a b),rfl,rfl⟩
def M13:List xX:=(143,[none,none,none],gBi)::(142,[some kj,none],QI)::M8
theorem Xr:jx X0 gW M13:=.cons af8 (.cons aaL akD)
def pE:List Bool:=[true,true,true,true,false,true,false]
def anE:eD:=⟨gZ [2,3,1,0,8,9,10,12,13,25,26,27] pE,.none,[]⟩
def jE (L:AV)(x:List Nd)(h s:Int)(r m:Nat)(v:List Int)(p:Bool)(i:Int):Option AV :=
 jf X0 (cN M13 [] AV) anE r 103 pE (λv _=>some v) m (lz 114 [(2,.int .i64 h),(3,.int .i64 s),(1,L),(0,.dW fL x),(8,.int .i64 0),(9,.bool false),(10,.int .i64 0),(12,.D1 0 200),(13,.bool p),(25,.dW fL x),(26,.int .i64 x.length),(27,.int .i64 i)]) (pz [.list 189 (.int .i64) v 0 true false])
def Fk (v:List Int)(i:Int)(y:Int)(k:List Int->Option AV):Option AV:=Option.rec (motive:=λ_=>Option AV) none (λ_=>k (v.set i.toNat y)) (dX v i)
def Me (v:List Int)(i:Int)(k:Int->Option AV):Option AV:=Option.rec (motive:=λ_=>Option AV) none k (dX v i)
def SQ (e:Int):Option AV:=some (.fH [.int .i64 0,.bool false,.int .i64 e])
def Xs (a:Int):Int:=IntKind.wrap .i64 (0-a)
def Xt (a:Int):Int:=IntKind.wrap .i64 ((BitVec.ofInt 64 (-1) ^^^ BitVec.ofInt 64 a).toNat)
def af9 (l:List Sym)(s:List UInt8):Sym:=(Cs l s).getD ([],0,false)
def Hs (x:List Nd)(l:List Sym)(h s:Int)(v:List Int)(p:Bool)(i:Int)(go:List Int->Bool->Option AV):Option AV :=
 ah (bB i x.length) (Option.rec (motive:=λ_=>Option AV) none (λnd =>
  ah (bI nd.1 1) (Fk v i nd.2.1 λv=>go v p)
  (ah (bI nd.1 2) (ah (Nat.ble l.length 2000000) (ah (!(Cs l nd.2.2.1).isSome) (SQ 6) (Fk v i (af9 l nd.2.2.1).2.1 λv=>ah p (go v true) (go v (af9 l nd.2.2.1).2.2))) none)
  (ah (bI nd.1 3) (Fk v i h λv=>go v true)
  (ah (bI nd.1 4) (Fk v i s λv=>go v true)
  (ah (bI nd.1 5) (Me v nd.2.2.2.1 λa=>Fk v i (Xs a) λv=>go v p)
  (ah (bI nd.1 6) (Me v nd.2.2.2.1 λa=>Fk v i (Xt a) λv=>go v p)
  (Me v nd.2.2.2.1 λa=>Me v nd.2.2.2.2 λb=>ah (!(Ay nd.1 a b).2) (SQ 5) (Fk v i (Ay nd.1 a b).1 λv=>go v p)))))))) (dX x i))
 (Me v (IntKind.wrap .i64 ((x.length:Int)-1)) λy=>some (.fH [.int .i64 y,.bool p,.int .i64 0]))
theorem aga (x:List Nd)(l:List Sym)(h s:Int)(r m:Nat)(v:List Int)(p:Bool)(i:Int):jE (.dW kj l) x h s r (m+1) v p i=Hs x l h s v p i λv p=>jE (.dW kj l) x h s r m v p (IntKind.wrap .i64 (i+1)):=by kernel_rfl
theorem agb (x:List Nd)(h s:Int)(r m:Nat)(v:List Int)(p:Bool)(i:Int):jE .dg x h s r (m+1) v p i=Hs x [] h s v p i λv p=>jE .dg x h s r m v p (IntKind.wrap .i64 (i+1)):=by kernel_rfl
theorem aaO (x:List Nd)(l:List Sym)(h s:Int)(r:Nat):aT X0 (cN M13 [] AV) anE r 103 [.dW fL x,.dW kj l,.int .i64 h,.int .i64 s] aH.empty (λv _=>some v) =
 ah (!bI (rM bX x) 0) (SQ (rM bX x)) (jE (.dW kj l) x h s r r (List.replicate 200 0) false 0):=by kernel_rfl
theorem aaP (x:List Nd)(h s:Int)(r:Nat):aT X0 (cN M13 [] AV) anE r 103 [.dW fL x,.dg,.int .i64 h,.int .i64 s] aH.empty (λv _=>some v) =
 ah (!bI (rM bX x) 0) (SQ (rM bX x)) (jE .dg x h s r r (List.replicate 200 0) false 0):=by kernel_rfl
theorem Az {v:List Int}{i:Int}(h0:0<=i)(h1:i<v.length)(k:Int->Option AV):Me v i k=k (Fj v i):=by
 obtain⟨n,rfl⟩:∃n:Nat,i=n:=⟨i.toNat,by omega⟩;unfold Me Fj;rw[sy,aO (by omega)];show k v[n]=k ((v[n]?).getD 0);rw[aO (by omega)];rfl
theorem aaQ {v:List Int}{n:Nat}(h1:n<v.length)(y:Int)(k:List Int->Option AV):Fk v n y k=k (v.set n y):=by
 unfold Fk;rw[sy,aO h1];rfl
def aaR (q:Int×Bool×Int):AV:=.fH [.int .i64 q.1,.bool q.2.1,.int .i64 q.2.2]
theorem akG {x:List Nd}{l:List Sym}{h s:Int}{J:Nat->List Int->Bool->Int->Option AV}(step:∀m v p i,J (m+1) v p i=Hs x l h s v p i λv p=>J m v p (IntKind.wrap .i64 (i+1)))
 (hl:l.length<=2000000) (hx:x.length<=200) (hne:x≠[]):∀(rest pre:List Nd) (m:Nat) (v:List Int) (p:Bool),x=pre++rest->rest.length<m->v.length=200->aaH pre.length rest ->
  J m v p pre.length=some (aaR (evL Xs Xt Ay l h s rest pre.length v p)):=by
 intro rest;induction rest with
 |nil =>
  intro pre m v p he hm hv hb;obtain⟨m,rfl⟩:∃m',m=m'+1:=⟨m-1,by simp at hm;omega⟩;have hl':x.length=pre.length:=by rw[he];simp
  have hp:0<x.length:=dG.2 hne;rw[step];unfold Hs;rw[fG (by omega),i64_in (n:=(x.length:Int)-1) (by omega) (by omega)];show Me v ((x.length:Int)-1) _=_;rw[Az (by omega) (by omega),hl'];rfl
 |cons nd rest ih =>
  intro pre m v p he hm hv hb;obtain⟨m,rfl⟩:∃m',m=m'+1:=⟨m-1,by simp at hm;omega⟩;have hl':x.length=pre.length+(rest.length+1):=by rw[he];simp
  have hg:dX x (pre.length:Int)=some nd:=by rw[he];exact lX pre rest nd
  obtain⟨⟨b1,b2,b3⟩,hb'⟩:=hb;have go:∀(y:Int) (q:Bool),J m (v.set pre.length y) q ((pre.length:Int)+1)=some (aaR (evL Xs Xt Ay l h s rest (pre.length+1) (v.set pre.length y) q)):=λy q=>by
   have:=ih (pre++[nd]) m (v.set pre.length y) q (by rw[he];simp) (by simp at hm;omega) (by simp[hv]) (by simpa using hb');simpa using this
  have hi:pre.length<v.length:=by omega
  rw[step];unfold Hs;rw[pL (by omega),hg,i64_in (n:=(pre.length:Int)+1) (by omega) (by omega)];show ah (bI nd.1 1) _ _=_;unfold evL opE;have done:∀(y:Int) (q:Bool) (q':Bool),q'=(p||q)->Fk v pre.length y (λv=>J m v q' ((pre.length:Int)+1))=some (aaR (if ((0,y,q):Int×Int×Bool).1=0 then evL Xs Xt Ay l h s rest (pre.length+1) (v.set pre.length ((0,y,q):Int×Int×Bool).2.1) (p||((0,y,q):Int×Int×Bool).2.2) else (0,false,((0,y,q):Int×Int×Bool).1))):=λy q q' hq=>by
   rw[aaQ hi,ag rfl,go,hq]
  rw[ck];by_cases h1:nd.1=1
  .simp only[ag h1];exact done _ _ _ (by simp)
  rw[aa h1,ck];simp only[aa h1];by_cases h2:nd.1=2
  .simp only[ag h2];rw[ee hl];unfold af9;cases hL:Cs l nd.2.2.1 with
   |none=>rfl
   |some q =>
    show Fk v pre.length q.2.1 (λv=>ah p (J m v true _) (J m v q.2.2 _))=_;cases p with
    |true=>exact done _ _ _ (by simp)
    |false=>exact done _ _ _ (by simp)
  rw[aa h2,ck];simp only[aa h2];by_cases h3:nd.1=3
  .simp only[ag h3];exact done _ _ _ (by simp)
  rw[aa h3,ck];simp only[aa h3];by_cases h4:nd.1=4
  .simp only[ag h4];exact done _ _ _ (by simp)
  rw[aa h4,ck];simp only[aa h4];obtain⟨c1,c2⟩:=b2 (by omega);by_cases h5:nd.1=5
  .simp only[ag h5];rw[Az c1 (by omega)];exact done _ _ _ (by simp)
  rw[aa h5,ck];simp only[aa h5];by_cases h6:nd.1=6
  .simp only[ag h6];rw[Az c1 (by omega)];exact done _ _ _ (by simp)
  simp only[aa h6];obtain⟨d1,d2⟩:=b3 (by omega);rw[Az c1 (by omega),Az d1 (by omega)];cases hB:(Ay nd.1 (Fj v nd.2.2.2.1) (Fj v nd.2.2.2.2)).2 with
  |true=>rw[ag rfl];exact done _ _ _ (by simp)
  |false=>rw[aa mD];rfl
def QJ (x:List Nd)(l:List Sym)(h s:Int):Int×Bool×Int:=if rM bX x=0 then evL Xs Xt Ay l h s x 0 (List.replicate 200 0) false else (0,false,rM bX x)
theorem akH {x:List Nd}{l:List Sym}{h s:Int}{T:Option AV}{J:Nat->List Int->Bool->Int->Option AV}(e:T=ah (!bI (rM bX x) 0) (SQ (rM bX x)) (J 202 (List.replicate 200 0) false 0))
 (step:∀m v p i,J (m+1) v p i=Hs x l h s v p i λv p=>J m v p (IntKind.wrap .i64 (i+1))) (hl:l.length<=2000000):T=some (aaR (QJ x l h s)):=by
 rw[e,cX];unfold QJ;by_cases hc:rM bX x=0
 .rw[ag hc,ag hc];obtain⟨h1,h2,h3⟩:=Aw hc;exact akG step hl h2 h1 x [] 202 _ false rfl (by omega) (List.length_replicate ..) h3
 rw[aa hc,aa hc];rfl
def gEv (args:List AV):Option (Bool×List fN) :=
 match args with
 |[X,L,.int .i64 h,.int .i64 s]=>match I7 fL X,I7 kj L with
  |some x,some l=>some (Nat.ble l.length 2000000,[.val (.int .i64 (QJ x l h s).1),.val (.bool (QJ x l h s).2.1),.val (.int .i64 (QJ x l h s).2.2)])
  |_,_=>none
 |_=>none
theorem aaS (L:AV)(h s:Int)(r:Nat):aT X0 (cN M13 [] AV) anE r 103 [.dg,L,.int .i64 h,.int .i64 s] aH.empty (λv _=>some v)=SQ 2:=by kernel_rfl
theorem Xu:dh X0 gW 103 gEv :=
 dA (λargs=>lt.bS rfl args) (kA Xr n0) λargs rs hg=>by
  unfold gEv at hg;split at hg;case h_2=>cases hg
  split at hg;case h_2=>cases hg
  rename_i h s _ _ x l hx hl;simp only[aq,ax]at hg;obtain⟨h2,rfl⟩:=hg;have h2:=az h2;refine⟨[.int .i64 (QJ x l h s).1,.bool (QJ x l h s).2.1,.int .i64 (QJ x l h s).2.2],anE,202,?_,rfl,rfl⟩;rcases rW hx with rfl|⟨rfl,rfl⟩
  .rcases rW hl with rfl|⟨rfl,rfl⟩
   .exact akH (aaO x l h s 202) (λm v p i=>aga x l h s 202 m v p i) h2
   exact akH (aaP x h s 202) (λm v p i=>agb x h s 202 m v p i) h2
  rw[aaS];rfl
def M14:List xX:=(103,[some fL,some kj,none,none],gEv)::M13
theorem agc:jx X0 gW M14:=.cons Xu Xr
def pNm:List Bool:=[true,true,true,true,false,true,false]
def I0:eD:=⟨gZ [4,3,11,12,13] pNm,.none,[]⟩
abbrev Key:=List UInt8×Int
def Xv (x:List Nd)(r m:Nat)(ks:List Key)(i:Int):Option (AV×Option Row):=jf X0 (cN M14 [] _) I0 r 102 pNm vk m (lz 37 [(4,.ye 0),(3,.dg),(11,.dW fL x),(12,.int .i64 x.length),(13,.int .i64 i)]) (pz [.mp 79 ks])
def Mf (x:List Nd)(r m n:Nat)(ks:List Key)(o:List (List UInt8))(i:Int):Option (AV×Option Row):=jf X0 (cN M14 [] _) I0 r 102 pNm vk m (lz 37 [(4,.ye 0),(3,.own 1 n),(11,.dW fL x),(12,.int .i64 x.length),(13,.int .i64 i)]) (pz [.mp 79 ks,.list 9 .str o 0 false false])
def vh (x:List Nd)(ks:List Key)(i:Int)(fin skip:Option (AV×Option Row))(new:List UInt8->Option (AV×Option Row)):Option (AV×Option Row) :=
 ah (bB i x.length) (Option.rec (motive:=λ_=>Option (AV×Option Row)) none (λnd=>ah (!bI nd.1 2) skip (ah (bB 0 (iz ks nd.2.2.1)) skip (new nd.2.2.1))) (dX x i)) fin
theorem QK (x:List Nd)(r m:Nat)(ks:List Key)(i:Int):Xv x r (m+1) ks i=vh x ks i (some (.dg,none)) (Xv x r m ks (IntKind.wrap .i64 (i+1))) λs=>Mf x r m 1 (fk ks s 1) [s] (IntKind.wrap .i64 (i+1)):=by kernel_rfl
theorem QN (x:List Nd)(r m n:Nat)(ks:List Key)(o:List (List UInt8))(i:Int):Mf x r (m+1) n ks o i=vh x ks i (some (.own 1 n,some (.list 9 .str o 0 false false))) (Mf x r m n ks o (IntKind.wrap .i64 (i+1)))
 λs=>ah (Nat.ble (o.length+1) 2000000) (Mf x r m (o.length+1) (fk ks s 1) (o++[s]) (IntKind.wrap .i64 (i+1))) none:=by kernel_rfl
theorem I2 (x:List Nd)(r:Nat):aT X0 (cN M14 [] _) I0 r 102 [.dW fL x] aH.empty vk=ah (!bI (rM bX x) 0) (some (.dg,none)) (Xv x r r [] 0):=by kernel_rfl
theorem Xw (r:Nat):aT X0 (cN M14 [] _) I0 r 102 [.dg] aH.empty vk=some (.dg,none):=by kernel_rfl
def keys (o:List (List UInt8)):List Key:=o.map λs=>(s,1)
theorem Mg (s:List UInt8):∀o:List (List UInt8),iz (keys o) s=if s∈o then 1 else 0
 |[]=>rfl
 |a::o=>by
  show ah (decide (s=a)) 1 (iz (keys o) s)=_;by_cases h:s=a
  .rw[bf h,ag (by simp[h])]
  rw[aU h];show iz (keys o) s=_;rw[Mg s o];by_cases h':s∈o
  .rw[ag h',ag (by simp[h'])]
  rw[aa h',aa (by simp[h,h'])]
theorem Mh {s:List UInt8}:∀{o:List (List UInt8)},s ∉ o->fk (keys o) s 1=keys (o++[s])
 |[],_=>rfl
 |a::o,h=>by
  have h1:s≠a:=λe=>h (by simp[e])
  have h2:s ∉ o:=λe=>h (by simp[e])
  show ah (decide (s=a)) ((a,1)::keys o) ((a,1)::fk (keys o) s 1)=_;rw[aU h1];show (a,1)::fk (keys o) s 1=_;rw[Mh h2];rfl
theorem Mi {x:List Nd}{nd:Nd}{pre rest:List Nd}{o:List (List UInt8)}(he:x=pre++nd::rest)(fin skip:Option (AV×Option Row))(new:List UInt8->Option (AV×Option Row)) :
 vh x (keys o) pre.length fin skip new=if nd.1=2/\nd.2.2.1 ∉ o then new nd.2.2.1 else skip:=by
 have hl:x.length=pre.length+(rest.length+1):=by rw[he];simp
 have hg:dX x (pre.length:Int)=some nd:=by rw[he];exact lX pre rest nd
 unfold vh;rw[pL (by omega),hg];show ah (!bI nd.1 2) _ _=_;rw[cX,cG,Mg];by_cases h2:nd.1=2
 .rw[ag h2];by_cases hm:nd.2.2.1∈o
  .rw[ag hm,ag (by decide),aa (λh=>h.2 hm)]
  rw[aa hm,aa (by decide),ag ⟨h2,hm⟩]
 rw[aa h2,aa (λh=>h2 h.1)]
theorem Ht {x:List Nd}{ks:List Key}(fin skip:Option (AV×Option Row))(new:List UInt8->Option (AV×Option Row)):vh x ks x.length fin skip new=fin:=by
 unfold vh;rw[fG (by omega)]
def QO (o:List (List UInt8)):AV×Option Row:=(.own 1 o.length,some (.list 9 .str o 0 false false))
def aaT (o:List (List UInt8)):AV×Option Row:=if o=[] then (.dg,none) else QO o
theorem aaU {x:List Nd}(hx:x.length<=200)(r:Nat):∀(rest pre:List Nd) (m:Nat) (o:List (List UInt8)),x=pre++rest->rest.length<m->o.length<=pre.length ->
 Mf x r m o.length (keys o) o pre.length=some (QO (vn rest o)):=by
 intro rest;induction rest with
 |nil =>
  intro pre m o he hm ho;obtain⟨m,rfl⟩:∃m',m=m'+1:=⟨m-1,by simp at hm;omega⟩;obtain rfl:x=pre:=by rw[he];simp
  rw[QN,Ht];rfl
 |cons nd rest ih =>
  intro pre m o he hm ho;obtain⟨m,rfl⟩:∃m',m=m'+1:=⟨m-1,by simp at hm;omega⟩;have hl:x.length=pre.length+(rest.length+1):=by rw[he];simp
  rw[QN,Mi he,i64_in (n:=(pre.length:Int)+1) (by omega) (by omega),vn];have go:∀o':List (List UInt8),o'.length<=pre.length+1->Mf x r m o'.length (keys o') o' ((pre.length:Int)+1)=some (QO (vn rest o')):=λo' ho'=>by
   have:=ih (pre++[nd]) m o' (by rw[he];simp) (by simp at hm;omega) (by simp;omega);simpa using this
  split
  .rename_i h;rw[ee (by omega),Mh h.2];have:=go (o++[nd.2.2.1]) (by simp;omega);simpa using this
  exact go o (by omega)
theorem aaV {x:List Nd}(hx:x.length<=200)(r:Nat):∀(rest pre:List Nd) (m:Nat),x=pre++rest->rest.length<m->Xv x r m [] pre.length=some (aaT (vn rest [])):=by
 intro rest;induction rest with
 |nil =>
  intro pre m he hm;obtain⟨m,rfl⟩:∃m',m=m'+1:=⟨m-1,by simp at hm;omega⟩;obtain rfl:x=pre:=by rw[he];simp
  rw[QK,Ht];rfl
 |cons nd rest ih =>
  intro pre m he hm;obtain⟨m,rfl⟩:∃m',m=m'+1:=⟨m-1,by simp at hm;omega⟩;have hl:x.length=pre.length+(rest.length+1):=by rw[he];simp
  have hstep:=Mi (o:=[]) he (some (AV.dg,(none:Option Row))) (Xv x r m [] (IntKind.wrap .i64 ((pre.length:Int)+1))) λs=>Mf x r m 1 (fk [] s 1) [s] (IntKind.wrap .i64 ((pre.length:Int)+1))
  rw[QK];refine hstep.trans ?_;rw[i64_in (n:=(pre.length:Int)+1) (by omega) (by omega),vn];split
  .rename_i h;have:=aaU hx r rest (pre++[nd]) m [nd.2.2.1] (by rw[he];simp) (by simp at hm;omega) (by simp);have hne:vn rest [nd.2.2.1]≠[]:=λe=>by
    have:=(Jv rest [nd.2.2.1] nd.2.2.1).2 (.inl (by simp));rw[e]at this;cases this
   unfold aaT;rw[eP,aa hne];have h3:Mf x r m 1 [(nd.2.2.1,1)] [nd.2.2.1] ((pre.length:Int)+1)=some (QO (vn rest [nd.2.2.1])):=by simpa[keys] using this
   exact h3
  have:=ih (pre++[nd]) m (by rw[he];simp) (by simp at hm;omega);simpa using this
def gNm (args:List AV):Option (Bool×List fN) :=
 match args with
 |[L]=>match I7 fL L with
  |some x=>some (true,[.list 9 .str (if rM bX x=0 then vn x [] else [])])
  |none=>none
 |_=>none
theorem agd:dh X0 gW 102 gNm:=by
 intro args rs hg;unfold gNm at hg;split at hg;case h_2=>cases hg
 rename_i L;split at hg;case h_2=>cases hg
 rename_i x hx;simp only[aq,ax]at hg;obtain⟨_,rfl⟩:=hg;have hrun:aT X0 (cN M14 [] _) I0 202 102 [L] aH.empty vk=some (aaT (if rM bX x=0 then vn x [] else [])):=by
  rcases rW hx with rfl|⟨rfl,rfl⟩
  .rw[I2,cX];by_cases h0:rM bX x=0
   .rw[ag h0,ag h0];exact aaV (Aw h0).2.1 202 x [] 202 rfl (by have:=(Aw h0).2.1;omega)
   rw[aa h0,aa h0];rfl
  rw[Xw,aa (by decide)];rfl
 obtain⟨v,M1,h1,h2⟩:=og (λargs=>lt.bS rfl args) (kA agc n0 _) hrun;generalize (if rM bX x=0 then vn x [] else [])=o at *;have e:=EN h1;subst e;unfold aaT at h1 h2;by_cases ho:o=[]
 .rw[ag ho]at h1 h2;exact⟨_,M1,h2 [.dg] rfl,rfl,.inr ⟨rfl,ho,trivial⟩⟩
 rw[aa ho]at h1 h2;exact⟨_,M1,h2 [.own 1 o.length] rfl,rfl,.inl ⟨1,0,false,rfl,(jI (bL h1)).2,by simp,trivial⟩⟩
end
end Go.Proofs.YtfggompceldfgaaGreatDoor.ex

/- Expressions: whether one may be. Expressions: symbols looked up; operators of two operands. Expressions: the contract of Eval. Expressions: the contract of Names. -/
import Derived.Test.YtbeckacfibledaaGreatDoorGrc
import Derived.Test.YtbeckacfibledaaGreatDoorGxa
set_option linter.unusedVariables false
set_option linter.unusedSimpArgs false

namespace Go.Proofs.YtbeckacfibledaaGreatDoor.ex
open Go.Tv Go.Ev Go.Px
set_option maxRecDepth 100000
noncomputable section
theorem PT (op n l r:Int)(s:List UInt8):fO bZ (op,n,s,l,r)=true↔1<=op/\op<=16/\(op=1\/n=0)/\(op=2->bZ s=true)/\(op≠2->s=[])/\(op<=4->l=0)/\(6<op\/r=0):=by
 simp only[fO,ak,cJ,aV,aS,bH];constructor
 .rintro ⟨⟨⟨⟨⟨h1,h2⟩,h3⟩,h4⟩,h5⟩,h6⟩;refine⟨h1,h2,h3,λh=>by rw[ag h]at h4;exact h4,λh=>by rw[aa h]at h4;exact fG h4,λh=>by omega,h6⟩
 rintro⟨h1,h2,h3,h4,h4',h5,h6⟩;refine⟨⟨⟨⟨⟨h1,h2⟩,h3⟩,?_⟩,by omega⟩,h6⟩;split
 .rename_i h;exact h4 h
 rename_i h;exact aX (h4' h)
def J1 (op n l r:Int)(s:List UInt8):Option AV :=
 let r3:Option AV:=ah (bC 6 op) (some (.bool true)) (some (.bool (bI r 0)))
 let r2:Option AV:=ah (!bC 4 op) (ah (!bI l 0) (some (.bool false)) r3) r3
 let r1b:Option AV:=ah (!bI op 2) (ah (!decide (s=[])) (some (.bool false)) r2) r2
 let r1:Option AV:=ah (bI op 2) (ah (!bZ s) (some (.bool false)) r1b) r1b
 ah (bC op 1) (some (.bool false)) (ah (bC 16 op) (some (.bool false)) (ah (!bI op 1) (ah (!bI n 0) (some (.bool false)) r1) r1))
theorem abA (op n l r:Int)(s:List UInt8):aT X0 (cN M6 [] AV) gO 5 148 [.agg [.int .i64 op,.int .i64 n,.str s,.int .i64 l,.int .i64 r]] aG.empty (λv _=>some v)=J1 op n l r s:=by kernel_rfl
theorem PU (op n l r:Int)(s:List UInt8):J1 op n l r s=some (.bool (fO bZ (op,n,s,l,r))):=by
 have hf:∀b:Bool,(b=true↔fO bZ (op,n,s,l,r)=true)->some (AV.bool b)=some (.bool (fO bZ (op,n,s,l,r))):=λb h=>by rw[bO.2 h]
 have hi:=PT op n l r s;unfold J1;simp only[cA,iU,cq,cn];have no:¬(1<=op/\op<=16/\(op=1\/n=0)/\(op=2->bZ s=true)/\(op≠2->s=[])/\(op<=4->l=0)/\(6<op\/r=0))->some (AV.bool false)=some (.bool (fO bZ (op,n,s,l,r))):=λh=>hf false ⟨λh=>(by cases h),λh2=>absurd (hi.1 h2) h⟩
 by_cases h1:op<1
 .rw[ag h1];exact no (by omega)
 rw[aa h1];by_cases h2:16<op
 .rw[ag h2];exact no (by omega)
 rw[aa h2];by_cases h3:op=1\/n=0
 .
  -- the text
  have r1:(if op=2 then ah (!bZ s) (some (AV.bool false)) (if op=2 then (if op<=4 then (if l=0 then (if 6<op then some (AV.bool true) else some (AV.bool (bI r 0))) else some (AV.bool false)) else (if 6<op then some (AV.bool true) else some (AV.bool (bI r 0)))) else ah (!decide (s=[])) (some (AV.bool false)) (if op<=4 then (if l=0 then (if 6<op then some (AV.bool true) else some (AV.bool (bI r 0))) else some (AV.bool false)) else (if 6<op then some (AV.bool true) else some (AV.bool (bI r 0)))))
   else if op=2 then (if op<=4 then (if l=0 then (if 6<op then some (AV.bool true) else some (AV.bool (bI r 0))) else some (AV.bool false)) else (if 6<op then some (AV.bool true) else some (AV.bool (bI r 0)))) else ah (!decide (s=[])) (some (AV.bool false)) (if op<=4 then (if l=0 then (if 6<op then some (AV.bool true) else some (AV.bool (bI r 0))) else some (AV.bool false)) else (if 6<op then some (AV.bool true) else some (AV.bool (bI r 0)))))=some (.bool (fO bZ (op,n,s,l,r))):=by
   have r3:∀(ht:(op=2->bZ s=true)/\(op≠2->s=[])) (h5:op<=4->l=0),(if 6<op then some (AV.bool true) else some (AV.bool (bI r 0)))=some (.bool (fO bZ (op,n,s,l,r))):=λht h5=>by
    split
    .rename_i h6;exact hf true ⟨λ_=>hi.2 ⟨by omega,by omega,h3,ht.1,ht.2,h5,.inl h6⟩,λ_=>rfl⟩
    rename_i h6;refine hf _ ?_;rw[hi,eF,eK];exact⟨λh=>⟨by omega,by omega,h3,ht.1,ht.2,h5,.inr h⟩,λh=>by omega⟩
   have r2:∀(ht:(op=2->bZ s=true)/\(op≠2->s=[])),(if op<=4 then (if l=0 then (if 6<op then some (AV.bool true) else some (AV.bool (bI r 0))) else some (AV.bool false)) else (if 6<op then some (AV.bool true) else some (AV.bool (bI r 0))))=some (.bool (fO bZ (op,n,s,l,r))):=λht=>by
    by_cases h4:op<=4
    .rw[ag h4];by_cases h5:l=0
     .rw[ag h5];exact r3 ht (λ_=>h5)
     rw[aa h5];exact no (by omega)
    rw[aa h4];exact r3 ht (by omega)
   by_cases ho:op=2
   .simp only[ag ho];cases hn:bZ s with
    |true=>exact r2 ⟨λ_=>hn,λh=>absurd ho h⟩
    |false=>exact no (λh=>by have:=h.2.2.2.1 ho;rw[hn]at this;cases this)
   simp only[aa ho];by_cases hs:s=[]
   .rw[aX hs];exact r2 ⟨λh=>absurd h ho,λ_=>hs⟩
   rw[aU hs];exact no (λh=>hs (h.2.2.2.2.1 ho))
  rcases h3 with h3|h3
  .rw[ag h3];exact r1
  by_cases h3':op=1
  .rw[ag h3'];exact r1
  rw[aa h3',ag h3];exact r1
 rw[aa (λh=>h3 (.inl h)),aa (λh=>h3 (.inr h))];exact no (λh=>h3 h.2.2.1)
def gFd (args:List AV):Option (Bool×List fA) :=
 match args with
 |[.agg [.int .i64 op,.int .i64 n,.str s,.int .i64 l,.int .i64 r]]=>some (true,[.val (.bool (fO bZ (op,n,s,l,r)))])
 |_=>none
theorem ahi:dc X0 fU 148 gFd :=
 cS (λargs=>lt.bS rfl args) (jH xm n0) λargs rs hg=>by
  unfold gFd at hg;split at hg
  .rename_i op n s l r;simp only[aq,ay]at hg;obtain⟨h1,rfl⟩:=hg;exact⟨[.bool (fO bZ (op,n,s,l,r))],gO,5,(abA op n l r s).trans (PU op n l r s),rfl,rfl⟩
  cases hg
def M7:List wh:=(148,[none],gFd)::M6
theorem ad8:iT X0 fU M7:=.cons ahi xm
def pCk:List Bool:=[true,true,true,false,true,false]
def TN:ei:=⟨gD [2,3,10,11,12] pCk,.none,[71,47]⟩
def al5 (x:List Nd)(o:AV)(i:Int):fJ:=kr 80 [(2,.int .i64 0),(3,o),(10,.dH eC x),(11,.int .i64 x.length),(12,.int .i64 i)]
def jC0 (x:List Nd)(r m:Nat)(i:Int):Option AV:=iF X0 (cN M7 [] AV) TN r 123 pCk (λv _=>some v) m (al5 x .dG i) (nA [])
def jC1 (x:List Nd)(r m:Nat)(n:Nat)(o:List Int)(i:Int):Option AV:=iF X0 (cN M7 [] AV) TN r 123 pCk (λv _=>some v) m (al5 x (.own 0 n) i) (nA [.list 3 (.int .i64) o 0 false false])
def e2:Option AV:=some (.int .i64 2)
def XW (o:List Int)(i:Int)(k:Nat->List Int->Option AV):Option AV:=ah (Nat.ble (o.length+1) 2000000) (k (o.length+1) (o++[i])) none
def abB (o:List Int)(b:Int)(k:List Int->Option AV):Option AV:=ah (!bC b 0 && !bC o.length b) (k (o.take b.toNat)) none
def XX (o:List Int)(j:Int)(z:Int)(k:Option AV):Option AV:=Option.rec (motive:=λ_=>Option AV) none (λy=>ah (!bI z y) e2 k) (dQ o j)
def vV (n:Nat)(o:List Int)(i:Int)(nd:Nd)(go:Nat->List Int->Option AV):Option AV :=
 ah (!fO bZ nd) e2 (ah (!bC 4 nd.1) (XW o i go)
  (ah (!bC 6 nd.1) (ah (bC n 1) e2 (XX o (IntKind.wrap .i64 (n-1)) nd.2.2.2.1 (abB o (IntKind.wrap .i64 (n-1)) λo=>XW o i go)))
   (ah (bC n 2) e2 (XX o (IntKind.wrap .i64 (n-2)) nd.2.2.2.1 (XX o (IntKind.wrap .i64 (n-1)) nd.2.2.2.2 (abB o (IntKind.wrap .i64 (n-2)) λo=>XW o i go))))))
set_option maxRecDepth 100000 in
theorem XY (x:List Nd)(r m n:Nat)(o:List Int)(i:Int):jC1 x r (m+1) n o i =
 ah (bC i x.length) (Option.rec (motive:=λ_=>Option AV) none (λnd=>vV n o i nd λn o=>jC1 x r m n o (IntKind.wrap .i64 (i+1))) (dQ x i)) (ah (!bI n 1) e2 (some (.int .i64 0))):=by kernel_rfl
set_option maxRecDepth 100000 in
theorem ahk (x:List Nd)(r m:Nat)(i:Int):jC0 x r (m+1) i =
 ah (bC i x.length) (Option.rec (motive:=λ_=>Option AV) none (λnd=>ah (!fO bZ nd) e2 (ah (!bC 4 nd.1) (jC1 x r m 1 [i] (IntKind.wrap .i64 (i+1))) (ah (!bC 6 nd.1) e2 e2))) (dQ x i)) e2:=by kernel_rfl
set_option maxRecDepth 100000 in
theorem abC (x:List Nd)(r:Nat):aT X0 (cN M7 [] AV) TN r 123 [.dH eC x] aG.empty (λv _=>some v)=ah (bC 200 x.length) (some (.int .i64 3)) (jC0 x r r 0):=by kernel_rfl
set_option maxRecDepth 100000 in
theorem XZ (r:Nat):aT X0 (cN M7 [] AV) TN (r+1) 123 [.dG] aG.empty (λv _=>some v)=e2:=by kernel_rfl
theorem al6 (x:List Nd)(hx:x.length<=1000)(r:Nat):∀(rest pre:List Nd) (m:Nat) (o:List Int),x=pre++rest->rest.length<m->o.length<=pre.length->jC1 x r m o.length o pre.length=some (.int .i64 (uB bZ pre.length rest o)):=by
 intro rest;induction rest with
 |nil =>
  intro pre m o he hm ho;obtain⟨m,rfl⟩:∃m',m=m'+1:=⟨m-1,by simp at hm;omega⟩;have hl:x.length=pre.length:=by rw[he];simp
  rw[XY,fL (by omega)];show ah (!bI (o.length:Int) 1) e2 (some (.int .i64 0))=_;rw[cn,uB];by_cases h:o.length=1
  .rw[ag (by omega),ag h]
  rw[aa (by omega),aa h];rfl
 |cons nd rest ih =>
  intro pre m o he hm ho;obtain⟨m,rfl⟩:∃m',m=m'+1:=⟨m-1,by simp at hm;omega⟩;have hl:x.length=pre.length+(rest.length+1):=by rw[he];simp
  have hg:dQ x (pre.length:Int)=some nd:=by rw[he];exact kK pre rest nd
  have hin:∀o':List Int,o'.length<=pre.length->XW o' pre.length (λn o=>jC1 x r m n o ((pre.length:Int)+1))=some (.int .i64 (uB bZ (pre.length+1) rest (o'++[(pre.length:Int)]))):=λo' ho'=>by
   have:=ih (pre++[nd]) m (o'++[(pre.length:Int)]) (by rw[he];simp) (by simp at hm;omega) (by simp;omega);simp only[aA,aJ,bA,bX]at this;unfold XW;rw[dS (by omega)];exact this
  rw[XY,pZ (by omega),hg,i64_in (n:=(pre.length:Int)+1) (by omega) (by omega)];show vV o.length o pre.length nd (λn o=>jC1 x r m n o ((pre.length:Int)+1))=_;unfold vV;rw[uB];cases UH:fO bZ nd with
  |false=>rfl
  |true =>
   show ah (!bC 4 nd.1) _ _=_;rw[ag rfl,iU];unfold Fb;by_cases h4:nd.1<=4
   .rw[ag h4,ag h4];exact hin o ho
   rw[aa h4,aa h4,iU];have X2:∀(j:Nat) (z:Int) (k:Option AV) (R:Option AV),j<o.length->(o[j]? ≠ some z->R=e2)->(o[j]? = some z->k=R)->XX o (j:Int) z k=R:=λj z k R hj h1 h2=>by
    unfold XX;rw[ux,aP hj];show ah (!bI z o[j]) e2 k=_;rw[cn];by_cases hz:z=o[j]
    .rw[ag hz];exact h2 (by rw[aP hj,hz])
    rw[aa hz];exact(h1 (by rw[aP hj];intro h;exact hz (bL h).symm)).symm
   have al7:∀(j:Nat) (k:List Int->Option AV),j<=o.length->abB o (j:Int) k=k (o.take j):=λj k hj=>by
    unfold abB;rw[fL (by omega),fL (by omega)];rfl
   by_cases h6:nd.1<=6
   .rw[ag h6,ag h6,cA];by_cases hn:o.length<1
    .rw[ag (by omega),ag (.inl hn)];rfl
    rw[aa (by omega)];have e1:IntKind.wrap .i64 ((o.length:Int)-1)=((o.length-1:Nat):Int):=by rw[i64_in (by omega) (by omega)];omega
    rw[e1];refine X2 _ _ _ _ (by omega) (λh=>by rw[ag (.inr h)];rfl) λh=>?_
    rw[aa (by rintro (h1|h1)<;>first|exact hn h1|exact h1 h),al7 _ _ (by omega)];exact hin _ (by simp;omega)
   rw[aa h6,aa h6,cA];by_cases hn:o.length<2
   .rw[ag (by omega),ag (.inl hn)];rfl
   rw[aa (by omega)];have e1:IntKind.wrap .i64 ((o.length:Int)-1)=((o.length-1:Nat):Int):=by rw[i64_in (by omega) (by omega)];omega
   have e2':IntKind.wrap .i64 ((o.length:Int)-2)=((o.length-2:Nat):Int):=by rw[i64_in (by omega) (by omega)];omega
   rw[e1,e2'];refine X2 _ _ _ _ (by omega) (λh=>by rw[ag (.inr (.inl h))];rfl) λh=>?_
   refine X2 _ _ _ _ (by omega) (λh'=>by rw[ag (.inr (.inr h'))];rfl) λh'=>?_
   rw[aa (by rintro (h1|h1|h1)<;>first|exact hn h1|exact h1 h|exact h1 h'),al7 _ _ (by omega)];exact hin _ (by simp;omega)
theorem al8 (x:List Nd):aT X0 (cN M7 [] AV) TN 202 123 [.dH eC x] aG.empty (λv _=>some v)=some (.int .i64 (rT bZ x)):=by
 rw[abC,cA];unfold rT;by_cases h:200<x.length
 .rw[ag (by omega),ag h]
 rw[aa (by omega),aa h,ahk];cases x with
 |nil=>rfl
 |cons nd rest =>
  rw[pZ (by simp)];show ah (!fO bZ nd) e2 (ah (!bC 4 nd.1) (jC1 (nd::rest) 202 201 1 [0] (IntKind.wrap .i64 (0+1))) (ah (!bC 6 nd.1) e2 e2))=_;rw[uB];cases UH:fO bZ nd with
  |false=>rfl
  |true =>
   show ah (!bC 4 nd.1) _ _=_;rw[ag rfl,iU];unfold Fb;by_cases h4:nd.1<=4
   .rw[ag h4,ag h4];simp only[aJ]at h;exact al6 (nd::rest) (by simp;omega) 202 rest [nd] 201 [0] rfl (by omega) (by simp)
   rw[aa h4,aa h4,iU];by_cases h6:nd.1<=6
   .rw[ag h6,ag h6];rfl
   rw[aa h6,aa h6];rfl
def gCk (args:List AV):Option (Bool×List fA) :=
 match args with
 |[L]=>match JC eC L with
  |some x=>some (true,[.val (.int .i64 (rT bZ x))])
  |none=>none
 |_=>none
theorem Pt:dc X0 fU 123 gCk :=
 cS (λargs=>lt.bS rfl args) (jH ad8 n0) λargs rs hg=>by
  unfold gCk at hg;split at hg
  .split at hg
   .rename_i x hx;simp only[aq,ay]at hg;obtain⟨h1,rfl⟩:=hg;refine⟨[.int .i64 (rT bZ x)],TN,202,?_,rfl,rfl⟩;rcases sj hx with rfl|⟨rfl,rfl⟩
    .exact al8 x
    exact XZ 201
   cases hg
  cases hg
def M8:List wh:=(123,[some eC],gCk)::M7
theorem al9:iT X0 fU M8:=.cons Pt ad8
def gZ:Tv.Ty:=.pair .str (.pair (.int .i64) .bool)
def p18:List Bool:=[true,false,true,false]
def PV:ei:=⟨gD [0,1,4,5,6] p18,.none,[]⟩
def TP (q:Sym):AV:=.agg [.str q.1,.int .i64 q.2.1,.bool q.2.2]
def MN:Option Sym->AV
 |some q=>.fH [TP q,.bool true]
 |none=>.fH [TP ([],0,false),.bool false]
def jLa (f:FuncId)(l:List Sym)(s:List UInt8)(r m:Nat)(i:Int):Option AV:=iF X0 (cN [] [] AV) PV r f p18 (λv _=>some v) m (kr 26 [(0,.dH gZ l),(1,.str s),(4,.ptr 0 0),(5,.bool false),(6,.int .i64 i)]) (nA [.cells 59 [.str [],.int .i64 0,.bool false]])
def iA (l:List Sym)(s:List UInt8)(i:Int)(go:Option AV):Option AV :=
 ah (!bC i 0) (Option.rec (motive:=λ_=>Option AV) none (λy=>ah (decide (y.1=s)) (Option.rec (motive:=λ_=>Option AV) none (λy=>some (MN (some y))) (dQ l i)) go) (dQ l i)) (some (MN none))
theorem abF (l:List Sym)(s:List UInt8)(r m:Nat)(i:Int):jLa 124 l s r (m+1) i=iA l s i (jLa 124 l s r m (IntKind.wrap .i64 (i-1))):=by kernel_rfl
theorem X3 (l:List Sym)(s:List UInt8)(r:Nat):aT X0 (cN [] [] AV) PV r 124 [.dH gZ l,.str s] aG.empty (λv _=>some v)=jLa 124 l s r r (IntKind.wrap .i64 ((l.length:Int)-1)):=by kernel_rfl
theorem X4 (s:List UInt8):aT X0 (cN [] [] AV) PV 5 124 [.dG,.str s] aG.empty (λv _=>some v)=some (MN none):=by kernel_rfl
theorem X5 {f:FuncId}{l:List Sym}(hl:l.length<=2000000){s:List UInt8}{r:Nat}(step:∀m i,jLa f l s r (m+1) i=iA l s i (jLa f l s r m (IntKind.wrap .i64 (i-1)))) :
 ∀(n:Nat) (pre Ko:List Sym) (m:Nat),pre.length=n->l=pre++Ko->n<m->jLa f l s r m ((n:Int)-1)=some (MN (J2 pre.reverse s))
 |0,pre,Ko,m,hp,he,hm=>by
  obtain⟨m,rfl⟩:∃m',m=m'+1:=⟨m-1,by omega⟩;have:pre=[]:=aQ.1 hp;subst this;rw[step];rfl
 |n+1,pre,Ko,m,hp,he,hm=>by
  obtain⟨m,rfl⟩:∃m',m=m'+1:=⟨m-1,by omega⟩;rcases List.eq_nil_or_concat pre with rfl|⟨pre',a,rfl⟩
  .simp at hp
  rw[List.concat_eq_append]at hp he ⊢;have hp':pre'.length=n:=by simpa using hp
  have NZ:n<l.length:=by rw[he];simp;omega
  have hg:dQ l (n:Int)=some a:=by rw[he,<-hp',bM];exact kK pre' _ a
  have hin:=X5 hl step n pre' ([a]++Ko) m hp' (by rw[he];simp) (by omega);have e1:((n+1:Nat):Int)-1=n:=by omega
  rw[step,e1];unfold iA;rw[fL (by omega),hg,i64_in (n:=(n:Int)-1) (by omega) (by omega),hin];rw[List.reverse_append];show ah (decide (a.1=s)) (some (MN (some a))) _=some (MN (if a.1=s then some a else J2 pre'.reverse s));by_cases h:a.1=s
  .rw[aX h,ag h]
  rw[aU h,aa h]
def Rv (args:List AV):Option (Bool×List fA) :=
 match args with
 |[L,.str s]=>match JC gZ L with
  |some l=>some (Nat.ble l.length 2000000,[.val (TP ((CN l s).getD ([],0,false))),.val (.bool (CN l s).isSome)])
  |none=>none
 |_=>none
theorem abG (o:Option Sym):MN o = .fH [TP (o.getD ([],0,false)),.bool o.isSome]:=by cases o<;>rfl
theorem X6 {f:FuncId}(hk:lt.inl f=true)(h0:∀s,aT X0 (cN [] [] AV) PV 5 f [.dG,.str s] aG.empty (λv _=>some v)=some (MN none))(h1:∀l s r,aT X0 (cN [] [] AV) PV r f [.dH gZ l,.str s] aG.empty (λv _=>some v)=jLa f l s r r (IntKind.wrap .i64 ((l.length:Int)-1)))
 (step:∀l s r m i,jLa f l s r (m+1) i=iA l s i (jLa f l s r m (IntKind.wrap .i64 (i-1)))):dc X0 fU f Rv :=
 cS (λargs=>lt.bS hk args) (jH .nil n0) λargs rs hg=>by
  unfold Rv at hg;split at hg;case h_2=>cases hg
  split at hg;case h_2=>cases hg
  rename_i s _ l hx;simp only[aq,ay]at hg;obtain⟨h2,rfl⟩:=hg;have h2:=az h2;rcases sj hx with rfl|⟨rfl,rfl⟩
  .refine ⟨[TP ((CN l s).getD ([],0,false)),.bool (CN l s).isSome],PV,l.length+1,?_,rfl,rfl⟩;rw[h1,i64_in (n:=(l.length:Int)-1) (by omega) (by omega),X5 h2 (step l s _) l.length l [] _ rfl (fB l).symm (by omega),abG];rfl
  exact⟨[TP ([],0,false),.bool false],PV,5,h0 s,rfl,rfl⟩
theorem abH:dc X0 fU 124 Rv:=X6 rfl X4 X3 abF
section
variable {β:Type} (R:Int->Bool->Option β) (op a b:Int)
def ahl:Option β:=ah (bI b 0) (R 0 false) (ah (bI op 8) (ah (bI b 0) none (R (IntKind.wrap .i64 (Int.tdiv a b)) true)) (ah (bI b 0) none (R (Int.tmod a b) true)))
def shB:Option β:=ah (bC b 0) (R 0 false) (ah (bI op 12)
 (ah (bC (IntKind.wrap .u64 b) 0) none (R (IntKind.wrap .i64 (IntKind.wrap .u64 (IntKind.wrap .u64 a*2 ^ min (Int.toNat (IntKind.wrap .u64 b)) 64))) true))
 (ah (bC (IntKind.wrap .u64 b) 0) none (R (IntKind.wrap .i64 (Int.fdiv (IntKind.wrap .u64 a) (2 ^ min (Int.toNat (IntKind.wrap .u64 b)) 64))) true)))
def ahm:Option β:=ah (bI op 14) (R (IntKind.wrap .i64 ↑(BitVec.toNat (BitVec.ofInt 64 a &&& BitVec.ofInt 64 b))) true)
 (ah (bI op 15) (R (IntKind.wrap .i64 ↑(BitVec.toNat (BitVec.ofInt 64 a ^^^ BitVec.ofInt 64 b))) true) (R (IntKind.wrap .i64 ↑(BitVec.toNat (BitVec.ofInt 64 a ||| BitVec.ofInt 64 b))) true))
def ahn:Option β:=ah (bI op 10) (R (IntKind.wrap .i64 (a+b)) true) (ah (bI op 11) (R (IntKind.wrap .i64 (a-b)) true)
 (ah (bI op 12) (ah (bI op 12) (shB R op a b) (ahm R op a b)) (ah (bI op 13) (shB R op a b) (ahm R op a b))))
def abI:Option β:=ah (bI op 7) (R (IntKind.wrap .i64 (a*b)) true) (ah (bI op 8) (ah (bI op 8) (ahl R op a b) (ahn R op a b)) (ah (bI op 9) (ahl R op a b) (ahn R op a b)))
end
theorem aho (b:Int):0<=IntKind.wrap .u64 b:=by
 unfold IntKind.wrap;have:IntKind.signed .u64=false:=rfl;simp only[this,iY];exact Int.emod_nonneg _ (by decide)
def AW (op a b:Int):Int×Bool:=((abI (λy k=>some (y,k)) op a b).getD (0,false))
theorem abJ {β:Type}(R:Int->Bool->Option β)(op a b:Int):abI R op a b=R (AW op a b).1 (AW op a b).2:=by
 unfold AW abI ahl ahn shB ahm;rw[fL (a:=IntKind.wrap .u64 b) (aho b)];cases bI op 7
 .cases bI op 8
  .cases bI op 9
   .cases bI op 10
    .cases bI op 11
     .cases bI op 12
      .cases bI op 13
       .cases bI op 14
        .cases bI op 15<;>rfl
        rfl
       cases bC b 0<;>rfl
      cases bC b 0<;>rfl
     rfl
    rfl
   cases bI b 0<;>rfl
  cases bI b 0<;>rfl
 rfl
theorem ahp (op a b:Int):aT X0 (cN [] [] AV) gO 5 125 [.int .i64 op,.int .i64 a,.int .i64 b] aG.empty (λv _=>some v)=abI (λy k=>some (.fH [.int .i64 y,.bool k])) op a b:=by kernel_rfl
def gBi (args:List AV):Option (Bool×List fA) :=
 match args with
 |[.int .i64 op,.int .i64 a,.int .i64 b]=>some (true,[.val (.int .i64 (AW op a b).1),.val (.bool (AW op a b).2)])
 |_=>none
theorem ahq:dc X0 fU 125 gBi :=
 cS (λargs=>lt.bS rfl args) (jH .nil n0) λargs rs hg=>by
  unfold gBi at hg;split at hg;case h_2=>cases hg
  rename_i op a b;simp only[aq,ay]at hg;obtain⟨h1,rfl⟩:=hg;exact⟨[.int .i64 (AW op a b).1,.bool (AW op a b).2],gO,5,(ahp op a b).trans (abJ _ op a b),rfl,rfl⟩
def M13:List wh:=(125,[none,none,none],gBi)::(124,[some gZ,none],Rv)::M8
theorem X7:iT X0 fU M13:=.cons ahq (.cons abH al9)
def pE:List Bool:=[true,true,true,true,false,true,false]
def anE:ei:=⟨gD [2,3,1,0,8,9,10,12,13,25,26,27] pE,.none,[]⟩
def jE (L:AV)(x:List Nd)(h s:Int)(r m:Nat)(v:List Int)(p:Bool)(i:Int):Option AV :=
 iF X0 (cN M13 [] AV) anE r 87 pE (λv _=>some v) m (kr 114 [(2,.int .i64 h),(3,.int .i64 s),(1,L),(0,.dH eC x),(8,.int .i64 0),(9,.bool false),(10,.int .i64 0),(12,.Ej 0 200),(13,.bool p),(25,.dH eC x),(26,.int .i64 x.length),(27,.int .i64 i)]) (nA [.list 178 (.int .i64) v 0 true false])
def FF (v:List Int)(i:Int)(y:Int)(k:List Int->Option AV):Option AV:=Option.rec (motive:=λ_=>Option AV) none (λ_=>k (v.set i.toNat y)) (dQ v i)
def MO (v:List Int)(i:Int)(k:Int->Option AV):Option AV:=Option.rec (motive:=λ_=>Option AV) none k (dQ v i)
def TQ (e:Int):Option AV:=some (.fH [.int .i64 0,.bool false,.int .i64 e])
def X8 (a:Int):Int:=IntKind.wrap .i64 (0-a)
def X9 (a:Int):Int:=IntKind.wrap .i64 ((BitVec.ofInt 64 (-1) ^^^ BitVec.ofInt 64 a).toNat)
def ahr (l:List Sym)(s:List UInt8):Sym:=(CN l s).getD ([],0,false)
def HW (x:List Nd)(l:List Sym)(h s:Int)(v:List Int)(p:Bool)(i:Int)(go:List Int->Bool->Option AV):Option AV :=
 ah (bC i x.length) (Option.rec (motive:=λ_=>Option AV) none (λnd =>
  ah (bI nd.1 1) (FF v i nd.2.1 λv=>go v p)
  (ah (bI nd.1 2) (ah (Nat.ble l.length 2000000) (ah (!(CN l nd.2.2.1).isSome) (TQ 6) (FF v i (ahr l nd.2.2.1).2.1 λv=>ah p (go v true) (go v (ahr l nd.2.2.1).2.2))) none)
  (ah (bI nd.1 3) (FF v i h λv=>go v true)
  (ah (bI nd.1 4) (FF v i s λv=>go v true)
  (ah (bI nd.1 5) (MO v nd.2.2.2.1 λa=>FF v i (X8 a) λv=>go v p)
  (ah (bI nd.1 6) (MO v nd.2.2.2.1 λa=>FF v i (X9 a) λv=>go v p)
  (MO v nd.2.2.2.1 λa=>MO v nd.2.2.2.2 λb=>ah (!(AW nd.1 a b).2) (TQ 5) (FF v i (AW nd.1 a b).1 λv=>go v p)))))))) (dQ x i))
 (MO v (IntKind.wrap .i64 ((x.length:Int)-1)) λy=>some (.fH [.int .i64 y,.bool p,.int .i64 0]))
theorem J4 (x:List Nd)(l:List Sym)(h s:Int)(r m:Nat)(v:List Int)(p:Bool)(i:Int):jE (.dH gZ l) x h s r (m+1) v p i=HW x l h s v p i λv p=>jE (.dH gZ l) x h s r m v p (IntKind.wrap .i64 (i+1)):=by kernel_rfl
theorem ahs (x:List Nd)(h s:Int)(r m:Nat)(v:List Int)(p:Bool)(i:Int):jE .dG x h s r (m+1) v p i=HW x [] h s v p i λv p=>jE .dG x h s r m v p (IntKind.wrap .i64 (i+1)):=by kernel_rfl
theorem abL (x:List Nd)(l:List Sym)(h s:Int)(r:Nat):aT X0 (cN M13 [] AV) anE r 87 [.dH eC x,.dH gZ l,.int .i64 h,.int .i64 s] aG.empty (λv _=>some v) =
 ah (!bI (rT bZ x) 0) (TQ (rT bZ x)) (jE (.dH gZ l) x h s r r (List.replicate 200 0) false 0):=by kernel_rfl
theorem abM (x:List Nd)(h s:Int)(r:Nat):aT X0 (cN M13 [] AV) anE r 87 [.dH eC x,.dG,.int .i64 h,.int .i64 s] aG.empty (λv _=>some v) =
 ah (!bI (rT bZ x) 0) (TQ (rT bZ x)) (jE .dG x h s r r (List.replicate 200 0) false 0):=by kernel_rfl
theorem AX {v:List Int}{i:Int}(h0:0<=i)(h1:i<v.length)(k:Int->Option AV):MO v i k=k (FE v i):=by
 obtain⟨n,rfl⟩:∃n:Nat,i=n:=⟨i.toNat,by omega⟩;unfold MO FE;rw[ux,aP (by omega)];show k v[n]=k ((v[n]?).getD 0);rw[aP (by omega)];rfl
theorem abN {v:List Int}{n:Nat}(h1:n<v.length)(y:Int)(k:List Int->Option AV):FF v n y k=k (v.set n y):=by
 unfold FF;rw[ux,aP h1];rfl
def abO (q:Int×Bool×Int):AV:=.fH [.int .i64 q.1,.bool q.2.1,.int .i64 q.2.2]
theorem amb {x:List Nd}{l:List Sym}{h s:Int}{J:Nat->List Int->Bool->Int->Option AV}(step:∀m v p i,J (m+1) v p i=HW x l h s v p i λv p=>J m v p (IntKind.wrap .i64 (i+1)))
 (hl:l.length<=2000000) (hx:x.length<=200) (hne:x≠[]):∀(rest pre:List Nd) (m:Nat) (v:List Int) (p:Bool),x=pre++rest->rest.length<m->v.length=200->abD pre.length rest ->
  J m v p pre.length=some (abO (evL X8 X9 AW l h s rest pre.length v p)):=by
 intro rest;induction rest with
 |nil =>
  intro pre m v p he hm hv hb;obtain⟨m,rfl⟩:∃m',m=m'+1:=⟨m-1,by simp at hm;omega⟩;have hl':x.length=pre.length:=by rw[he];simp
  have hp:0<x.length:=dJ.2 hne;rw[step];unfold HW;rw[fL (by omega),i64_in (n:=(x.length:Int)-1) (by omega) (by omega)];show MO v ((x.length:Int)-1) _=_;rw[AX (by omega) (by omega),hl'];rfl
 |cons nd rest ih =>
  intro pre m v p he hm hv hb;obtain⟨m,rfl⟩:∃m',m=m'+1:=⟨m-1,by simp at hm;omega⟩;have hl':x.length=pre.length+(rest.length+1):=by rw[he];simp
  have hg:dQ x (pre.length:Int)=some nd:=by rw[he];exact kK pre rest nd
  obtain⟨⟨b1,b2,b3⟩,hb'⟩:=hb;have go:∀(y:Int) (q:Bool),J m (v.set pre.length y) q ((pre.length:Int)+1)=some (abO (evL X8 X9 AW l h s rest (pre.length+1) (v.set pre.length y) q)):=λy q=>by
   have:=ih (pre++[nd]) m (v.set pre.length y) q (by rw[he];simp) (by simp at hm;omega) (by simp[hv]) (by simpa using hb');simpa using this
  have hi:pre.length<v.length:=by omega
  rw[step];unfold HW;rw[pZ (by omega),hg,i64_in (n:=(pre.length:Int)+1) (by omega) (by omega)];show ah (bI nd.1 1) _ _=_;unfold evL opE;have done:∀(y:Int) (q:Bool) (q':Bool),q'=(p||q)->FF v pre.length y (λv=>J m v q' ((pre.length:Int)+1))=some (abO (if ((0,y,q):Int×Int×Bool).1=0 then evL X8 X9 AW l h s rest (pre.length+1) (v.set pre.length ((0,y,q):Int×Int×Bool).2.1) (p||((0,y,q):Int×Int×Bool).2.2) else (0,false,((0,y,q):Int×Int×Bool).1))):=λy q q' hq=>by
   rw[abN hi,ag rfl,go,hq]
  rw[cq];by_cases h1:nd.1=1
  .simp only[ag h1];exact done _ _ _ (by simp)
  rw[aa h1,cq];simp only[aa h1];by_cases h2:nd.1=2
  .simp only[ag h2];rw[dS hl];unfold ahr;cases hL:CN l nd.2.2.1 with
   |none=>rfl
   |some q =>
    show FF v pre.length q.2.1 (λv=>ah p (J m v true _) (J m v q.2.2 _))=_;cases p with
    |true=>exact done _ _ _ (by simp)
    |false=>exact done _ _ _ (by simp)
  rw[aa h2,cq];simp only[aa h2];by_cases h3:nd.1=3
  .simp only[ag h3];exact done _ _ _ (by simp)
  rw[aa h3,cq];simp only[aa h3];by_cases h4:nd.1=4
  .simp only[ag h4];exact done _ _ _ (by simp)
  rw[aa h4,cq];simp only[aa h4];obtain⟨c1,c2⟩:=b2 (by omega);by_cases h5:nd.1=5
  .simp only[ag h5];rw[AX c1 (by omega)];exact done _ _ _ (by simp)
  rw[aa h5,cq];simp only[aa h5];by_cases h6:nd.1=6
  .simp only[ag h6];rw[AX c1 (by omega)];exact done _ _ _ (by simp)
  simp only[aa h6];obtain⟨d1,d2⟩:=b3 (by omega);rw[AX c1 (by omega),AX d1 (by omega)];cases hB:(AW nd.1 (FE v nd.2.2.2.1) (FE v nd.2.2.2.2)).2 with
  |true=>rw[ag rfl];exact done _ _ _ (by simp)
  |false=>rw[aa mI];rfl
def Rw (x:List Nd)(l:List Sym)(h s:Int):Int×Bool×Int:=if rT bZ x=0 then evL X8 X9 AW l h s x 0 (List.replicate 200 0) false else (0,false,rT bZ x)
theorem Ya {x:List Nd}{l:List Sym}{h s:Int}{T:Option AV}{J:Nat->List Int->Bool->Int->Option AV}(e:T=ah (!bI (rT bZ x) 0) (TQ (rT bZ x)) (J 202 (List.replicate 200 0) false 0))
 (step:∀m v p i,J (m+1) v p i=HW x l h s v p i λv p=>J m v p (IntKind.wrap .i64 (i+1))) (hl:l.length<=2000000):T=some (abO (Rw x l h s)):=by
 rw[e,cn];unfold Rw;by_cases hc:rT bZ x=0
 .rw[ag hc,ag hc];obtain⟨h1,h2,h3⟩:=AU hc;exact amb step hl h2 h1 x [] 202 _ false rfl (by omega) (iM ..) h3
 rw[aa hc,aa hc];rfl
def gEv (args:List AV):Option (Bool×List fA) :=
 match args with
 |[X,L,.int .i64 h,.int .i64 s]=>match JC eC X,JC gZ L with
  |some x,some l=>some (Nat.ble l.length 2000000,[.val (.int .i64 (Rw x l h s).1),.val (.bool (Rw x l h s).2.1),.val (.int .i64 (Rw x l h s).2.2)])
  |_,_=>none
 |_=>none
theorem abP (L:AV)(h s:Int)(r:Nat):aT X0 (cN M13 [] AV) anE r 87 [.dG,L,.int .i64 h,.int .i64 s] aG.empty (λv _=>some v)=TQ 2:=by kernel_rfl
theorem Yb:dc X0 fU 87 gEv :=
 cS (λargs=>lt.bS rfl args) (jH X7 n0) λargs rs hg=>by
  unfold gEv at hg;split at hg;case h_2=>cases hg
  split at hg;case h_2=>cases hg
  rename_i h s _ _ x l hx hl;simp only[aq,ay]at hg;obtain⟨h2,rfl⟩:=hg;have h2:=az h2;refine⟨[.int .i64 (Rw x l h s).1,.bool (Rw x l h s).2.1,.int .i64 (Rw x l h s).2.2],anE,202,?_,rfl,rfl⟩;rcases sj hx with rfl|⟨rfl,rfl⟩
  .rcases sj hl with rfl|⟨rfl,rfl⟩
   .exact Ya (abL x l h s 202) (λm v p i=>J4 x l h s 202 m v p i) h2
   exact Ya (abM x h s 202) (λm v p i=>ahs x h s 202 m v p i) h2
  rw[abP];rfl
def M14:List wh:=(87,[some eC,some gZ,none,none],gEv)::M13
theorem aht:iT X0 fU M14:=.cons Yb X7
def pNm:List Bool:=[true,true,true,true,false,true,false]
def Ju:ei:=⟨gD [4,3,11,12,13] pNm,.none,[]⟩
abbrev Key:=List UInt8×Int
def Yc (x:List Nd)(r m:Nat)(ks:List Key)(i:Int):Option (AV×Option Row):=iF X0 (cN M14 [] _) Ju r 86 pNm vC m (kr 37 [(4,.yG 0),(3,.dG),(11,.dH eC x),(12,.int .i64 x.length),(13,.int .i64 i)]) (nA [.mp 68 ks])
def MP (x:List Nd)(r m n:Nat)(ks:List Key)(o:List (List UInt8))(i:Int):Option (AV×Option Row):=iF X0 (cN M14 [] _) Ju r 86 pNm vC m (kr 37 [(4,.yG 0),(3,.own 1 n),(11,.dH eC x),(12,.int .i64 x.length),(13,.int .i64 i)]) (nA [.mp 68 ks,.list 9 .str o 0 false false])
def vA (x:List Nd)(ks:List Key)(i:Int)(fin skip:Option (AV×Option Row))(new:List UInt8->Option (AV×Option Row)):Option (AV×Option Row) :=
 ah (bC i x.length) (Option.rec (motive:=λ_=>Option (AV×Option Row)) none (λnd=>ah (!bI nd.1 2) skip (ah (bC 0 (iJ ks nd.2.2.1)) skip (new nd.2.2.1))) (dQ x i)) fin
theorem Rx (x:List Nd)(r m:Nat)(ks:List Key)(i:Int):Yc x r (m+1) ks i=vA x ks i (some (.dG,none)) (Yc x r m ks (IntKind.wrap .i64 (i+1))) λs=>MP x r m 1 (iw ks s 1) [s] (IntKind.wrap .i64 (i+1)):=by kernel_rfl
theorem Ry (x:List Nd)(r m n:Nat)(ks:List Key)(o:List (List UInt8))(i:Int):MP x r (m+1) n ks o i=vA x ks i (some (.own 1 n,some (.list 9 .str o 0 false false))) (MP x r m n ks o (IntKind.wrap .i64 (i+1)))
 λs=>ah (Nat.ble (o.length+1) 2000000) (MP x r m (o.length+1) (iw ks s 1) (o++[s]) (IntKind.wrap .i64 (i+1))) none:=by kernel_rfl
theorem Jw (x:List Nd)(r:Nat):aT X0 (cN M14 [] _) Ju r 86 [.dH eC x] aG.empty vC=ah (!bI (rT bZ x) 0) (some (.dG,none)) (Yc x r r [] 0):=by kernel_rfl
theorem Yd (r:Nat):aT X0 (cN M14 [] _) Ju r 86 [.dG] aG.empty vC=some (.dG,none):=by kernel_rfl
def keys (o:List (List UInt8)):List Key:=o.map λs=>(s,1)
theorem MQ (s:List UInt8):∀o:List (List UInt8),iJ (keys o) s=if s∈o then 1 else 0
 |[]=>rfl
 |a::o=>by
  show ah (decide (s=a)) 1 (iJ (keys o) s)=_;by_cases h:s=a
  .rw[aX h,ag (by simp[h])]
  rw[aU h];show iJ (keys o) s=_;rw[MQ s o];by_cases h':s∈o
  .rw[ag h',ag (by simp[h'])]
  rw[aa h',aa (by simp[h,h'])]
theorem MR {s:List UInt8}:∀{o:List (List UInt8)},s ∉ o->iw (keys o) s 1=keys (o++[s])
 |[],_=>rfl
 |a::o,h=>by
  have h1:s≠a:=λe=>h (by simp[e])
  have h2:s ∉ o:=λe=>h (by simp[e])
  show ah (decide (s=a)) ((a,1)::keys o) ((a,1)::iw (keys o) s 1)=_;rw[aU h1];show (a,1)::iw (keys o) s 1=_;rw[MR h2];rfl
theorem MS {x:List Nd}{nd:Nd}{pre rest:List Nd}{o:List (List UInt8)}(he:x=pre++nd::rest)(fin skip:Option (AV×Option Row))(new:List UInt8->Option (AV×Option Row)) :
 vA x (keys o) pre.length fin skip new=if nd.1=2/\nd.2.2.1 ∉ o then new nd.2.2.1 else skip:=by
 have hl:x.length=pre.length+(rest.length+1):=by rw[he];simp
 have hg:dQ x (pre.length:Int)=some nd:=by rw[he];exact kK pre rest nd
 unfold vA;rw[pZ (by omega),hg];show ah (!bI nd.1 2) _ _=_;rw[cn,cA,MQ];by_cases h2:nd.1=2
 .rw[ag h2];by_cases hm:nd.2.2.1∈o
  .rw[ag hm,ag (by decide),aa (λh=>h.2 hm)]
  rw[aa hm,aa (by decide),ag ⟨h2,hm⟩]
 rw[aa h2,aa (λh=>h2 h.1)]
theorem HX {x:List Nd}{ks:List Key}(fin skip:Option (AV×Option Row))(new:List UInt8->Option (AV×Option Row)):vA x ks x.length fin skip new=fin:=by
 unfold vA;rw[fL (by omega)]
def Rz (o:List (List UInt8)):AV×Option Row:=(.own 1 o.length,some (.list 9 .str o 0 false false))
def abQ (o:List (List UInt8)):AV×Option Row:=if o=[] then (.dG,none) else Rz o
theorem abR {x:List Nd}(hx:x.length<=200)(r:Nat):∀(rest pre:List Nd) (m:Nat) (o:List (List UInt8)),x=pre++rest->rest.length<m->o.length<=pre.length ->
 MP x r m o.length (keys o) o pre.length=some (Rz (vI rest o)):=by
 intro rest;induction rest with
 |nil =>
  intro pre m o he hm ho;obtain⟨m,rfl⟩:∃m',m=m'+1:=⟨m-1,by simp at hm;omega⟩;obtain rfl:x=pre:=by rw[he];simp
  rw[Ry,HX];rfl
 |cons nd rest ih =>
  intro pre m o he hm ho;obtain⟨m,rfl⟩:∃m',m=m'+1:=⟨m-1,by simp at hm;omega⟩;have hl:x.length=pre.length+(rest.length+1):=by rw[he];simp
  rw[Ry,MS he,i64_in (n:=(pre.length:Int)+1) (by omega) (by omega),vI];have go:∀o':List (List UInt8),o'.length<=pre.length+1->MP x r m o'.length (keys o') o' ((pre.length:Int)+1)=some (Rz (vI rest o')):=λo' ho'=>by
   have:=ih (pre++[nd]) m o' (by rw[he];simp) (by simp at hm;omega) (by simp;omega);simpa using this
  split
  .rename_i h;rw[dS (by omega),MR h.2];have:=go (o++[nd.2.2.1]) (by simp;omega);simpa using this
  exact go o (by omega)
theorem abS {x:List Nd}(hx:x.length<=200)(r:Nat):∀(rest pre:List Nd) (m:Nat),x=pre++rest->rest.length<m->Yc x r m [] pre.length=some (abQ (vI rest [])):=by
 intro rest;induction rest with
 |nil =>
  intro pre m he hm;obtain⟨m,rfl⟩:∃m',m=m'+1:=⟨m-1,by simp at hm;omega⟩;obtain rfl:x=pre:=by rw[he];simp
  rw[Rx,HX];rfl
 |cons nd rest ih =>
  intro pre m he hm;obtain⟨m,rfl⟩:∃m',m=m'+1:=⟨m-1,by simp at hm;omega⟩;have hl:x.length=pre.length+(rest.length+1):=by rw[he];simp
  have hstep:=MS (o:=[]) he (some (AV.dG,(none:Option Row))) (Yc x r m [] (IntKind.wrap .i64 ((pre.length:Int)+1))) λs=>MP x r m 1 (iw [] s 1) [s] (IntKind.wrap .i64 ((pre.length:Int)+1))
  rw[Rx];refine hstep.trans ?_;rw[i64_in (n:=(pre.length:Int)+1) (by omega) (by omega),vI];split
  .rename_i h;have:=abR hx r rest (pre++[nd]) m [nd.2.2.1] (by rw[he];simp) (by simp at hm;omega) (by simp);have hne:vI rest [nd.2.2.1]≠[]:=λe=>by
    have:=(J3 rest [nd.2.2.1] nd.2.2.1).2 (.inl (by simp));rw[e]at this;cases this
   unfold abQ;rw[eS,aa hne];have h3:MP x r m 1 [(nd.2.2.1,1)] [nd.2.2.1] ((pre.length:Int)+1)=some (Rz (vI rest [nd.2.2.1])):=by simpa[keys] using this
   exact h3
  have:=ih (pre++[nd]) m (by rw[he];simp) (by simp at hm;omega);simpa using this
def gNm (args:List AV):Option (Bool×List fA) :=
 match args with
 |[L]=>match JC eC L with
  |some x=>some (true,[.list 9 .str (if rT bZ x=0 then vI x [] else [])])
  |none=>none
 |_=>none
theorem ahu:dc X0 fU 86 gNm:=by
 intro args rs hg;unfold gNm at hg;split at hg;case h_2=>cases hg
 rename_i L;split at hg;case h_2=>cases hg
 rename_i x hx;simp only[aq,ay]at hg;obtain⟨_,rfl⟩:=hg;have hrun:aT X0 (cN M14 [] _) Ju 202 86 [L] aG.empty vC=some (abQ (if rT bZ x=0 then vI x [] else [])):=by
  rcases sj hx with rfl|⟨rfl,rfl⟩
  .rw[Jw,cn];by_cases h0:rT bZ x=0
   .rw[ag h0,ag h0];exact abS (AU h0).2.1 202 x [] 202 rfl (by have:=(AU h0).2.1;omega)
   rw[aa h0,aa h0];rfl
  rw[Yd,aa (by decide)];rfl
 obtain⟨v,M1,h1,h2⟩:=oy (λargs=>lt.bS rfl args) (jH aht n0 _) hrun;generalize (if rT bZ x=0 then vI x [] else [])=o at *;have e:=Fc h1;subst e;unfold abQ at h1 h2;by_cases ho:o=[]
 .rw[ag ho]at h1 h2;exact⟨_,M1,h2 [.dG] rfl,rfl,.inr ⟨rfl,ho,trivial⟩⟩
 rw[aa ho]at h1 h2;exact⟨_,M1,h2 [.own 1 o.length] rfl,rfl,.inl ⟨1,0,false,rfl,(jN (bL h1)).2,by simp,trivial⟩⟩
end
end Go.Proofs.YtbeckacfibledaaGreatDoor.ex

/- Expressions: whether one may be. Expressions: symbols looked up; operators of two operands. Expressions: the contract of Eval. Expressions: the contract of Names. -/
import Derived.Test.YtbeckacfibledaaGreatDoorGrc
import Derived.Test.YtbeckacfibledaaGreatDoorGxa
set_option linter.unusedVariables false
set_option linter.unusedSimpArgs false

namespace Go.Proofs.YtbeckacfibledaaGreatDoor.ex
open Go.Tv Go.Ev Go.Px
set_option maxRecDepth 100000
noncomputable section
theorem Pt (op n l r:Int)(s:List UInt8):fL bX (op,n,s,l,r)=true↔1<=op/\op<=16/\(op=1\/n=0)/\(op=2->bX s=true)/\(op≠2->s=[])/\(op<=4->l=0)/\(6<op\/r=0):=by
 simp only[fL,ak,cI,aV,aS,bH];constructor
 .rintro ⟨⟨⟨⟨⟨h1,h2⟩,h3⟩,h4⟩,h5⟩,h6⟩;refine⟨h1,h2,h3,λh=>by rw[ag h]at h4;exact h4,λh=>by rw[aa h]at h4;exact ef h4,λh=>by omega,h6⟩
 rintro⟨h1,h2,h3,h4,h4',h5,h6⟩;refine⟨⟨⟨⟨⟨h1,h2⟩,h3⟩,?_⟩,by omega⟩,h6⟩;split
 .rename_i h;exact h4 h
 rename_i h;exact aX (h4' h)
def JR (op n l r:Int)(s:List UInt8):Option AV :=
 let r3:Option AV:=ah (bB 6 op) (some (.bool true)) (some (.bool (bI r 0)))
 let r2:Option AV:=ah (!bB 4 op) (ah (!bI l 0) (some (.bool false)) r3) r3
 let r1b:Option AV:=ah (!bI op 2) (ah (!decide (s=[])) (some (.bool false)) r2) r2
 let r1:Option AV:=ah (bI op 2) (ah (!bX s) (some (.bool false)) r1b) r1b
 ah (bB op 1) (some (.bool false)) (ah (bB 16 op) (some (.bool false)) (ah (!bI op 1) (ah (!bI n 0) (some (.bool false)) r1) r1))
theorem aa5 (op n l r:Int)(s:List UInt8):aT X0 (cN M6 [] AV) gG 5 148 [.agg [.int .i64 op,.int .i64 n,.str s,.int .i64 l,.int .i64 r]] aG.empty (λv _=>some v)=JR op n l r s:=by kernel_rfl
theorem Pu (op n l r:Int)(s:List UInt8):JR op n l r s=some (.bool (fL bX (op,n,s,l,r))):=by
 have hf:∀b:Bool,(b=true↔fL bX (op,n,s,l,r)=true)->some (AV.bool b)=some (.bool (fL bX (op,n,s,l,r))):=λb h=>by rw[bO.2 h]
 have hi:=Pt op n l r s;unfold JR;simp only[cF,iP,cq,cw];have no:¬(1<=op/\op<=16/\(op=1\/n=0)/\(op=2->bX s=true)/\(op≠2->s=[])/\(op<=4->l=0)/\(6<op\/r=0))->some (AV.bool false)=some (.bool (fL bX (op,n,s,l,r))):=λh=>hf false ⟨λh=>(by cases h),λh2=>absurd (hi.1 h2) h⟩
 by_cases h1:op<1
 .rw[ag h1];exact no (by omega)
 rw[aa h1];by_cases h2:16<op
 .rw[ag h2];exact no (by omega)
 rw[aa h2];by_cases h3:op=1\/n=0
 .
  -- the text
  have r1:(if op=2 then ah (!bX s) (some (AV.bool false)) (if op=2 then (if op<=4 then (if l=0 then (if 6<op then some (AV.bool true) else some (AV.bool (bI r 0))) else some (AV.bool false)) else (if 6<op then some (AV.bool true) else some (AV.bool (bI r 0)))) else ah (!decide (s=[])) (some (AV.bool false)) (if op<=4 then (if l=0 then (if 6<op then some (AV.bool true) else some (AV.bool (bI r 0))) else some (AV.bool false)) else (if 6<op then some (AV.bool true) else some (AV.bool (bI r 0)))))
   else if op=2 then (if op<=4 then (if l=0 then (if 6<op then some (AV.bool true) else some (AV.bool (bI r 0))) else some (AV.bool false)) else (if 6<op then some (AV.bool true) else some (AV.bool (bI r 0)))) else ah (!decide (s=[])) (some (AV.bool false)) (if op<=4 then (if l=0 then (if 6<op then some (AV.bool true) else some (AV.bool (bI r 0))) else some (AV.bool false)) else (if 6<op then some (AV.bool true) else some (AV.bool (bI r 0)))))=some (.bool (fL bX (op,n,s,l,r))):=by
   have r3:∀(ht:(op=2->bX s=true)/\(op≠2->s=[])) (h5:op<=4->l=0),(if 6<op then some (AV.bool true) else some (AV.bool (bI r 0)))=some (.bool (fL bX (op,n,s,l,r))):=λht h5=>by
    split
    .rename_i h6;exact hf true ⟨λ_=>hi.2 ⟨by omega,by omega,h3,ht.1,ht.2,h5,.inl h6⟩,λ_=>rfl⟩
    rename_i h6;refine hf _ ?_;rw[hi,eF,eK];exact⟨λh=>⟨by omega,by omega,h3,ht.1,ht.2,h5,.inr h⟩,λh=>by omega⟩
   have r2:∀(ht:(op=2->bX s=true)/\(op≠2->s=[])),(if op<=4 then (if l=0 then (if 6<op then some (AV.bool true) else some (AV.bool (bI r 0))) else some (AV.bool false)) else (if 6<op then some (AV.bool true) else some (AV.bool (bI r 0))))=some (.bool (fL bX (op,n,s,l,r))):=λht=>by
    by_cases h4:op<=4
    .rw[ag h4];by_cases h5:l=0
     .rw[ag h5];exact r3 ht (λ_=>h5)
     rw[aa h5];exact no (by omega)
    rw[aa h4];exact r3 ht (by omega)
   by_cases ho:op=2
   .simp only[ag ho];cases hn:bX s with
    |true=>exact r2 ⟨λ_=>hn,λh=>absurd ho h⟩
    |false=>exact no (λh=>by have:=h.2.2.2.1 ho;rw[hn]at this;cases this)
   simp only[aa ho];by_cases hs:s=[]
   .rw[aX hs];exact r2 ⟨λh=>absurd h ho,λ_=>hs⟩
   rw[aU hs];exact no (λh=>hs (h.2.2.2.2.1 ho))
  rcases h3 with h3|h3
  .rw[ag h3];exact r1
  by_cases h3':op=1
  .rw[ag h3'];exact r1
  rw[aa h3',ag h3];exact r1
 rw[aa (λh=>h3 (.inl h)),aa (λh=>h3 (.inr h))];exact no (λh=>h3 h.2.2.1)
def gFd (args:List AV):Option (Bool×List fy) :=
 match args with
 |[.agg [.int .i64 op,.int .i64 n,.str s,.int .i64 l,.int .i64 r]]=>some (true,[.val (.bool (fL bX (op,n,s,l,r)))])
 |_=>none
theorem agL:cZ X0 fR 148 gFd :=
 cR (λargs=>lt.bR rfl args) (jy w9 n0) λargs rs hg=>by
  unfold gFd at hg;split at hg
  .rename_i op n s l r;simp only[aq,ax]at hg;obtain⟨h1,rfl⟩:=hg;exact⟨[.bool (fL bX (op,n,s,l,r))],gG,5,(aa5 op n l r s).trans (Pu op n l r s),rfl,rfl⟩
  cases hg
def M7:List vW:=(148,[none],gFd)::M6
theorem adC:iO X0 fR M7:=.cons agL w9
def pCk:List Bool:=[true,true,true,false,true,false]
def Tq:ez:=⟨gZ [2,3,10,11,12] pCk,.none,[71,47]⟩
def alv (x:List Nd)(o:AV)(i:Int):fM:=lq 80 [(2,.int .i64 0),(3,o),(10,.dH eC x),(11,.int .i64 x.length),(12,.int .i64 i)]
def jC0 (x:List Nd)(r m:Nat)(i:Int):Option AV:=iH X0 (cN M7 [] AV) Tq r 123 pCk (λv _=>some v) m (alv x .dG i) (oY [])
def jC1 (x:List Nd)(r m:Nat)(n:Nat)(o:List Int)(i:Int):Option AV:=iH X0 (cN M7 [] AV) Tq r 123 pCk (λv _=>some v) m (alv x (.own 0 n) i) (oY [.list 3 (.int .i64) o 0 false false])
def e2:Option AV:=some (.int .i64 2)
def XD (o:List Int)(i:Int)(k:Nat->List Int->Option AV):Option AV:=ah (Nat.ble (o.length+1) 2000000) (k (o.length+1) (o++[i])) none
def JS (o:List Int)(b:Int)(k:List Int->Option AV):Option AV:=ah (!bB b 0 && !bB o.length b) (k (o.take b.toNat)) none
def XE (o:List Int)(j:Int)(z:Int)(k:Option AV):Option AV:=Option.rec (motive:=λ_=>Option AV) none (λy=>ah (!bI z y) e2 k) (dQ o j)
def vO (n:Nat)(o:List Int)(i:Int)(nd:Nd)(go:Nat->List Int->Option AV):Option AV :=
 ah (!fL bX nd) e2 (ah (!bB 4 nd.1) (XD o i go)
  (ah (!bB 6 nd.1) (ah (bB n 1) e2 (XE o (IntKind.wrap .i64 (n-1)) nd.2.2.2.1 (JS o (IntKind.wrap .i64 (n-1)) λo=>XD o i go)))
   (ah (bB n 2) e2 (XE o (IntKind.wrap .i64 (n-2)) nd.2.2.2.1 (XE o (IntKind.wrap .i64 (n-1)) nd.2.2.2.2 (JS o (IntKind.wrap .i64 (n-2)) λo=>XD o i go))))))
set_option maxRecDepth 100000 in
theorem XF (x:List Nd)(r m n:Nat)(o:List Int)(i:Int):jC1 x r (m+1) n o i =
 ah (bB i x.length) (Option.rec (motive:=λ_=>Option AV) none (λnd=>vO n o i nd λn o=>jC1 x r m n o (IntKind.wrap .i64 (i+1))) (dQ x i)) (ah (!bI n 1) e2 (some (.int .i64 0))):=by kernel_rfl
set_option maxRecDepth 100000 in
theorem agN (x:List Nd)(r m:Nat)(i:Int):jC0 x r (m+1) i =
 ah (bB i x.length) (Option.rec (motive:=λ_=>Option AV) none (λnd=>ah (!fL bX nd) e2 (ah (!bB 4 nd.1) (jC1 x r m 1 [i] (IntKind.wrap .i64 (i+1))) (ah (!bB 6 nd.1) e2 e2))) (dQ x i)) e2:=by kernel_rfl
set_option maxRecDepth 100000 in
theorem aa6 (x:List Nd)(r:Nat):aT X0 (cN M7 [] AV) Tq r 123 [.dH eC x] aG.empty (λv _=>some v)=ah (bB 200 x.length) (some (.int .i64 3)) (jC0 x r r 0):=by kernel_rfl
set_option maxRecDepth 100000 in
theorem XG (r:Nat):aT X0 (cN M7 [] AV) Tq (r+1) 123 [.dG] aG.empty (λv _=>some v)=e2:=by kernel_rfl
theorem alx (x:List Nd)(hx:x.length<=1000)(r:Nat):∀(rest pre:List Nd) (m:Nat) (o:List Int),x=pre++rest->rest.length<m->o.length<=pre.length->jC1 x r m o.length o pre.length=some (.int .i64 (uo bX pre.length rest o)):=by
 intro rest;induction rest with
 |nil =>
  intro pre m o he hm ho;obtain⟨m,rfl⟩:∃m',m=m'+1:=⟨m-1,by simp at hm;omega⟩;have hl:x.length=pre.length:=by rw[he];simp
  rw[XF,fH (by omega)];show ah (!bI (o.length:Int) 1) e2 (some (.int .i64 0))=_;rw[cw,uo];by_cases h:o.length=1
  .rw[ag (by omega),ag h]
  rw[aa (by omega),aa h];rfl
 |cons nd rest ih =>
  intro pre m o he hm ho;obtain⟨m,rfl⟩:∃m',m=m'+1:=⟨m-1,by simp at hm;omega⟩;have hl:x.length=pre.length+(rest.length+1):=by rw[he];simp
  have hg:dQ x (pre.length:Int)=some nd:=by rw[he];exact lY pre rest nd
  have hin:∀o':List Int,o'.length<=pre.length->XD o' pre.length (λn o=>jC1 x r m n o ((pre.length:Int)+1))=some (.int .i64 (uo bX (pre.length+1) rest (o'++[(pre.length:Int)]))):=λo' ho'=>by
   have:=ih (pre++[nd]) m (o'++[(pre.length:Int)]) (by rw[he];simp) (by simp at hm;omega) (by simp;omega);simp only[aA,aJ,bz,bV]at this;unfold XD;rw[dS (by omega)];exact this
  rw[XF,qG (by omega),hg,i64_in (n:=(pre.length:Int)+1) (by omega) (by omega)];show vO o.length o pre.length nd (λn o=>jC1 x r m n o ((pre.length:Int)+1))=_;unfold vO;rw[uo];cases Ul:fL bX nd with
  |false=>rfl
  |true =>
   show ah (!bB 4 nd.1) _ _=_;rw[ag rfl,iP];unfold EV;by_cases h4:nd.1<=4
   .rw[ag h4,ag h4];exact hin o ho
   rw[aa h4,aa h4,iP];have XH:∀(j:Nat) (z:Int) (k:Option AV) (R:Option AV),j<o.length->(o[j]? ≠ some z->R=e2)->(o[j]? = some z->k=R)->XE o (j:Int) z k=R:=λj z k R hj h1 h2=>by
    unfold XE;rw[uh,aP hj];show ah (!bI z o[j]) e2 k=_;rw[cw];by_cases hz:z=o[j]
    .rw[ag hz];exact h2 (by rw[aP hj,hz])
    rw[aa hz];exact(h1 (by rw[aP hj];intro h;exact hz (bM h).symm)).symm
   have aly:∀(j:Nat) (k:List Int->Option AV),j<=o.length->JS o (j:Int) k=k (o.take j):=λj k hj=>by
    unfold JS;rw[fH (by omega),fH (by omega)];rfl
   by_cases h6:nd.1<=6
   .rw[ag h6,ag h6,cF];by_cases hn:o.length<1
    .rw[ag (by omega),ag (.inl hn)];rfl
    rw[aa (by omega)];have e1:IntKind.wrap .i64 ((o.length:Int)-1)=((o.length-1:Nat):Int):=by rw[i64_in (by omega) (by omega)];omega
    rw[e1];refine XH _ _ _ _ (by omega) (λh=>by rw[ag (.inr h)];rfl) λh=>?_
    rw[aa (by rintro (h1|h1)<;>first|exact hn h1|exact h1 h),aly _ _ (by omega)];exact hin _ (by simp;omega)
   rw[aa h6,aa h6,cF];by_cases hn:o.length<2
   .rw[ag (by omega),ag (.inl hn)];rfl
   rw[aa (by omega)];have e1:IntKind.wrap .i64 ((o.length:Int)-1)=((o.length-1:Nat):Int):=by rw[i64_in (by omega) (by omega)];omega
   have e2':IntKind.wrap .i64 ((o.length:Int)-2)=((o.length-2:Nat):Int):=by rw[i64_in (by omega) (by omega)];omega
   rw[e1,e2'];refine XH _ _ _ _ (by omega) (λh=>by rw[ag (.inr (.inl h))];rfl) λh=>?_
   refine XH _ _ _ _ (by omega) (λh'=>by rw[ag (.inr (.inr h'))];rfl) λh'=>?_
   rw[aa (by rintro (h1|h1|h1)<;>first|exact hn h1|exact h1 h|exact h1 h'),aly _ _ (by omega)];exact hin _ (by simp;omega)
theorem alz (x:List Nd):aT X0 (cN M7 [] AV) Tq 202 123 [.dH eC x] aG.empty (λv _=>some v)=some (.int .i64 (rJ bX x)):=by
 rw[aa6,cF];unfold rJ;by_cases h:200<x.length
 .rw[ag (by omega),ag h]
 rw[aa (by omega),aa h,agN];cases x with
 |nil=>rfl
 |cons nd rest =>
  rw[qG (by simp)];show ah (!fL bX nd) e2 (ah (!bB 4 nd.1) (jC1 (nd::rest) 202 201 1 [0] (IntKind.wrap .i64 (0+1))) (ah (!bB 6 nd.1) e2 e2))=_;rw[uo];cases Ul:fL bX nd with
  |false=>rfl
  |true =>
   show ah (!bB 4 nd.1) _ _=_;rw[ag rfl,iP];unfold EV;by_cases h4:nd.1<=4
   .rw[ag h4,ag h4];simp only[aJ]at h;exact alx (nd::rest) (by simp;omega) 202 rest [nd] 201 [0] rfl (by omega) (by simp)
   rw[aa h4,aa h4,iP];by_cases h6:nd.1<=6
   .rw[ag h6,ag h6];rfl
   rw[aa h6,aa h6];rfl
def gCk (args:List AV):Option (Bool×List fy) :=
 match args with
 |[L]=>match Jp eC L with
  |some x=>some (true,[.val (.int .i64 (rJ bX x))])
  |none=>none
 |_=>none
theorem O7:cZ X0 fR 123 gCk :=
 cR (λargs=>lt.bR rfl args) (jy adC n0) λargs rs hg=>by
  unfold gCk at hg;split at hg
  .split at hg
   .rename_i x hx;simp only[aq,ax]at hg;obtain⟨h1,rfl⟩:=hg;refine⟨[.int .i64 (rJ bX x)],Tq,202,?_,rfl,rfl⟩;rcases rX hx with rfl|⟨rfl,rfl⟩
    .exact alz x
    exact XG 201
   cases hg
  cases hg
def M8:List vW:=(123,[some eC],gCk)::M7
theorem alA:iO X0 fR M8:=.cons O7 adC
def iz:Tv.Ty:=.pair .str (.pair (.int .i64) .bool)
def p18:List Bool:=[true,false,true,false]
def Pv:ez:=⟨gZ [0,1,4,5,6] p18,.none,[]⟩
def Tt (q:Sym):AV:=.agg [.str q.1,.int .i64 q.2.1,.bool q.2.2]
def Mu:Option Sym->AV
 |some q=>.fG [Tt q,.bool true]
 |none=>.fG [Tt ([],0,false),.bool false]
def jLa (f:FuncId)(l:List Sym)(s:List UInt8)(r m:Nat)(i:Int):Option AV:=iH X0 (cN [] [] AV) Pv r f p18 (λv _=>some v) m (lq 26 [(0,.dH iz l),(1,.str s),(4,.ptr 0 0),(5,.bool false),(6,.int .i64 i)]) (oY [.cells 59 [.str [],.int .i64 0,.bool false]])
def ij (l:List Sym)(s:List UInt8)(i:Int)(go:Option AV):Option AV :=
 ah (!bB i 0) (Option.rec (motive:=λ_=>Option AV) none (λy=>ah (decide (y.1=s)) (Option.rec (motive:=λ_=>Option AV) none (λy=>some (Mu (some y))) (dQ l i)) go) (dQ l i)) (some (Mu none))
theorem aa9 (l:List Sym)(s:List UInt8)(r m:Nat)(i:Int):jLa 124 l s r (m+1) i=ij l s i (jLa 124 l s r m (IntKind.wrap .i64 (i-1))):=by kernel_rfl
theorem XI (l:List Sym)(s:List UInt8)(r:Nat):aT X0 (cN [] [] AV) Pv r 124 [.dH iz l,.str s] aG.empty (λv _=>some v)=jLa 124 l s r r (IntKind.wrap .i64 ((l.length:Int)-1)):=by kernel_rfl
theorem XJ (s:List UInt8):aT X0 (cN [] [] AV) Pv 5 124 [.dG,.str s] aG.empty (λv _=>some v)=some (Mu none):=by kernel_rfl
theorem XK {f:FuncId}{l:List Sym}(hl:l.length<=2000000){s:List UInt8}{r:Nat}(step:∀m i,jLa f l s r (m+1) i=ij l s i (jLa f l s r m (IntKind.wrap .i64 (i-1)))) :
 ∀(n:Nat) (pre Ka:List Sym) (m:Nat),pre.length=n->l=pre++Ka->n<m->jLa f l s r m ((n:Int)-1)=some (Mu (JT pre.reverse s))
 |0,pre,Ka,m,hp,he,hm=>by
  obtain⟨m,rfl⟩:∃m',m=m'+1:=⟨m-1,by omega⟩;have:pre=[]:=aQ.1 hp;subst this;rw[step];rfl
 |n+1,pre,Ka,m,hp,he,hm=>by
  obtain⟨m,rfl⟩:∃m',m=m'+1:=⟨m-1,by omega⟩;rcases List.eq_nil_or_concat pre with rfl|⟨pre',a,rfl⟩
  .simp at hp
  rw[List.concat_eq_append]at hp he ⊢;have hp':pre'.length=n:=by simpa using hp
  have Nw:n<l.length:=by rw[he];simp;omega
  have hg:dQ l (n:Int)=some a:=by rw[he,<-hp',bJ];exact lY pre' _ a
  have hin:=XK hl step n pre' ([a]++Ka) m hp' (by rw[he];simp) (by omega);have e1:((n+1:Nat):Int)-1=n:=by omega
  rw[step,e1];unfold ij;rw[fH (by omega),hg,i64_in (n:=(n:Int)-1) (by omega) (by omega),hin];rw[List.reverse_append];show ah (decide (a.1=s)) (some (Mu (some a))) _=some (Mu (if a.1=s then some a else JT pre'.reverse s));by_cases h:a.1=s
  .rw[aX h,ag h]
  rw[aU h,aa h]
def Rb (args:List AV):Option (Bool×List fy) :=
 match args with
 |[L,.str s]=>match Jp iz L with
  |some l=>some (Nat.ble l.length 2000000,[.val (Tt ((CA l s).getD ([],0,false))),.val (.bool (CA l s).isSome)])
  |none=>none
 |_=>none
theorem aba (o:Option Sym):Mu o = .fG [Tt (o.getD ([],0,false)),.bool o.isSome]:=by cases o<;>rfl
theorem XL {f:FuncId}(hk:lt.inl f=true)(h0:∀s,aT X0 (cN [] [] AV) Pv 5 f [.dG,.str s] aG.empty (λv _=>some v)=some (Mu none))(h1:∀l s r,aT X0 (cN [] [] AV) Pv r f [.dH iz l,.str s] aG.empty (λv _=>some v)=jLa f l s r r (IntKind.wrap .i64 ((l.length:Int)-1)))
 (step:∀l s r m i,jLa f l s r (m+1) i=ij l s i (jLa f l s r m (IntKind.wrap .i64 (i-1)))):cZ X0 fR f Rb :=
 cR (λargs=>lt.bR hk args) (jy .nil n0) λargs rs hg=>by
  unfold Rb at hg;split at hg;case h_2=>cases hg
  split at hg;case h_2=>cases hg
  rename_i s _ l hx;simp only[aq,ax]at hg;obtain⟨h2,rfl⟩:=hg;have h2:=ay h2;rcases rX hx with rfl|⟨rfl,rfl⟩
  .refine ⟨[Tt ((CA l s).getD ([],0,false)),.bool (CA l s).isSome],Pv,l.length+1,?_,rfl,rfl⟩;rw[h1,i64_in (n:=(l.length:Int)-1) (by omega) (by omega),XK h2 (step l s _) l.length l [] _ rfl (fA l).symm (by omega),aba];rfl
  exact⟨[Tt ([],0,false),.bool false],Pv,5,h0 s,rfl,rfl⟩
theorem abb:cZ X0 fR 124 Rb:=XL rfl XJ XI aa9
section
variable {β:Type} (R:Int->Bool->Option β) (op a b:Int)
def agO:Option β:=ah (bI b 0) (R 0 false) (ah (bI op 8) (ah (bI b 0) none (R (IntKind.wrap .i64 (Int.tdiv a b)) true)) (ah (bI b 0) none (R (Int.tmod a b) true)))
def shB:Option β:=ah (bB b 0) (R 0 false) (ah (bI op 12)
 (ah (bB (IntKind.wrap .u64 b) 0) none (R (IntKind.wrap .i64 (IntKind.wrap .u64 (IntKind.wrap .u64 a*2 ^ min (Int.toNat (IntKind.wrap .u64 b)) 64))) true))
 (ah (bB (IntKind.wrap .u64 b) 0) none (R (IntKind.wrap .i64 (Int.fdiv (IntKind.wrap .u64 a) (2 ^ min (Int.toNat (IntKind.wrap .u64 b)) 64))) true)))
def agP:Option β:=ah (bI op 14) (R (IntKind.wrap .i64 ↑(BitVec.toNat (BitVec.ofInt 64 a &&& BitVec.ofInt 64 b))) true)
 (ah (bI op 15) (R (IntKind.wrap .i64 ↑(BitVec.toNat (BitVec.ofInt 64 a ^^^ BitVec.ofInt 64 b))) true) (R (IntKind.wrap .i64 ↑(BitVec.toNat (BitVec.ofInt 64 a ||| BitVec.ofInt 64 b))) true))
def agQ:Option β:=ah (bI op 10) (R (IntKind.wrap .i64 (a+b)) true) (ah (bI op 11) (R (IntKind.wrap .i64 (a-b)) true)
 (ah (bI op 12) (ah (bI op 12) (shB R op a b) (agP R op a b)) (ah (bI op 13) (shB R op a b) (agP R op a b))))
def abc:Option β:=ah (bI op 7) (R (IntKind.wrap .i64 (a*b)) true) (ah (bI op 8) (ah (bI op 8) (agO R op a b) (agQ R op a b)) (ah (bI op 9) (agO R op a b) (agQ R op a b)))
end
theorem agR (b:Int):0<=IntKind.wrap .u64 b:=by
 unfold IntKind.wrap;have:IntKind.signed .u64=false:=rfl;simp only[this,iS];exact Int.emod_nonneg _ (by decide)
def AF (op a b:Int):Int×Bool:=((abc (λy k=>some (y,k)) op a b).getD (0,false))
theorem abd {β:Type}(R:Int->Bool->Option β)(op a b:Int):abc R op a b=R (AF op a b).1 (AF op a b).2:=by
 unfold AF abc agO agQ shB agP;rw[fH (a:=IntKind.wrap .u64 b) (agR b)];cases bI op 7
 .cases bI op 8
  .cases bI op 9
   .cases bI op 10
    .cases bI op 11
     .cases bI op 12
      .cases bI op 13
       .cases bI op 14
        .cases bI op 15<;>rfl
        rfl
       cases bB b 0<;>rfl
      cases bB b 0<;>rfl
     rfl
    rfl
   cases bI b 0<;>rfl
  cases bI b 0<;>rfl
 rfl
theorem agS (op a b:Int):aT X0 (cN [] [] AV) gG 5 125 [.int .i64 op,.int .i64 a,.int .i64 b] aG.empty (λv _=>some v)=abc (λy k=>some (.fG [.int .i64 y,.bool k])) op a b:=by kernel_rfl
def gBi (args:List AV):Option (Bool×List fy) :=
 match args with
 |[.int .i64 op,.int .i64 a,.int .i64 b]=>some (true,[.val (.int .i64 (AF op a b).1),.val (.bool (AF op a b).2)])
 |_=>none
theorem agT:cZ X0 fR 125 gBi :=
 cR (λargs=>lt.bR rfl args) (jy .nil n0) λargs rs hg=>by
  unfold gBi at hg;split at hg;case h_2=>cases hg
  rename_i op a b;simp only[aq,ax]at hg;obtain⟨h1,rfl⟩:=hg;exact⟨[.int .i64 (AF op a b).1,.bool (AF op a b).2],gG,5,(agS op a b).trans (abd _ op a b),rfl,rfl⟩
def M13:List vW:=(125,[none,none,none],gBi)::(124,[some iz,none],Rb)::M8
theorem XM:iO X0 fR M13:=.cons agT (.cons abb alA)
def pE:List Bool:=[true,true,true,true,false,true,false]
def anE:ez:=⟨gZ [2,3,1,0,8,9,10,12,13,25,26,27] pE,.none,[]⟩
def jE (L:AV)(x:List Nd)(h s:Int)(r m:Nat)(v:List Int)(p:Bool)(i:Int):Option AV :=
 iH X0 (cN M13 [] AV) anE r 87 pE (λv _=>some v) m (lq 114 [(2,.int .i64 h),(3,.int .i64 s),(1,L),(0,.dH eC x),(8,.int .i64 0),(9,.bool false),(10,.int .i64 0),(12,.D8 0 200),(13,.bool p),(25,.dH eC x),(26,.int .i64 x.length),(27,.int .i64 i)]) (oY [.list 178 (.int .i64) v 0 true false])
def Fv (v:List Int)(i:Int)(y:Int)(k:List Int->Option AV):Option AV:=Option.rec (motive:=λ_=>Option AV) none (λ_=>k (v.set i.toNat y)) (dQ v i)
def Mv (v:List Int)(i:Int)(k:Int->Option AV):Option AV:=Option.rec (motive:=λ_=>Option AV) none k (dQ v i)
def Tu (e:Int):Option AV:=some (.fG [.int .i64 0,.bool false,.int .i64 e])
def XN (a:Int):Int:=IntKind.wrap .i64 (0-a)
def XO (a:Int):Int:=IntKind.wrap .i64 ((BitVec.ofInt 64 (-1) ^^^ BitVec.ofInt 64 a).toNat)
def agU (l:List Sym)(s:List UInt8):Sym:=(CA l s).getD ([],0,false)
def HK (x:List Nd)(l:List Sym)(h s:Int)(v:List Int)(p:Bool)(i:Int)(go:List Int->Bool->Option AV):Option AV :=
 ah (bB i x.length) (Option.rec (motive:=λ_=>Option AV) none (λnd =>
  ah (bI nd.1 1) (Fv v i nd.2.1 λv=>go v p)
  (ah (bI nd.1 2) (ah (Nat.ble l.length 2000000) (ah (!(CA l nd.2.2.1).isSome) (Tu 6) (Fv v i (agU l nd.2.2.1).2.1 λv=>ah p (go v true) (go v (agU l nd.2.2.1).2.2))) none)
  (ah (bI nd.1 3) (Fv v i h λv=>go v true)
  (ah (bI nd.1 4) (Fv v i s λv=>go v true)
  (ah (bI nd.1 5) (Mv v nd.2.2.2.1 λa=>Fv v i (XN a) λv=>go v p)
  (ah (bI nd.1 6) (Mv v nd.2.2.2.1 λa=>Fv v i (XO a) λv=>go v p)
  (Mv v nd.2.2.2.1 λa=>Mv v nd.2.2.2.2 λb=>ah (!(AF nd.1 a b).2) (Tu 5) (Fv v i (AF nd.1 a b).1 λv=>go v p)))))))) (dQ x i))
 (Mv v (IntKind.wrap .i64 ((x.length:Int)-1)) λy=>some (.fG [.int .i64 y,.bool p,.int .i64 0]))
theorem agV (x:List Nd)(l:List Sym)(h s:Int)(r m:Nat)(v:List Int)(p:Bool)(i:Int):jE (.dH iz l) x h s r (m+1) v p i=HK x l h s v p i λv p=>jE (.dH iz l) x h s r m v p (IntKind.wrap .i64 (i+1)):=by kernel_rfl
theorem agW (x:List Nd)(h s:Int)(r m:Nat)(v:List Int)(p:Bool)(i:Int):jE .dG x h s r (m+1) v p i=HK x [] h s v p i λv p=>jE .dG x h s r m v p (IntKind.wrap .i64 (i+1)):=by kernel_rfl
theorem abe (x:List Nd)(l:List Sym)(h s:Int)(r:Nat):aT X0 (cN M13 [] AV) anE r 87 [.dH eC x,.dH iz l,.int .i64 h,.int .i64 s] aG.empty (λv _=>some v) =
 ah (!bI (rJ bX x) 0) (Tu (rJ bX x)) (jE (.dH iz l) x h s r r (List.replicate 200 0) false 0):=by kernel_rfl
theorem abf (x:List Nd)(h s:Int)(r:Nat):aT X0 (cN M13 [] AV) anE r 87 [.dH eC x,.dG,.int .i64 h,.int .i64 s] aG.empty (λv _=>some v) =
 ah (!bI (rJ bX x) 0) (Tu (rJ bX x)) (jE .dG x h s r r (List.replicate 200 0) false 0):=by kernel_rfl
theorem AG {v:List Int}{i:Int}(h0:0<=i)(h1:i<v.length)(k:Int->Option AV):Mv v i k=k (Fu v i):=by
 obtain⟨n,rfl⟩:∃n:Nat,i=n:=⟨i.toNat,by omega⟩;unfold Mv Fu;rw[uh,aP (by omega)];show k v[n]=k ((v[n]?).getD 0);rw[aP (by omega)];rfl
theorem abg {v:List Int}{n:Nat}(h1:n<v.length)(y:Int)(k:List Int->Option AV):Fv v n y k=k (v.set n y):=by
 unfold Fv;rw[uh,aP h1];rfl
def abh (q:Int×Bool×Int):AV:=.fG [.int .i64 q.1,.bool q.2.1,.int .i64 q.2.2]
theorem alE {x:List Nd}{l:List Sym}{h s:Int}{J:Nat->List Int->Bool->Int->Option AV}(step:∀m v p i,J (m+1) v p i=HK x l h s v p i λv p=>J m v p (IntKind.wrap .i64 (i+1)))
 (hl:l.length<=2000000) (hx:x.length<=200) (hne:x≠[]):∀(rest pre:List Nd) (m:Nat) (v:List Int) (p:Bool),x=pre++rest->rest.length<m->v.length=200->aa7 pre.length rest ->
  J m v p pre.length=some (abh (evL XN XO AF l h s rest pre.length v p)):=by
 intro rest;induction rest with
 |nil =>
  intro pre m v p he hm hv hb;obtain⟨m,rfl⟩:∃m',m=m'+1:=⟨m-1,by simp at hm;omega⟩;have hl':x.length=pre.length:=by rw[he];simp
  have hp:0<x.length:=dJ.2 hne;rw[step];unfold HK;rw[fH (by omega),i64_in (n:=(x.length:Int)-1) (by omega) (by omega)];show Mv v ((x.length:Int)-1) _=_;rw[AG (by omega) (by omega),hl'];rfl
 |cons nd rest ih =>
  intro pre m v p he hm hv hb;obtain⟨m,rfl⟩:∃m',m=m'+1:=⟨m-1,by simp at hm;omega⟩;have hl':x.length=pre.length+(rest.length+1):=by rw[he];simp
  have hg:dQ x (pre.length:Int)=some nd:=by rw[he];exact lY pre rest nd
  obtain⟨⟨b1,b2,b3⟩,hb'⟩:=hb;have go:∀(y:Int) (q:Bool),J m (v.set pre.length y) q ((pre.length:Int)+1)=some (abh (evL XN XO AF l h s rest (pre.length+1) (v.set pre.length y) q)):=λy q=>by
   have:=ih (pre++[nd]) m (v.set pre.length y) q (by rw[he];simp) (by simp at hm;omega) (by simp[hv]) (by simpa using hb');simpa using this
  have hi:pre.length<v.length:=by omega
  rw[step];unfold HK;rw[qG (by omega),hg,i64_in (n:=(pre.length:Int)+1) (by omega) (by omega)];show ah (bI nd.1 1) _ _=_;unfold evL opE;have done:∀(y:Int) (q:Bool) (q':Bool),q'=(p||q)->Fv v pre.length y (λv=>J m v q' ((pre.length:Int)+1))=some (abh (if ((0,y,q):Int×Int×Bool).1=0 then evL XN XO AF l h s rest (pre.length+1) (v.set pre.length ((0,y,q):Int×Int×Bool).2.1) (p||((0,y,q):Int×Int×Bool).2.2) else (0,false,((0,y,q):Int×Int×Bool).1))):=λy q q' hq=>by
   rw[abg hi,ag rfl,go,hq]
  rw[cq];by_cases h1:nd.1=1
  .simp only[ag h1];exact done _ _ _ (by simp)
  rw[aa h1,cq];simp only[aa h1];by_cases h2:nd.1=2
  .simp only[ag h2];rw[dS hl];unfold agU;cases hL:CA l nd.2.2.1 with
   |none=>rfl
   |some q =>
    show Fv v pre.length q.2.1 (λv=>ah p (J m v true _) (J m v q.2.2 _))=_;cases p with
    |true=>exact done _ _ _ (by simp)
    |false=>exact done _ _ _ (by simp)
  rw[aa h2,cq];simp only[aa h2];by_cases h3:nd.1=3
  .simp only[ag h3];exact done _ _ _ (by simp)
  rw[aa h3,cq];simp only[aa h3];by_cases h4:nd.1=4
  .simp only[ag h4];exact done _ _ _ (by simp)
  rw[aa h4,cq];simp only[aa h4];obtain⟨c1,c2⟩:=b2 (by omega);by_cases h5:nd.1=5
  .simp only[ag h5];rw[AG c1 (by omega)];exact done _ _ _ (by simp)
  rw[aa h5,cq];simp only[aa h5];by_cases h6:nd.1=6
  .simp only[ag h6];rw[AG c1 (by omega)];exact done _ _ _ (by simp)
  simp only[aa h6];obtain⟨d1,d2⟩:=b3 (by omega);rw[AG c1 (by omega),AG d1 (by omega)];cases hB:(AF nd.1 (Fu v nd.2.2.2.1) (Fu v nd.2.2.2.2)).2 with
  |true=>rw[ag rfl];exact done _ _ _ (by simp)
  |false=>rw[aa mE];rfl
def Rc (x:List Nd)(l:List Sym)(h s:Int):Int×Bool×Int:=if rJ bX x=0 then evL XN XO AF l h s x 0 (List.replicate 200 0) false else (0,false,rJ bX x)
theorem alF {x:List Nd}{l:List Sym}{h s:Int}{T:Option AV}{J:Nat->List Int->Bool->Int->Option AV}(e:T=ah (!bI (rJ bX x) 0) (Tu (rJ bX x)) (J 202 (List.replicate 200 0) false 0))
 (step:∀m v p i,J (m+1) v p i=HK x l h s v p i λv p=>J m v p (IntKind.wrap .i64 (i+1))) (hl:l.length<=2000000):T=some (abh (Rc x l h s)):=by
 rw[e,cw];unfold Rc;by_cases hc:rJ bX x=0
 .rw[ag hc,ag hc];obtain⟨h1,h2,h3⟩:=AE hc;exact alE step hl h2 h1 x [] 202 _ false rfl (by omega) (iI ..) h3
 rw[aa hc,aa hc];rfl
def gEv (args:List AV):Option (Bool×List fy) :=
 match args with
 |[X,L,.int .i64 h,.int .i64 s]=>match Jp eC X,Jp iz L with
  |some x,some l=>some (Nat.ble l.length 2000000,[.val (.int .i64 (Rc x l h s).1),.val (.bool (Rc x l h s).2.1),.val (.int .i64 (Rc x l h s).2.2)])
  |_,_=>none
 |_=>none
theorem abj (L:AV)(h s:Int)(r:Nat):aT X0 (cN M13 [] AV) anE r 87 [.dG,L,.int .i64 h,.int .i64 s] aG.empty (λv _=>some v)=Tu 2:=by kernel_rfl
theorem XP:cZ X0 fR 87 gEv :=
 cR (λargs=>lt.bR rfl args) (jy XM n0) λargs rs hg=>by
  unfold gEv at hg;split at hg;case h_2=>cases hg
  split at hg;case h_2=>cases hg
  rename_i h s _ _ x l hx hl;simp only[aq,ax]at hg;obtain⟨h2,rfl⟩:=hg;have h2:=ay h2;refine⟨[.int .i64 (Rc x l h s).1,.bool (Rc x l h s).2.1,.int .i64 (Rc x l h s).2.2],anE,202,?_,rfl,rfl⟩;rcases rX hx with rfl|⟨rfl,rfl⟩
  .rcases rX hl with rfl|⟨rfl,rfl⟩
   .exact alF (abe x l h s 202) (λm v p i=>agV x l h s 202 m v p i) h2
   exact alF (abf x h s 202) (λm v p i=>agW x h s 202 m v p i) h2
  rw[abj];rfl
def M14:List vW:=(87,[some eC,some iz,none,none],gEv)::M13
theorem agX:iO X0 fR M14:=.cons XP XM
def pNm:List Bool:=[true,true,true,true,false,true,false]
def Ji:ez:=⟨gZ [4,3,11,12,13] pNm,.none,[]⟩
abbrev Key:=List UInt8×Int
def XQ (x:List Nd)(r m:Nat)(ks:List Key)(i:Int):Option (AV×Option Row):=iH X0 (cN M14 [] _) Ji r 86 pNm vo m (lq 37 [(4,.yu 0),(3,.dG),(11,.dH eC x),(12,.int .i64 x.length),(13,.int .i64 i)]) (oY [.mp 68 ks])
def Mw (x:List Nd)(r m n:Nat)(ks:List Key)(o:List (List UInt8))(i:Int):Option (AV×Option Row):=iH X0 (cN M14 [] _) Ji r 86 pNm vo m (lq 37 [(4,.yu 0),(3,.own 1 n),(11,.dH eC x),(12,.int .i64 x.length),(13,.int .i64 i)]) (oY [.mp 68 ks,.list 9 .str o 0 false false])
def vm (x:List Nd)(ks:List Key)(i:Int)(fin skip:Option (AV×Option Row))(new:List UInt8->Option (AV×Option Row)):Option (AV×Option Row) :=
 ah (bB i x.length) (Option.rec (motive:=λ_=>Option (AV×Option Row)) none (λnd=>ah (!bI nd.1 2) skip (ah (bB 0 (iE ks nd.2.2.1)) skip (new nd.2.2.1))) (dQ x i)) fin
theorem Rd (x:List Nd)(r m:Nat)(ks:List Key)(i:Int):XQ x r (m+1) ks i=vm x ks i (some (.dG,none)) (XQ x r m ks (IntKind.wrap .i64 (i+1))) λs=>Mw x r m 1 (ia ks s 1) [s] (IntKind.wrap .i64 (i+1)):=by kernel_rfl
theorem Re (x:List Nd)(r m n:Nat)(ks:List Key)(o:List (List UInt8))(i:Int):Mw x r (m+1) n ks o i=vm x ks i (some (.own 1 n,some (.list 9 .str o 0 false false))) (Mw x r m n ks o (IntKind.wrap .i64 (i+1)))
 λs=>ah (Nat.ble (o.length+1) 2000000) (Mw x r m (o.length+1) (ia ks s 1) (o++[s]) (IntKind.wrap .i64 (i+1))) none:=by kernel_rfl
theorem Jk (x:List Nd)(r:Nat):aT X0 (cN M14 [] _) Ji r 86 [.dH eC x] aG.empty vo=ah (!bI (rJ bX x) 0) (some (.dG,none)) (XQ x r r [] 0):=by kernel_rfl
theorem XR (r:Nat):aT X0 (cN M14 [] _) Ji r 86 [.dG] aG.empty vo=some (.dG,none):=by kernel_rfl
def keys (o:List (List UInt8)):List Key:=o.map λs=>(s,1)
theorem Mx (s:List UInt8):∀o:List (List UInt8),iE (keys o) s=if s∈o then 1 else 0
 |[]=>rfl
 |a::o=>by
  show ah (decide (s=a)) 1 (iE (keys o) s)=_;by_cases h:s=a
  .rw[aX h,ag (by simp[h])]
  rw[aU h];show iE (keys o) s=_;rw[Mx s o];by_cases h':s∈o
  .rw[ag h',ag (by simp[h'])]
  rw[aa h',aa (by simp[h,h'])]
theorem My {s:List UInt8}:∀{o:List (List UInt8)},s ∉ o->ia (keys o) s 1=keys (o++[s])
 |[],_=>rfl
 |a::o,h=>by
  have h1:s≠a:=λe=>h (by simp[e])
  have h2:s ∉ o:=λe=>h (by simp[e])
  show ah (decide (s=a)) ((a,1)::keys o) ((a,1)::ia (keys o) s 1)=_;rw[aU h1];show (a,1)::ia (keys o) s 1=_;rw[My h2];rfl
theorem Mz {x:List Nd}{nd:Nd}{pre rest:List Nd}{o:List (List UInt8)}(he:x=pre++nd::rest)(fin skip:Option (AV×Option Row))(new:List UInt8->Option (AV×Option Row)) :
 vm x (keys o) pre.length fin skip new=if nd.1=2/\nd.2.2.1 ∉ o then new nd.2.2.1 else skip:=by
 have hl:x.length=pre.length+(rest.length+1):=by rw[he];simp
 have hg:dQ x (pre.length:Int)=some nd:=by rw[he];exact lY pre rest nd
 unfold vm;rw[qG (by omega),hg];show ah (!bI nd.1 2) _ _=_;rw[cw,cF,Mx];by_cases h2:nd.1=2
 .rw[ag h2];by_cases hm:nd.2.2.1∈o
  .rw[ag hm,ag (by decide),aa (λh=>h.2 hm)]
  rw[aa hm,aa (by decide),ag ⟨h2,hm⟩]
 rw[aa h2,aa (λh=>h2 h.1)]
theorem HL {x:List Nd}{ks:List Key}(fin skip:Option (AV×Option Row))(new:List UInt8->Option (AV×Option Row)):vm x ks x.length fin skip new=fin:=by
 unfold vm;rw[fH (by omega)]
def Rf (o:List (List UInt8)):AV×Option Row:=(.own 1 o.length,some (.list 9 .str o 0 false false))
def abk (o:List (List UInt8)):AV×Option Row:=if o=[] then (.dG,none) else Rf o
theorem abl {x:List Nd}(hx:x.length<=200)(r:Nat):∀(rest pre:List Nd) (m:Nat) (o:List (List UInt8)),x=pre++rest->rest.length<m->o.length<=pre.length ->
 Mw x r m o.length (keys o) o pre.length=some (Rf (vu rest o)):=by
 intro rest;induction rest with
 |nil =>
  intro pre m o he hm ho;obtain⟨m,rfl⟩:∃m',m=m'+1:=⟨m-1,by simp at hm;omega⟩;obtain rfl:x=pre:=by rw[he];simp
  rw[Re,HL];rfl
 |cons nd rest ih =>
  intro pre m o he hm ho;obtain⟨m,rfl⟩:∃m',m=m'+1:=⟨m-1,by simp at hm;omega⟩;have hl:x.length=pre.length+(rest.length+1):=by rw[he];simp
  rw[Re,Mz he,i64_in (n:=(pre.length:Int)+1) (by omega) (by omega),vu];have go:∀o':List (List UInt8),o'.length<=pre.length+1->Mw x r m o'.length (keys o') o' ((pre.length:Int)+1)=some (Rf (vu rest o')):=λo' ho'=>by
   have:=ih (pre++[nd]) m o' (by rw[he];simp) (by simp at hm;omega) (by simp;omega);simpa using this
  split
  .rename_i h;rw[dS (by omega),My h.2];have:=go (o++[nd.2.2.1]) (by simp;omega);simpa using this
  exact go o (by omega)
theorem abm {x:List Nd}(hx:x.length<=200)(r:Nat):∀(rest pre:List Nd) (m:Nat),x=pre++rest->rest.length<m->XQ x r m [] pre.length=some (abk (vu rest [])):=by
 intro rest;induction rest with
 |nil =>
  intro pre m he hm;obtain⟨m,rfl⟩:∃m',m=m'+1:=⟨m-1,by simp at hm;omega⟩;obtain rfl:x=pre:=by rw[he];simp
  rw[Rd,HL];rfl
 |cons nd rest ih =>
  intro pre m he hm;obtain⟨m,rfl⟩:∃m',m=m'+1:=⟨m-1,by simp at hm;omega⟩;have hl:x.length=pre.length+(rest.length+1):=by rw[he];simp
  have hstep:=Mz (o:=[]) he (some (AV.dG,(none:Option Row))) (XQ x r m [] (IntKind.wrap .i64 ((pre.length:Int)+1))) λs=>Mw x r m 1 (ia [] s 1) [s] (IntKind.wrap .i64 ((pre.length:Int)+1))
  rw[Rd];refine hstep.trans ?_;rw[i64_in (n:=(pre.length:Int)+1) (by omega) (by omega),vu];split
  .rename_i h;have:=abl hx r rest (pre++[nd]) m [nd.2.2.1] (by rw[he];simp) (by simp at hm;omega) (by simp);have hne:vu rest [nd.2.2.1]≠[]:=λe=>by
    have:=(JU rest [nd.2.2.1] nd.2.2.1).2 (.inl (by simp));rw[e]at this;cases this
   unfold abk;rw[eR,aa hne];have h3:Mw x r m 1 [(nd.2.2.1,1)] [nd.2.2.1] ((pre.length:Int)+1)=some (Rf (vu rest [nd.2.2.1])):=by simpa[keys] using this
   exact h3
  have:=ih (pre++[nd]) m (by rw[he];simp) (by simp at hm;omega);simpa using this
def gNm (args:List AV):Option (Bool×List fy) :=
 match args with
 |[L]=>match Jp eC L with
  |some x=>some (true,[.list 9 .str (if rJ bX x=0 then vu x [] else [])])
  |none=>none
 |_=>none
theorem agY:cZ X0 fR 86 gNm:=by
 intro args rs hg;unfold gNm at hg;split at hg;case h_2=>cases hg
 rename_i L;split at hg;case h_2=>cases hg
 rename_i x hx;simp only[aq,ax]at hg;obtain⟨_,rfl⟩:=hg;have hrun:aT X0 (cN M14 [] _) Ji 202 86 [L] aG.empty vo=some (abk (if rJ bX x=0 then vu x [] else [])):=by
  rcases rX hx with rfl|⟨rfl,rfl⟩
  .rw[Jk,cw];by_cases h0:rJ bX x=0
   .rw[ag h0,ag h0];exact abm (AE h0).2.1 202 x [] 202 rfl (by have:=(AE h0).2.1;omega)
   rw[aa h0,aa h0];rfl
  rw[XR,aa (by decide)];rfl
 obtain⟨v,M1,h1,h2⟩:=oo (λargs=>lt.bR rfl args) (jy agX n0 _) hrun;generalize (if rJ bX x=0 then vu x [] else [])=o at *;have e:=EW h1;subst e;unfold abk at h1 h2;by_cases ho:o=[]
 .rw[ag ho]at h1 h2;exact⟨_,M1,h2 [.dG] rfl,rfl,.inr ⟨rfl,ho,trivial⟩⟩
 rw[aa ho]at h1 h2;exact⟨_,M1,h2 [.own 1 o.length] rfl,rfl,.inl ⟨1,0,false,rfl,(jI (bM h1)).2,by simp,trivial⟩⟩
end
end Go.Proofs.YtbeckacfibledaaGreatDoor.ex
